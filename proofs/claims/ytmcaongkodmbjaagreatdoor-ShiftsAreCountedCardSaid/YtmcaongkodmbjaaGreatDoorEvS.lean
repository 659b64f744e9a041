/- The types of this program that its functions name, and what is known of its variables. -/
import Derived.Test.YtmcaongkodmbjaaGreatDoorEvC
import Derived.Test.YtmcaongkodmbjaaGreatDoorProg
import Derived.Test.YtmcaongkodmbjaaGreatDoorChecked
import Derived.Test.YtmcaongkodmbjaaGreatDoorWShelf
import Derived.Lib.SplitLaws
import Derived.Shelf.Strings.SlTrimAscii
set_option linter.unusedVariables false
set_option linter.unusedSimpArgs false
namespace Go.EV
open Go Go.Proofs
noncomputable def tyL : List (Nat × TI) := [(3, ⟨Tryz.t3.desc, Tryz.t3⟩), (4, ⟨Tryz.t4.desc, Tryz.t4⟩), (5, ⟨Tryz.t5.desc, Tryz.t5⟩), (9, ⟨Tryz.t9.desc, Tryz.t9⟩), (21, ⟨Tryz.t21.desc, Tryz.t21⟩), (22, ⟨Tryz.t22.desc, Tryz.t22⟩), (23, ⟨Tryz.t23.desc, Tryz.t23⟩), (24, ⟨Tryz.t24.desc, Tryz.t24⟩), (25, ⟨Tryz.t24.desc, Tryz.t25⟩), (26, ⟨Tryz.t26.desc, Tryz.t26⟩), (27, ⟨Tryz.t26.desc, Tryz.t27⟩), (30, ⟨Tryz.t30.desc, Tryz.t30⟩), (32, ⟨Tryz.t3.desc, Tryz.t32⟩), (35, ⟨Tryz.t35.desc, Tryz.t35⟩), (38, ⟨Tryz.t38.desc, Tryz.t38⟩), (39, ⟨Tryz.t38.desc, Tryz.t39⟩), (47, ⟨Tryz.t47.desc, Tryz.t47⟩), (51, ⟨Tryz.t51.desc, Tryz.t51⟩), (54, ⟨Tryz.t54.desc, Tryz.t54⟩), (55, ⟨Tryz.t54.desc, Tryz.t55⟩), (63, ⟨Tryz.t63.desc, Tryz.t63⟩), (67, ⟨Tryz.t67.desc, Tryz.t67⟩), (68, ⟨Tryz.t67.desc, Tryz.t68⟩), (75, ⟨Tryz.t75.desc, Tryz.t75⟩), (79, ⟨Tryz.t79.desc, Tryz.t79⟩), (80, ⟨Tryz.t79.desc, Tryz.t80⟩), (86, ⟨Tryz.t86.desc, Tryz.t86⟩), (103, ⟨Tryz.t103.desc, Tryz.t103⟩), (107, ⟨Tryz.t107.desc, Tryz.t107⟩), (111, ⟨Tryz.t111.desc, Tryz.t111⟩), (112, ⟨Tryz.t111.desc, Tryz.t112⟩), (116, ⟨Tryz.t116.desc, Tryz.t116⟩), (124, ⟨Tryz.t124.desc, Tryz.t124⟩), (126, ⟨Tryz.t126.desc, Tryz.t126⟩), (130, ⟨Tryz.t3.desc, Tryz.t130⟩), (138, ⟨Tryz.t138.desc, Tryz.t138⟩), (140, ⟨Tryz.t140.desc, Tryz.t140⟩), (153, ⟨Tryz.t153.desc, Tryz.t153⟩), (155, ⟨Tryz.t155.desc, Tryz.t155⟩), (156, ⟨Tryz.t155.desc, Tryz.t156⟩), (157, ⟨Tryz.t140.desc, Tryz.t157⟩), (161, ⟨Tryz.t161.desc, Tryz.t161⟩), (172, ⟨Tryz.t172.desc, Tryz.t172⟩), (173, ⟨Tryz.t173.desc, Tryz.t173⟩), (174, ⟨Tryz.t173.desc, Tryz.t174⟩), (175, ⟨Tryz.t175.desc, Tryz.t175⟩), (176, ⟨Tryz.t176.desc, Tryz.t176⟩), (183, ⟨Tryz.t183.desc, Tryz.t183⟩), (184, ⟨Tryz.t184.desc, Tryz.t184⟩), (185, ⟨Tryz.t184.desc, Tryz.t185⟩), (187, ⟨Tryz.t187.desc, Tryz.t187⟩), (188, ⟨Tryz.t188.desc, Tryz.t188⟩), (189, ⟨Tryz.t189.desc, Tryz.t189⟩), (190, ⟨Tryz.t190.desc, Tryz.t190⟩), (191, ⟨Tryz.t190.desc, Tryz.t191⟩), (192, ⟨Tryz.t192.desc, Tryz.t192⟩), (193, ⟨Tryz.t193.desc, Tryz.t193⟩), (194, ⟨Tryz.t193.desc, Tryz.t194⟩), (196, ⟨Tryz.t196.desc, Tryz.t196⟩), (197, ⟨Tryz.t196.desc, Tryz.t197⟩)]
theorem tyOK : TyOK Tryz.prog (lookT tyL) := lookT_ok ⟨⟨Tryz.underlying3, info_of Tryz.type3, fun h => nomatch h⟩, ⟨Tryz.underlying4, info_of Tryz.type4, fun h => nomatch h⟩, ⟨Tryz.underlying5, info_of Tryz.type5, fun h => nomatch h⟩, ⟨Tryz.underlying9, info_of Tryz.type9, fun h => nomatch h⟩, ⟨Tryz.underlying21, info_of Tryz.type21, fun h => nomatch h⟩, ⟨Tryz.underlying22, info_of Tryz.type22, fun h => nomatch h⟩, ⟨Tryz.underlying23, info_of Tryz.type23, fun h => nomatch h⟩, ⟨Tryz.underlying24, info_of Tryz.type24, fun _ => ⟨by kernel_rfl, by kernel_rfl⟩⟩, ⟨Tryz.underlying25, info_of Tryz.type25, fun _ => ⟨by kernel_rfl, by kernel_rfl⟩⟩, ⟨Tryz.underlying26, info_of Tryz.type26, fun _ => ⟨by kernel_rfl, by kernel_rfl⟩⟩, ⟨Tryz.underlying27, info_of Tryz.type27, fun _ => ⟨by kernel_rfl, by kernel_rfl⟩⟩, ⟨Tryz.underlying30, info_of Tryz.type30, fun h => nomatch h⟩, ⟨Tryz.underlying32, info_of Tryz.type32, fun h => nomatch h⟩, ⟨Tryz.underlying35, info_of Tryz.type35, fun h => nomatch h⟩, ⟨Tryz.underlying38, info_of Tryz.type38, fun _ => ⟨by kernel_rfl, by kernel_rfl⟩⟩, ⟨Tryz.underlying39, info_of Tryz.type39, fun _ => ⟨by kernel_rfl, by kernel_rfl⟩⟩, ⟨Tryz.underlying47, info_of Tryz.type47, fun h => nomatch h⟩, ⟨Tryz.underlying51, info_of Tryz.type51, fun h => nomatch h⟩, ⟨Tryz.underlying54, info_of Tryz.type54, fun _ => ⟨by kernel_rfl, by kernel_rfl⟩⟩, ⟨Tryz.underlying55, info_of Tryz.type55, fun _ => ⟨by kernel_rfl, by kernel_rfl⟩⟩, ⟨Tryz.underlying63, info_of Tryz.type63, fun h => nomatch h⟩, ⟨Tryz.underlying67, info_of Tryz.type67, fun _ => ⟨by kernel_rfl, by kernel_rfl⟩⟩, ⟨Tryz.underlying68, info_of Tryz.type68, fun _ => ⟨by kernel_rfl, by kernel_rfl⟩⟩, ⟨Tryz.underlying75, info_of Tryz.type75, fun h => nomatch h⟩, ⟨Tryz.underlying79, info_of Tryz.type79, fun h => nomatch h⟩, ⟨Tryz.underlying80, info_of Tryz.type80, fun h => nomatch h⟩, ⟨Tryz.underlying86, info_of Tryz.type86, fun h => nomatch h⟩, ⟨Tryz.underlying103, info_of Tryz.type103, fun h => nomatch h⟩, ⟨Tryz.underlying107, info_of Tryz.type107, fun h => nomatch h⟩, ⟨Tryz.underlying111, info_of Tryz.type111, fun _ => ⟨by kernel_rfl, by kernel_rfl⟩⟩, ⟨Tryz.underlying112, info_of Tryz.type112, fun _ => ⟨by kernel_rfl, by kernel_rfl⟩⟩, ⟨Tryz.underlying116, info_of Tryz.type116, fun h => nomatch h⟩, ⟨Tryz.underlying124, info_of Tryz.type124, fun h => nomatch h⟩, ⟨Tryz.underlying126, info_of Tryz.type126, fun h => nomatch h⟩, ⟨Tryz.underlying130, info_of Tryz.type130, fun h => nomatch h⟩, ⟨Tryz.underlying138, info_of Tryz.type138, fun h => nomatch h⟩, ⟨Tryz.underlying140, info_of Tryz.type140, fun h => nomatch h⟩, ⟨Tryz.underlying153, info_of Tryz.type153, fun h => nomatch h⟩, ⟨Tryz.underlying155, info_of Tryz.type155, fun _ => ⟨by kernel_rfl, by kernel_rfl⟩⟩, ⟨Tryz.underlying156, info_of Tryz.type156, fun _ => ⟨by kernel_rfl, by kernel_rfl⟩⟩, ⟨Tryz.underlying157, info_of Tryz.type157, fun h => nomatch h⟩, ⟨Tryz.underlying161, info_of Tryz.type161, fun h => nomatch h⟩, ⟨Tryz.underlying172, info_of Tryz.type172, fun _ => ⟨by kernel_rfl, by kernel_rfl⟩⟩, ⟨Tryz.underlying173, info_of Tryz.type173, fun _ => ⟨by kernel_rfl, by kernel_rfl⟩⟩, ⟨Tryz.underlying174, info_of Tryz.type174, fun _ => ⟨by kernel_rfl, by kernel_rfl⟩⟩, ⟨Tryz.underlying175, info_of Tryz.type175, fun _ => ⟨by kernel_rfl, by kernel_rfl⟩⟩, ⟨Tryz.underlying176, info_of Tryz.type176, fun h => nomatch h⟩, ⟨Tryz.underlying183, info_of Tryz.type183, fun h => nomatch h⟩, ⟨Tryz.underlying184, info_of Tryz.type184, fun _ => ⟨by kernel_rfl, by kernel_rfl⟩⟩, ⟨Tryz.underlying185, info_of Tryz.type185, fun _ => ⟨by kernel_rfl, by kernel_rfl⟩⟩, ⟨Tryz.underlying187, info_of Tryz.type187, fun h => nomatch h⟩, ⟨Tryz.underlying188, info_of Tryz.type188, fun h => nomatch h⟩, ⟨Tryz.underlying189, info_of Tryz.type189, fun h => nomatch h⟩, ⟨Tryz.underlying190, info_of Tryz.type190, fun _ => ⟨by kernel_rfl, by kernel_rfl⟩⟩, ⟨Tryz.underlying191, info_of Tryz.type191, fun _ => ⟨by kernel_rfl, by kernel_rfl⟩⟩, ⟨Tryz.underlying192, info_of Tryz.type192, fun h => nomatch h⟩, ⟨Tryz.underlying193, info_of Tryz.type193, fun _ => ⟨by kernel_rfl, by kernel_rfl⟩⟩, ⟨Tryz.underlying194, info_of Tryz.type194, fun _ => ⟨by kernel_rfl, by kernel_rfl⟩⟩, ⟨Tryz.underlying196, info_of Tryz.type196, fun _ => ⟨by kernel_rfl, by kernel_rfl⟩⟩, ⟨Tryz.underlying197, info_of Tryz.type197, fun _ => ⟨by kernel_rfl, by kernel_rfl⟩⟩, trivial⟩
end Go.EV
namespace Go.EV
open Go Go.Proofs Go.RowKit
set_option maxHeartbeats 4000000
set_option maxRecDepth 100000
set_option linter.unusedVariables false
theorem mixedOK : Tryz.prog.follows .mixedOrders = true := Tryz.checked.mixed
theorem frame_asc {w w' : World} (h : w'.heap[3]? = w.heap[3]?) (ht : Lib.TabIs Tryz.prog w "strings.asciiSpace" .u8 Lib.asciiSpaceTab) : Lib.TabIs Tryz.prog w' "strings.asciiSpace" .u8 Lib.asciiSpaceTab := by
  unfold Lib.TabIs World.var? at ht ⊢
  rw [show Tryz.prog.globalNamed "strings.asciiSpace" = some 3 by kernel_rfl] at ht ⊢
  simpa [h] using ht
noncomputable def B : Bs := blkB [0, 3] (fun w => (∃ m, w.cell? ⟨0, 0, none⟩ = some (.int .i64 m)) ∧ Lib.TabIs Tryz.prog w "strings.asciiSpace" .u8 Lib.asciiSpaceTab)
  (fun w w' h ⟨⟨m, h1⟩, h2⟩ => ⟨⟨m, by rw [cell_eq (h 0 (by simp))]; exact h1⟩, frame_asc (h 3 (by simp)) h2⟩)
theorem hbML {g : G} {w : World} (hb : B.p g w) : ∃ m, w.cell? ⟨0, 0, none⟩ = some (.int .i64 m) := hb.2.1
theorem hbAsc {g : G} {w : World} (hb : B.p g w) : Lib.TabIs Tryz.prog w "strings.asciiSpace" .u8 Lib.asciiSpaceTab := hb.2.2
noncomputable def fam {ρ : Type} (fn : Func) (cut : List Nat) (own : List Nat) (L0 : List (Nat × Ob)) (V : ρ → AV) (O : ρ → List (Nat × Ob)) : Fam ρ :=
  ⟨Tryz.prog, ⟨lookT tyL, fun i => own.any (Nat.beq i), fn.ntmps, fun i => cut.any (Nat.beq i)⟩, fn, L0, V, O, tyOK, mixedOK, B⟩
def rd (l : List Int) (i : Int) : Int := l.getD i.toNat 0
def rdE {α : Type} (E : Enc α) (l : List α) (i : Int) : α := l.getD i.toNat E.d
theorem B_of {W : World} (hsh : W.ShapedOpen Tryz.prog) (hasc : Lib.TabIs Tryz.prog W "strings.asciiSpace" .u8 Lib.asciiSpaceTab) : ∀ g : G, (∀ b, ¬ g.own b) → B.p g W := fun g hg => by
  obtain ⟨m, hm⟩ := Tryz.laysM219.s1_3 W hsh
  have hm : W.cell? ⟨0, 0, none⟩ = some (.int .i64 m) := hm
  refine ⟨fun b hb => ⟨?_, hg b⟩, ⟨⟨m, hm⟩, hasc⟩⟩
  have h0 : 0 < W.heap.size := by
    unfold World.cell? at hm
    cases e : W.heap[0]? with
    | none => rw [show (⟨0, 0, none⟩ : Addr).block = 0 from rfl, e] at hm; cases hm
    | some _ => exact (Array.getElem?_eq_some_iff.1 e).1
  have basc : 3 < W.heap.size := by
    have ht := hasc
    unfold Lib.TabIs World.var? at ht
    rw [show Tryz.prog.globalNamed "strings.asciiSpace" = some 3 by kernel_rfl] at ht
    cases e : W.heap[3]? with
    | none => simp [e] at ht
    | some _ => exact (Array.getElem?_eq_some_iff.1 e).1
  simp only [List.mem_cons, List.not_mem_nil, or_false] at hb
  rcases hb with rfl | rfl
  · exact h0
  · exact basc
theorem tab_asc {W : World} {d : DataW Unit} (hd : d = Lib.tabData .u8 Lib.asciiSpaceTab) {l : List (String × DataW Unit)} {ps : List MemPlace} (hl : DataW.LaidVars Tryz.prog W l ps) (h : ("strings.asciiSpace", d) ∈ l) : Lib.TabIs Tryz.prog W "strings.asciiSpace" .u8 Lib.asciiSpaceTab :=
  tabIs_of_mem (g := 3) (by kernel_rfl) (t := 172) (e := 5) (n := 256) (by kernel_rfl) Tryz.underlying172 Tryz.underlying5 (by kernel_rfl) (by kernel_rfl) hd hl h
end Go.EV
