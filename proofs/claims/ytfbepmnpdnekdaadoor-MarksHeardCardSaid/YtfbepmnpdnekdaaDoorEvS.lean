/- The types of this program that its functions name, and what is known of its variables. -/
import Derived.Test.YtfbepmnpdnekdaaDoorEvB
import Derived.Test.YtfbepmnpdnekdaaDoorProg
import Derived.Test.YtfbepmnpdnekdaaDoorChecked
import Derived.Test.YtfbepmnpdnekdaaDoorWShelf
import Derived.Lib.SplitLaws
import Derived.Shelf.Strings.SlTrimAscii
set_option linter.unusedVariables false
set_option linter.unusedSimpArgs false
namespace Go.EV
open Go Go.Proofs
noncomputable def tyL : List (Nat × TI) := [(2, ⟨Tryd.t2.desc, Tryd.t2⟩), (3, ⟨Tryd.t3.desc, Tryd.t3⟩), (4, ⟨Tryd.t4.desc, Tryd.t4⟩), (5, ⟨Tryd.t5.desc, Tryd.t5⟩), (9, ⟨Tryd.t9.desc, Tryd.t9⟩), (21, ⟨Tryd.t21.desc, Tryd.t21⟩), (22, ⟨Tryd.t22.desc, Tryd.t22⟩), (23, ⟨Tryd.t23.desc, Tryd.t23⟩), (24, ⟨Tryd.t24.desc, Tryd.t24⟩), (25, ⟨Tryd.t24.desc, Tryd.t25⟩), (28, ⟨Tryd.t3.desc, Tryd.t28⟩), (34, ⟨Tryd.t34.desc, Tryd.t34⟩), (35, ⟨Tryd.t34.desc, Tryd.t35⟩), (54, ⟨Tryd.t54.desc, Tryd.t54⟩), (55, ⟨Tryd.t55.desc, Tryd.t55⟩), (56, ⟨Tryd.t55.desc, Tryd.t56⟩), (65, ⟨Tryd.t65.desc, Tryd.t65⟩), (66, ⟨Tryd.t65.desc, Tryd.t66⟩), (76, ⟨Tryd.t76.desc, Tryd.t76⟩), (85, ⟨Tryd.t85.desc, Tryd.t85⟩), (86, ⟨Tryd.t86.desc, Tryd.t86⟩), (87, ⟨Tryd.t87.desc, Tryd.t87⟩), (88, ⟨Tryd.t88.desc, Tryd.t88⟩), (89, ⟨Tryd.t88.desc, Tryd.t89⟩), (91, ⟨Tryd.t91.desc, Tryd.t91⟩), (92, ⟨Tryd.t91.desc, Tryd.t92⟩), (95, ⟨Tryd.t95.desc, Tryd.t95⟩), (103, ⟨Tryd.t103.desc, Tryd.t103⟩), (109, ⟨Tryd.t109.desc, Tryd.t109⟩), (111, ⟨Tryd.t111.desc, Tryd.t111⟩), (113, ⟨Tryd.t113.desc, Tryd.t113⟩), (118, ⟨Tryd.t118.desc, Tryd.t118⟩), (119, ⟨Tryd.t118.desc, Tryd.t119⟩), (124, ⟨Tryd.t124.desc, Tryd.t124⟩), (125, ⟨Tryd.t124.desc, Tryd.t125⟩), (130, ⟨Tryd.t130.desc, Tryd.t130⟩), (133, ⟨Tryd.t133.desc, Tryd.t133⟩), (134, ⟨Tryd.t133.desc, Tryd.t134⟩), (138, ⟨Tryd.t138.desc, Tryd.t138⟩), (142, ⟨Tryd.t142.desc, Tryd.t142⟩), (150, ⟨Tryd.t150.desc, Tryd.t150⟩), (158, ⟨Tryd.t158.desc, Tryd.t158⟩), (159, ⟨Tryd.t159.desc, Tryd.t159⟩), (160, ⟨Tryd.t160.desc, Tryd.t160⟩), (161, ⟨Tryd.t160.desc, Tryd.t161⟩), (162, ⟨Tryd.t162.desc, Tryd.t162⟩), (164, ⟨Tryd.t164.desc, Tryd.t164⟩), (171, ⟨Tryd.t171.desc, Tryd.t171⟩), (172, ⟨Tryd.t172.desc, Tryd.t172⟩), (178, ⟨Tryd.t178.desc, Tryd.t178⟩), (179, ⟨Tryd.t179.desc, Tryd.t179⟩), (180, ⟨Tryd.t180.desc, Tryd.t180⟩), (181, ⟨Tryd.t180.desc, Tryd.t181⟩), (182, ⟨Tryd.t182.desc, Tryd.t182⟩), (183, ⟨Tryd.t183.desc, Tryd.t183⟩), (184, ⟨Tryd.t183.desc, Tryd.t184⟩), (186, ⟨Tryd.t186.desc, Tryd.t186⟩), (187, ⟨Tryd.t186.desc, Tryd.t187⟩), (193, ⟨Tryd.t193.desc, Tryd.t193⟩), (194, ⟨Tryd.t194.desc, Tryd.t194⟩), (196, ⟨Tryd.t196.desc, Tryd.t196⟩), (197, ⟨Tryd.t196.desc, Tryd.t197⟩), (198, ⟨Tryd.t198.desc, Tryd.t198⟩), (205, ⟨Tryd.t205.desc, Tryd.t205⟩), (206, ⟨Tryd.t206.desc, Tryd.t206⟩)]
theorem tyOK : TyOK Tryd.prog (lookT tyL) := lookT_ok ⟨⟨Tryd.underlying2, info_of Tryd.type2, fun h => nomatch h⟩, ⟨Tryd.underlying3, info_of Tryd.type3, fun h => nomatch h⟩, ⟨Tryd.underlying4, info_of Tryd.type4, fun h => nomatch h⟩, ⟨Tryd.underlying5, info_of Tryd.type5, fun h => nomatch h⟩, ⟨Tryd.underlying9, info_of Tryd.type9, fun h => nomatch h⟩, ⟨Tryd.underlying21, info_of Tryd.type21, fun h => nomatch h⟩, ⟨Tryd.underlying22, info_of Tryd.type22, fun h => nomatch h⟩, ⟨Tryd.underlying23, info_of Tryd.type23, fun h => nomatch h⟩, ⟨Tryd.underlying24, info_of Tryd.type24, fun _ => ⟨by kernel_rfl, by kernel_rfl⟩⟩, ⟨Tryd.underlying25, info_of Tryd.type25, fun _ => ⟨by kernel_rfl, by kernel_rfl⟩⟩, ⟨Tryd.underlying28, info_of Tryd.type28, fun h => nomatch h⟩, ⟨Tryd.underlying34, info_of Tryd.type34, fun _ => ⟨by kernel_rfl, by kernel_rfl⟩⟩, ⟨Tryd.underlying35, info_of Tryd.type35, fun _ => ⟨by kernel_rfl, by kernel_rfl⟩⟩, ⟨Tryd.underlying54, info_of Tryd.type54, fun h => nomatch h⟩, ⟨Tryd.underlying55, info_of Tryd.type55, fun _ => ⟨by kernel_rfl, by kernel_rfl⟩⟩, ⟨Tryd.underlying56, info_of Tryd.type56, fun _ => ⟨by kernel_rfl, by kernel_rfl⟩⟩, ⟨Tryd.underlying65, info_of Tryd.type65, fun _ => ⟨by kernel_rfl, by kernel_rfl⟩⟩, ⟨Tryd.underlying66, info_of Tryd.type66, fun _ => ⟨by kernel_rfl, by kernel_rfl⟩⟩, ⟨Tryd.underlying76, info_of Tryd.type76, fun h => nomatch h⟩, ⟨Tryd.underlying85, info_of Tryd.type85, fun h => nomatch h⟩, ⟨Tryd.underlying86, info_of Tryd.type86, fun h => nomatch h⟩, ⟨Tryd.underlying87, info_of Tryd.type87, fun h => nomatch h⟩, ⟨Tryd.underlying88, info_of Tryd.type88, fun _ => ⟨by kernel_rfl, by kernel_rfl⟩⟩, ⟨Tryd.underlying89, info_of Tryd.type89, fun _ => ⟨by kernel_rfl, by kernel_rfl⟩⟩, ⟨Tryd.underlying91, info_of Tryd.type91, fun h => nomatch h⟩, ⟨Tryd.underlying92, info_of Tryd.type92, fun h => nomatch h⟩, ⟨Tryd.underlying95, info_of Tryd.type95, fun h => nomatch h⟩, ⟨Tryd.underlying103, info_of Tryd.type103, fun h => nomatch h⟩, ⟨Tryd.underlying109, info_of Tryd.type109, fun h => nomatch h⟩, ⟨Tryd.underlying111, info_of Tryd.type111, fun h => nomatch h⟩, ⟨Tryd.underlying113, info_of Tryd.type113, fun h => nomatch h⟩, ⟨Tryd.underlying118, info_of Tryd.type118, fun _ => ⟨by kernel_rfl, by kernel_rfl⟩⟩, ⟨Tryd.underlying119, info_of Tryd.type119, fun _ => ⟨by kernel_rfl, by kernel_rfl⟩⟩, ⟨Tryd.underlying124, info_of Tryd.type124, fun _ => ⟨by kernel_rfl, by kernel_rfl⟩⟩, ⟨Tryd.underlying125, info_of Tryd.type125, fun _ => ⟨by kernel_rfl, by kernel_rfl⟩⟩, ⟨Tryd.underlying130, info_of Tryd.type130, fun h => nomatch h⟩, ⟨Tryd.underlying133, info_of Tryd.type133, fun _ => ⟨by kernel_rfl, by kernel_rfl⟩⟩, ⟨Tryd.underlying134, info_of Tryd.type134, fun _ => ⟨by kernel_rfl, by kernel_rfl⟩⟩, ⟨Tryd.underlying138, info_of Tryd.type138, fun h => nomatch h⟩, ⟨Tryd.underlying142, info_of Tryd.type142, fun _ => ⟨by kernel_rfl, by kernel_rfl⟩⟩, ⟨Tryd.underlying150, info_of Tryd.type150, fun h => nomatch h⟩, ⟨Tryd.underlying158, info_of Tryd.type158, fun h => nomatch h⟩, ⟨Tryd.underlying159, info_of Tryd.type159, fun h => nomatch h⟩, ⟨Tryd.underlying160, info_of Tryd.type160, fun _ => ⟨by kernel_rfl, by kernel_rfl⟩⟩, ⟨Tryd.underlying161, info_of Tryd.type161, fun _ => ⟨by kernel_rfl, by kernel_rfl⟩⟩, ⟨Tryd.underlying162, info_of Tryd.type162, fun h => nomatch h⟩, ⟨Tryd.underlying164, info_of Tryd.type164, fun h => nomatch h⟩, ⟨Tryd.underlying171, info_of Tryd.type171, fun _ => ⟨by kernel_rfl, by kernel_rfl⟩⟩, ⟨Tryd.underlying172, info_of Tryd.type172, fun h => nomatch h⟩, ⟨Tryd.underlying178, info_of Tryd.type178, fun h => nomatch h⟩, ⟨Tryd.underlying179, info_of Tryd.type179, fun h => nomatch h⟩, ⟨Tryd.underlying180, info_of Tryd.type180, fun _ => ⟨by kernel_rfl, by kernel_rfl⟩⟩, ⟨Tryd.underlying181, info_of Tryd.type181, fun _ => ⟨by kernel_rfl, by kernel_rfl⟩⟩, ⟨Tryd.underlying182, info_of Tryd.type182, fun h => nomatch h⟩, ⟨Tryd.underlying183, info_of Tryd.type183, fun _ => ⟨by kernel_rfl, by kernel_rfl⟩⟩, ⟨Tryd.underlying184, info_of Tryd.type184, fun _ => ⟨by kernel_rfl, by kernel_rfl⟩⟩, ⟨Tryd.underlying186, info_of Tryd.type186, fun _ => ⟨by kernel_rfl, by kernel_rfl⟩⟩, ⟨Tryd.underlying187, info_of Tryd.type187, fun _ => ⟨by kernel_rfl, by kernel_rfl⟩⟩, ⟨Tryd.underlying193, info_of Tryd.type193, fun _ => ⟨by kernel_rfl, by kernel_rfl⟩⟩, ⟨Tryd.underlying194, info_of Tryd.type194, fun _ => ⟨by kernel_rfl, by kernel_rfl⟩⟩, ⟨Tryd.underlying196, info_of Tryd.type196, fun _ => ⟨by kernel_rfl, by kernel_rfl⟩⟩, ⟨Tryd.underlying197, info_of Tryd.type197, fun _ => ⟨by kernel_rfl, by kernel_rfl⟩⟩, ⟨Tryd.underlying198, info_of Tryd.type198, fun _ => ⟨by kernel_rfl, by kernel_rfl⟩⟩, ⟨Tryd.underlying205, info_of Tryd.type205, fun _ => ⟨by kernel_rfl, by kernel_rfl⟩⟩, ⟨Tryd.underlying206, info_of Tryd.type206, fun _ => ⟨by kernel_rfl, by kernel_rfl⟩⟩, trivial⟩
end Go.EV
namespace Go.EV
open Go Go.Proofs Go.RowKit
set_option maxHeartbeats 4000000
set_option maxRecDepth 100000
set_option linter.unusedVariables false
theorem mixedOK : Tryd.prog.follows .mixedOrders = true := Tryd.checked.mixed
theorem frame_asc {w w' : World} (h : w'.heap[0]? = w.heap[0]?) (ht : Lib.TabIs Tryd.prog w "strings.asciiSpace" .u8 Lib.asciiSpaceTab) : Lib.TabIs Tryd.prog w' "strings.asciiSpace" .u8 Lib.asciiSpaceTab := by
  unfold Lib.TabIs World.var? at ht ⊢
  rw [show Tryd.prog.globalNamed "strings.asciiSpace" = some 0 by kernel_rfl] at ht ⊢
  simpa [h] using ht
noncomputable def B : Bs := blkB [2, 0] (fun w => (∃ m, w.cell? ⟨2, 0, none⟩ = some (.int .i64 m)) ∧ Lib.TabIs Tryd.prog w "strings.asciiSpace" .u8 Lib.asciiSpaceTab)
  (fun w w' h ⟨⟨m, h1⟩, h2⟩ => ⟨⟨m, by rw [cell_eq (h 2 (by simp))]; exact h1⟩, frame_asc (h 0 (by simp)) h2⟩)
theorem hbML {g : G} {w : World} (hb : B.p g w) : ∃ m, w.cell? ⟨2, 0, none⟩ = some (.int .i64 m) := hb.2.1
theorem hbAsc {g : G} {w : World} (hb : B.p g w) : Lib.TabIs Tryd.prog w "strings.asciiSpace" .u8 Lib.asciiSpaceTab := hb.2.2
noncomputable def fam {ρ : Type} (fn : Func) (cut : List Nat) (own : List Nat) (L0 : List (Nat × Ob)) (V : ρ → AV) (O : ρ → List (Nat × Ob)) : Fam ρ :=
  ⟨Tryd.prog, ⟨lookT tyL, fun i => own.any (Nat.beq i), fn.ntmps, fun i => cut.any (Nat.beq i)⟩, fn, L0, V, O, tyOK, mixedOK, B⟩
def rd (l : List Int) (i : Int) : Int := l.getD i.toNat 0
def rdE {α : Type} (E : Enc α) (l : List α) (i : Int) : α := l.getD i.toNat E.d
theorem B_of {W : World} (hsh : W.ShapedOpen Tryd.prog) (hasc : Lib.TabIs Tryd.prog W "strings.asciiSpace" .u8 Lib.asciiSpaceTab) : ∀ g : G, (∀ b, ¬ g.own b) → B.p g W := fun g hg => by
  obtain ⟨m, hm⟩ := Tryd.laysM219.s1_3 W hsh
  have hm : W.cell? ⟨2, 0, none⟩ = some (.int .i64 m) := hm
  refine ⟨fun b hb => ⟨?_, hg b⟩, ⟨⟨m, hm⟩, hasc⟩⟩
  have h0 : 2 < W.heap.size := by
    unfold World.cell? at hm
    cases e : W.heap[2]? with
    | none => rw [show (⟨2, 0, none⟩ : Addr).block = 2 from rfl, e] at hm; cases hm
    | some _ => exact (Array.getElem?_eq_some_iff.1 e).1
  have basc : 0 < W.heap.size := by
    have ht := hasc
    unfold Lib.TabIs World.var? at ht
    rw [show Tryd.prog.globalNamed "strings.asciiSpace" = some 0 by kernel_rfl] at ht
    cases e : W.heap[0]? with
    | none => simp [e] at ht
    | some _ => exact (Array.getElem?_eq_some_iff.1 e).1
  simp only [List.mem_cons, List.not_mem_nil, or_false] at hb
  rcases hb with rfl | rfl
  · exact h0
  · exact basc
theorem tab_asc {W : World} {d : DataW Unit} (hd : d = Lib.tabData .u8 Lib.asciiSpaceTab) {l : List (String × DataW Unit)} {ps : List MemPlace} (hl : DataW.LaidVars Tryd.prog W l ps) (h : ("strings.asciiSpace", d) ∈ l) : Lib.TabIs Tryd.prog W "strings.asciiSpace" .u8 Lib.asciiSpaceTab :=
  tabIs_of_mem (g := 0) (by kernel_rfl) (t := 142) (e := 5) (n := 256) (by kernel_rfl) Tryd.underlying142 Tryd.underlying5 (by kernel_rfl) (by kernel_rfl) hd hl h
end Go.EV
