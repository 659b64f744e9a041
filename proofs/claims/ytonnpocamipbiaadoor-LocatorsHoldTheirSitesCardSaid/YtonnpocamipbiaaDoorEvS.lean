/- The types of this program that its functions name, and what is known of its variables. -/
import Derived.Test.YtonnpocamipbiaaDoorEvB
import Derived.Test.YtonnpocamipbiaaDoorProg
import Derived.Test.YtonnpocamipbiaaDoorChecked
import Derived.Test.YtonnpocamipbiaaDoorWShelf
import Derived.Lib.SplitLaws
set_option linter.unusedVariables false
set_option linter.unusedSimpArgs false
namespace Go.EV
open Go Go.Proofs
noncomputable def tyL : List (Nat × TI) := [(3, ⟨Tryd.t3.desc, Tryd.t3⟩), (4, ⟨Tryd.t4.desc, Tryd.t4⟩), (5, ⟨Tryd.t5.desc, Tryd.t5⟩), (9, ⟨Tryd.t9.desc, Tryd.t9⟩), (21, ⟨Tryd.t21.desc, Tryd.t21⟩), (22, ⟨Tryd.t22.desc, Tryd.t22⟩), (23, ⟨Tryd.t23.desc, Tryd.t23⟩), (24, ⟨Tryd.t24.desc, Tryd.t24⟩), (25, ⟨Tryd.t24.desc, Tryd.t25⟩), (26, ⟨Tryd.t26.desc, Tryd.t26⟩), (27, ⟨Tryd.t26.desc, Tryd.t27⟩), (30, ⟨Tryd.t30.desc, Tryd.t30⟩), (31, ⟨Tryd.t3.desc, Tryd.t31⟩), (41, ⟨Tryd.t41.desc, Tryd.t41⟩), (42, ⟨Tryd.t41.desc, Tryd.t42⟩), (51, ⟨Tryd.t51.desc, Tryd.t51⟩), (52, ⟨Tryd.t51.desc, Tryd.t52⟩), (53, ⟨Tryd.t53.desc, Tryd.t53⟩), (63, ⟨Tryd.t63.desc, Tryd.t63⟩), (64, ⟨Tryd.t63.desc, Tryd.t64⟩), (79, ⟨Tryd.t79.desc, Tryd.t79⟩), (87, ⟨Tryd.t87.desc, Tryd.t87⟩), (88, ⟨Tryd.t88.desc, Tryd.t88⟩), (90, ⟨Tryd.t90.desc, Tryd.t90⟩), (91, ⟨Tryd.t90.desc, Tryd.t91⟩), (97, ⟨Tryd.t97.desc, Tryd.t97⟩), (100, ⟨Tryd.t100.desc, Tryd.t100⟩), (102, ⟨Tryd.t102.desc, Tryd.t102⟩), (110, ⟨Tryd.t110.desc, Tryd.t110⟩), (112, ⟨Tryd.t112.desc, Tryd.t112⟩), (113, ⟨Tryd.t112.desc, Tryd.t113⟩), (118, ⟨Tryd.t118.desc, Tryd.t118⟩), (121, ⟨Tryd.t121.desc, Tryd.t121⟩), (122, ⟨Tryd.t121.desc, Tryd.t122⟩), (129, ⟨Tryd.t129.desc, Tryd.t129⟩), (131, ⟨Tryd.t131.desc, Tryd.t131⟩), (133, ⟨Tryd.t133.desc, Tryd.t133⟩), (137, ⟨Tryd.t137.desc, Tryd.t137⟩), (138, ⟨Tryd.t138.desc, Tryd.t138⟩), (139, ⟨Tryd.t138.desc, Tryd.t139⟩), (141, ⟨Tryd.t141.desc, Tryd.t141⟩), (142, ⟨Tryd.t142.desc, Tryd.t142⟩), (143, ⟨Tryd.t143.desc, Tryd.t143⟩), (144, ⟨Tryd.t144.desc, Tryd.t144⟩), (145, ⟨Tryd.t144.desc, Tryd.t145⟩), (146, ⟨Tryd.t146.desc, Tryd.t146⟩), (147, ⟨Tryd.t147.desc, Tryd.t147⟩), (148, ⟨Tryd.t147.desc, Tryd.t148⟩), (150, ⟨Tryd.t150.desc, Tryd.t150⟩), (151, ⟨Tryd.t150.desc, Tryd.t151⟩), (153, ⟨Tryd.t153.desc, Tryd.t153⟩), (154, ⟨Tryd.t153.desc, Tryd.t154⟩), (155, ⟨Tryd.t155.desc, Tryd.t155⟩)]
theorem tyOK : TyOK Tryd.prog (lookT tyL) := lookT_ok ⟨⟨Tryd.underlying3, info_of Tryd.type3, fun h => nomatch h⟩, ⟨Tryd.underlying4, info_of Tryd.type4, fun h => nomatch h⟩, ⟨Tryd.underlying5, info_of Tryd.type5, fun h => nomatch h⟩, ⟨Tryd.underlying9, info_of Tryd.type9, fun h => nomatch h⟩, ⟨Tryd.underlying21, info_of Tryd.type21, fun h => nomatch h⟩, ⟨Tryd.underlying22, info_of Tryd.type22, fun h => nomatch h⟩, ⟨Tryd.underlying23, info_of Tryd.type23, fun h => nomatch h⟩, ⟨Tryd.underlying24, info_of Tryd.type24, fun _ => ⟨by kernel_rfl, by kernel_rfl⟩⟩, ⟨Tryd.underlying25, info_of Tryd.type25, fun _ => ⟨by kernel_rfl, by kernel_rfl⟩⟩, ⟨Tryd.underlying26, info_of Tryd.type26, fun _ => ⟨by kernel_rfl, by kernel_rfl⟩⟩, ⟨Tryd.underlying27, info_of Tryd.type27, fun _ => ⟨by kernel_rfl, by kernel_rfl⟩⟩, ⟨Tryd.underlying30, info_of Tryd.type30, fun h => nomatch h⟩, ⟨Tryd.underlying31, info_of Tryd.type31, fun h => nomatch h⟩, ⟨Tryd.underlying41, info_of Tryd.type41, fun _ => ⟨by kernel_rfl, by kernel_rfl⟩⟩, ⟨Tryd.underlying42, info_of Tryd.type42, fun _ => ⟨by kernel_rfl, by kernel_rfl⟩⟩, ⟨Tryd.underlying51, info_of Tryd.type51, fun _ => ⟨by kernel_rfl, by kernel_rfl⟩⟩, ⟨Tryd.underlying52, info_of Tryd.type52, fun _ => ⟨by kernel_rfl, by kernel_rfl⟩⟩, ⟨Tryd.underlying53, info_of Tryd.type53, fun h => nomatch h⟩, ⟨Tryd.underlying63, info_of Tryd.type63, fun _ => ⟨by kernel_rfl, by kernel_rfl⟩⟩, ⟨Tryd.underlying64, info_of Tryd.type64, fun _ => ⟨by kernel_rfl, by kernel_rfl⟩⟩, ⟨Tryd.underlying79, info_of Tryd.type79, fun h => nomatch h⟩, ⟨Tryd.underlying87, info_of Tryd.type87, fun h => nomatch h⟩, ⟨Tryd.underlying88, info_of Tryd.type88, fun h => nomatch h⟩, ⟨Tryd.underlying90, info_of Tryd.type90, fun _ => ⟨by kernel_rfl, by kernel_rfl⟩⟩, ⟨Tryd.underlying91, info_of Tryd.type91, fun _ => ⟨by kernel_rfl, by kernel_rfl⟩⟩, ⟨Tryd.underlying97, info_of Tryd.type97, fun h => nomatch h⟩, ⟨Tryd.underlying100, info_of Tryd.type100, fun h => nomatch h⟩, ⟨Tryd.underlying102, info_of Tryd.type102, fun h => nomatch h⟩, ⟨Tryd.underlying110, info_of Tryd.type110, fun h => nomatch h⟩, ⟨Tryd.underlying112, info_of Tryd.type112, fun _ => ⟨by kernel_rfl, by kernel_rfl⟩⟩, ⟨Tryd.underlying113, info_of Tryd.type113, fun _ => ⟨by kernel_rfl, by kernel_rfl⟩⟩, ⟨Tryd.underlying118, info_of Tryd.type118, fun h => nomatch h⟩, ⟨Tryd.underlying121, info_of Tryd.type121, fun _ => ⟨by kernel_rfl, by kernel_rfl⟩⟩, ⟨Tryd.underlying122, info_of Tryd.type122, fun _ => ⟨by kernel_rfl, by kernel_rfl⟩⟩, ⟨Tryd.underlying129, info_of Tryd.type129, fun _ => ⟨by kernel_rfl, by kernel_rfl⟩⟩, ⟨Tryd.underlying131, info_of Tryd.type131, fun h => nomatch h⟩, ⟨Tryd.underlying133, info_of Tryd.type133, fun h => nomatch h⟩, ⟨Tryd.underlying137, info_of Tryd.type137, fun h => nomatch h⟩, ⟨Tryd.underlying138, info_of Tryd.type138, fun _ => ⟨by kernel_rfl, by kernel_rfl⟩⟩, ⟨Tryd.underlying139, info_of Tryd.type139, fun _ => ⟨by kernel_rfl, by kernel_rfl⟩⟩, ⟨Tryd.underlying141, info_of Tryd.type141, fun h => nomatch h⟩, ⟨Tryd.underlying142, info_of Tryd.type142, fun h => nomatch h⟩, ⟨Tryd.underlying143, info_of Tryd.type143, fun h => nomatch h⟩, ⟨Tryd.underlying144, info_of Tryd.type144, fun _ => ⟨by kernel_rfl, by kernel_rfl⟩⟩, ⟨Tryd.underlying145, info_of Tryd.type145, fun _ => ⟨by kernel_rfl, by kernel_rfl⟩⟩, ⟨Tryd.underlying146, info_of Tryd.type146, fun h => nomatch h⟩, ⟨Tryd.underlying147, info_of Tryd.type147, fun _ => ⟨by kernel_rfl, by kernel_rfl⟩⟩, ⟨Tryd.underlying148, info_of Tryd.type148, fun _ => ⟨by kernel_rfl, by kernel_rfl⟩⟩, ⟨Tryd.underlying150, info_of Tryd.type150, fun _ => ⟨by kernel_rfl, by kernel_rfl⟩⟩, ⟨Tryd.underlying151, info_of Tryd.type151, fun _ => ⟨by kernel_rfl, by kernel_rfl⟩⟩, ⟨Tryd.underlying153, info_of Tryd.type153, fun _ => ⟨by kernel_rfl, by kernel_rfl⟩⟩, ⟨Tryd.underlying154, info_of Tryd.type154, fun _ => ⟨by kernel_rfl, by kernel_rfl⟩⟩, ⟨Tryd.underlying155, info_of Tryd.type155, fun _ => ⟨by kernel_rfl, by kernel_rfl⟩⟩, trivial⟩
end Go.EV
namespace Go.EV
open Go Go.Proofs Go.RowKit
set_option maxHeartbeats 4000000
set_option maxRecDepth 100000
set_option linter.unusedVariables false
theorem mixedOK : Tryd.prog.follows .mixedOrders = true := Tryd.checked.mixed
theorem tabIs_frame {w w' : World} (h : w'.heap[1]? = w.heap[1]?) (ht : Lib.TabIs Tryd.prog w "strings.asciiSpace" .u8 Lib.asciiSpaceTab) : Lib.TabIs Tryd.prog w' "strings.asciiSpace" .u8 Lib.asciiSpaceTab := by
  unfold Lib.TabIs World.var? at ht ⊢
  rw [show Tryd.prog.globalNamed "strings.asciiSpace" = some 1 by kernel_rfl] at ht ⊢
  simpa [h] using ht
noncomputable def B : Bs := blkB [0, 1] (fun w => (∃ m, w.cell? ⟨0, 0, none⟩ = some (.int .i64 m)) ∧ Lib.TabIs Tryd.prog w "strings.asciiSpace" .u8 Lib.asciiSpaceTab)
  (fun w w' h ⟨⟨m, h1⟩, h2⟩ => ⟨⟨m, by rw [cell_eq (h 0 (by simp))]; exact h1⟩, tabIs_frame (h 1 (by simp)) h2⟩)
noncomputable def fam {ρ : Type} (fn : Func) (cut : List Nat) (own : List Nat) (L0 : List (Nat × Ob)) (V : ρ → AV) (O : ρ → List (Nat × Ob)) : Fam ρ :=
  ⟨Tryd.prog, ⟨lookT tyL, fun i => own.any (Nat.beq i), fn.ntmps, fun i => cut.any (Nat.beq i)⟩, fn, L0, V, O, tyOK, mixedOK, B⟩
def rd (l : List Int) (i : Int) : Int := l.getD i.toNat 0
def rdE {α : Type} (E : Enc α) (l : List α) (i : Int) : α := l.getD i.toNat E.d
theorem B_of {W : World} (hsh : W.ShapedOpen Tryd.prog) (ht : Lib.TabIs Tryd.prog W "strings.asciiSpace" .u8 Lib.asciiSpaceTab) : ∀ g : G, (∀ b, ¬ g.own b) → B.p g W := fun g hg => by
  obtain ⟨m, hm⟩ := Tryd.laysM219.s1_3 W hsh
  have hm : W.cell? ⟨0, 0, none⟩ = some (.int .i64 m) := hm
  refine ⟨fun b hb => ⟨?_, hg b⟩, ⟨m, hm⟩, ht⟩
  have h0 : 0 < W.heap.size := by
    unfold World.cell? at hm
    cases e : W.heap[0]? with
    | none => rw [show (⟨0, 0, none⟩ : Addr).block = 0 from rfl, e] at hm; cases hm
    | some _ => exact (Array.getElem?_eq_some_iff.1 e).1
  have h3 : 1 < W.heap.size := by
    unfold Lib.TabIs World.var? at ht
    rw [show Tryd.prog.globalNamed "strings.asciiSpace" = some 1 by kernel_rfl] at ht
    cases e : W.heap[1]? with
    | none => simp [e] at ht
    | some _ => exact (Array.getElem?_eq_some_iff.1 e).1
  rcases List.mem_cons.1 hb with rfl | hb
  · exact h0
  · rcases List.mem_cons.1 hb with rfl | hb
    · exact h3
    · cases hb
theorem tabIs_asc {W : World} {d : DataW Unit} (hd : d = Lib.tabData .u8 Lib.asciiSpaceTab) {l : List (String × DataW Unit)} {ps : List MemPlace} (hl : DataW.LaidVars Tryd.prog W l ps) (h : ("strings.asciiSpace", d) ∈ l) : Lib.TabIs Tryd.prog W "strings.asciiSpace" .u8 Lib.asciiSpaceTab :=
  tabIs_of_mem (g := 1) (by kernel_rfl) (t := 129) (e := 5) (n := 256) (by kernel_rfl) Tryd.underlying129 Tryd.underlying5 (by kernel_rfl) (by kernel_rfl) hd hl h
end Go.EV
