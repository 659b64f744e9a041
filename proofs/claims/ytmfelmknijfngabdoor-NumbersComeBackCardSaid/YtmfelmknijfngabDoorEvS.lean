/- The types of this program that its functions name, and what is known of its variables. -/
import Derived.Test.YtmfelmknijfngabDoorEvB
import Derived.Test.YtmfelmknijfngabDoorProg
import Derived.Test.YtmfelmknijfngabDoorChecked
import Derived.Test.YtmfelmknijfngabDoorWShelf
import Derived.Lib.SplitLaws
set_option linter.unusedVariables false
set_option linter.unusedSimpArgs false
namespace Go.EV
open Go Go.Proofs
noncomputable def tyL : List (Nat × TI) := [(2, ⟨Tryd.t2.desc, Tryd.t2⟩), (3, ⟨Tryd.t3.desc, Tryd.t3⟩), (4, ⟨Tryd.t4.desc, Tryd.t4⟩), (5, ⟨Tryd.t5.desc, Tryd.t5⟩), (9, ⟨Tryd.t9.desc, Tryd.t9⟩), (21, ⟨Tryd.t21.desc, Tryd.t21⟩), (22, ⟨Tryd.t22.desc, Tryd.t22⟩), (23, ⟨Tryd.t23.desc, Tryd.t23⟩), (24, ⟨Tryd.t24.desc, Tryd.t24⟩), (25, ⟨Tryd.t24.desc, Tryd.t25⟩), (27, ⟨Tryd.t3.desc, Tryd.t27⟩), (38, ⟨Tryd.t38.desc, Tryd.t38⟩), (39, ⟨Tryd.t38.desc, Tryd.t39⟩), (47, ⟨Tryd.t47.desc, Tryd.t47⟩), (48, ⟨Tryd.t47.desc, Tryd.t48⟩), (57, ⟨Tryd.t57.desc, Tryd.t57⟩), (58, ⟨Tryd.t58.desc, Tryd.t58⟩), (61, ⟨Tryd.t61.desc, Tryd.t61⟩), (69, ⟨Tryd.t69.desc, Tryd.t69⟩), (72, ⟨Tryd.t72.desc, Tryd.t72⟩), (74, ⟨Tryd.t74.desc, Tryd.t74⟩), (80, ⟨Tryd.t80.desc, Tryd.t80⟩), (81, ⟨Tryd.t81.desc, Tryd.t81⟩), (82, ⟨Tryd.t82.desc, Tryd.t82⟩), (83, ⟨Tryd.t83.desc, Tryd.t83⟩), (89, ⟨Tryd.t89.desc, Tryd.t89⟩), (91, ⟨Tryd.t91.desc, Tryd.t91⟩), (92, ⟨Tryd.t91.desc, Tryd.t92⟩), (99, ⟨Tryd.t99.desc, Tryd.t99⟩), (100, ⟨Tryd.t100.desc, Tryd.t100⟩), (102, ⟨Tryd.t102.desc, Tryd.t102⟩), (103, ⟨Tryd.t102.desc, Tryd.t103⟩), (109, ⟨Tryd.t109.desc, Tryd.t109⟩), (111, ⟨Tryd.t111.desc, Tryd.t111⟩), (116, ⟨Tryd.t116.desc, Tryd.t116⟩), (117, ⟨Tryd.t117.desc, Tryd.t117⟩), (118, ⟨Tryd.t117.desc, Tryd.t118⟩), (120, ⟨Tryd.t120.desc, Tryd.t120⟩), (121, ⟨Tryd.t121.desc, Tryd.t121⟩), (122, ⟨Tryd.t122.desc, Tryd.t122⟩), (123, ⟨Tryd.t123.desc, Tryd.t123⟩), (124, ⟨Tryd.t123.desc, Tryd.t124⟩), (125, ⟨Tryd.t125.desc, Tryd.t125⟩), (126, ⟨Tryd.t126.desc, Tryd.t126⟩), (127, ⟨Tryd.t126.desc, Tryd.t127⟩), (129, ⟨Tryd.t129.desc, Tryd.t129⟩), (130, ⟨Tryd.t129.desc, Tryd.t130⟩), (132, ⟨Tryd.t132.desc, Tryd.t132⟩), (133, ⟨Tryd.t132.desc, Tryd.t133⟩), (134, ⟨Tryd.t134.desc, Tryd.t134⟩)]
theorem tyOK : TyOK Tryd.prog (lookT tyL) := lookT_ok ⟨⟨Tryd.underlying2, info_of Tryd.type2, fun h => nomatch h⟩, ⟨Tryd.underlying3, info_of Tryd.type3, fun h => nomatch h⟩, ⟨Tryd.underlying4, info_of Tryd.type4, fun h => nomatch h⟩, ⟨Tryd.underlying5, info_of Tryd.type5, fun h => nomatch h⟩, ⟨Tryd.underlying9, info_of Tryd.type9, fun h => nomatch h⟩, ⟨Tryd.underlying21, info_of Tryd.type21, fun h => nomatch h⟩, ⟨Tryd.underlying22, info_of Tryd.type22, fun h => nomatch h⟩, ⟨Tryd.underlying23, info_of Tryd.type23, fun h => nomatch h⟩, ⟨Tryd.underlying24, info_of Tryd.type24, fun _ => ⟨by kernel_rfl, by kernel_rfl⟩⟩, ⟨Tryd.underlying25, info_of Tryd.type25, fun _ => ⟨by kernel_rfl, by kernel_rfl⟩⟩, ⟨Tryd.underlying27, info_of Tryd.type27, fun h => nomatch h⟩, ⟨Tryd.underlying38, info_of Tryd.type38, fun _ => ⟨by kernel_rfl, by kernel_rfl⟩⟩, ⟨Tryd.underlying39, info_of Tryd.type39, fun _ => ⟨by kernel_rfl, by kernel_rfl⟩⟩, ⟨Tryd.underlying47, info_of Tryd.type47, fun _ => ⟨by kernel_rfl, by kernel_rfl⟩⟩, ⟨Tryd.underlying48, info_of Tryd.type48, fun _ => ⟨by kernel_rfl, by kernel_rfl⟩⟩, ⟨Tryd.underlying57, info_of Tryd.type57, fun _ => ⟨by kernel_rfl, by kernel_rfl⟩⟩, ⟨Tryd.underlying58, info_of Tryd.type58, fun h => nomatch h⟩, ⟨Tryd.underlying61, info_of Tryd.type61, fun h => nomatch h⟩, ⟨Tryd.underlying69, info_of Tryd.type69, fun h => nomatch h⟩, ⟨Tryd.underlying72, info_of Tryd.type72, fun h => nomatch h⟩, ⟨Tryd.underlying74, info_of Tryd.type74, fun h => nomatch h⟩, ⟨Tryd.underlying80, info_of Tryd.type80, fun _ => ⟨by kernel_rfl, by kernel_rfl⟩⟩, ⟨Tryd.underlying81, info_of Tryd.type81, fun h => nomatch h⟩, ⟨Tryd.underlying82, info_of Tryd.type82, fun _ => ⟨by kernel_rfl, by kernel_rfl⟩⟩, ⟨Tryd.underlying83, info_of Tryd.type83, fun h => nomatch h⟩, ⟨Tryd.underlying89, info_of Tryd.type89, fun h => nomatch h⟩, ⟨Tryd.underlying91, info_of Tryd.type91, fun _ => ⟨by kernel_rfl, by kernel_rfl⟩⟩, ⟨Tryd.underlying92, info_of Tryd.type92, fun _ => ⟨by kernel_rfl, by kernel_rfl⟩⟩, ⟨Tryd.underlying99, info_of Tryd.type99, fun _ => ⟨by kernel_rfl, by kernel_rfl⟩⟩, ⟨Tryd.underlying100, info_of Tryd.type100, fun _ => ⟨by kernel_rfl, by kernel_rfl⟩⟩, ⟨Tryd.underlying102, info_of Tryd.type102, fun _ => ⟨by kernel_rfl, by kernel_rfl⟩⟩, ⟨Tryd.underlying103, info_of Tryd.type103, fun _ => ⟨by kernel_rfl, by kernel_rfl⟩⟩, ⟨Tryd.underlying109, info_of Tryd.type109, fun _ => ⟨by kernel_rfl, by kernel_rfl⟩⟩, ⟨Tryd.underlying111, info_of Tryd.type111, fun h => nomatch h⟩, ⟨Tryd.underlying116, info_of Tryd.type116, fun h => nomatch h⟩, ⟨Tryd.underlying117, info_of Tryd.type117, fun _ => ⟨by kernel_rfl, by kernel_rfl⟩⟩, ⟨Tryd.underlying118, info_of Tryd.type118, fun _ => ⟨by kernel_rfl, by kernel_rfl⟩⟩, ⟨Tryd.underlying120, info_of Tryd.type120, fun h => nomatch h⟩, ⟨Tryd.underlying121, info_of Tryd.type121, fun h => nomatch h⟩, ⟨Tryd.underlying122, info_of Tryd.type122, fun h => nomatch h⟩, ⟨Tryd.underlying123, info_of Tryd.type123, fun _ => ⟨by kernel_rfl, by kernel_rfl⟩⟩, ⟨Tryd.underlying124, info_of Tryd.type124, fun _ => ⟨by kernel_rfl, by kernel_rfl⟩⟩, ⟨Tryd.underlying125, info_of Tryd.type125, fun h => nomatch h⟩, ⟨Tryd.underlying126, info_of Tryd.type126, fun _ => ⟨by kernel_rfl, by kernel_rfl⟩⟩, ⟨Tryd.underlying127, info_of Tryd.type127, fun _ => ⟨by kernel_rfl, by kernel_rfl⟩⟩, ⟨Tryd.underlying129, info_of Tryd.type129, fun _ => ⟨by kernel_rfl, by kernel_rfl⟩⟩, ⟨Tryd.underlying130, info_of Tryd.type130, fun _ => ⟨by kernel_rfl, by kernel_rfl⟩⟩, ⟨Tryd.underlying132, info_of Tryd.type132, fun _ => ⟨by kernel_rfl, by kernel_rfl⟩⟩, ⟨Tryd.underlying133, info_of Tryd.type133, fun _ => ⟨by kernel_rfl, by kernel_rfl⟩⟩, ⟨Tryd.underlying134, info_of Tryd.type134, fun _ => ⟨by kernel_rfl, by kernel_rfl⟩⟩, trivial⟩
end Go.EV
namespace Go.EV
open Go Go.Proofs Go.RowKit
set_option maxHeartbeats 4000000
set_option maxRecDepth 100000
set_option linter.unusedVariables false
theorem mixedOK : Tryd.prog.follows .mixedOrders = true := Tryd.checked.mixed
theorem frame_asc {w w' : World} (h : w'.heap[4]? = w.heap[4]?) (ht : Lib.TabIs Tryd.prog w "strings.asciiSpace" .u8 Lib.asciiSpaceTab) : Lib.TabIs Tryd.prog w' "strings.asciiSpace" .u8 Lib.asciiSpaceTab := by
  unfold Lib.TabIs World.var? at ht ⊢
  rw [show Tryd.prog.globalNamed "strings.asciiSpace" = some 4 by kernel_rfl] at ht ⊢
  simpa [h] using ht
theorem frame_pow {w w' : World} (h : w'.heap[1]? = w.heap[1]?) (ht : Lib.TabIs Tryd.prog w "internal/strconv.uint64pow10" .u64 Lib.pow10Tab) : Lib.TabIs Tryd.prog w' "internal/strconv.uint64pow10" .u64 Lib.pow10Tab := by
  unfold Lib.TabIs World.var? at ht ⊢
  rw [show Tryd.prog.globalNamed "internal/strconv.uint64pow10" = some 1 by kernel_rfl] at ht ⊢
  simpa [h] using ht
noncomputable def B : Bs := blkB [0, 4, 1] (fun w => (∃ m, w.cell? ⟨0, 0, none⟩ = some (.int .i64 m)) ∧ Lib.TabIs Tryd.prog w "strings.asciiSpace" .u8 Lib.asciiSpaceTab ∧ Lib.TabIs Tryd.prog w "internal/strconv.uint64pow10" .u64 Lib.pow10Tab)
  (fun w w' h ⟨⟨m, h1⟩, h2, h3⟩ => ⟨⟨m, by rw [cell_eq (h 0 (by simp))]; exact h1⟩, frame_asc (h 4 (by simp)) h2, frame_pow (h 1 (by simp)) h3⟩)
theorem hbML {g : G} {w : World} (hb : B.p g w) : ∃ m, w.cell? ⟨0, 0, none⟩ = some (.int .i64 m) := hb.2.1
theorem hbAsc {g : G} {w : World} (hb : B.p g w) : Lib.TabIs Tryd.prog w "strings.asciiSpace" .u8 Lib.asciiSpaceTab := hb.2.2.1
theorem hbPow {g : G} {w : World} (hb : B.p g w) : Lib.TabIs Tryd.prog w "internal/strconv.uint64pow10" .u64 Lib.pow10Tab := hb.2.2.2
noncomputable def fam {ρ : Type} (fn : Func) (cut : List Nat) (own : List Nat) (L0 : List (Nat × Ob)) (V : ρ → AV) (O : ρ → List (Nat × Ob)) : Fam ρ :=
  ⟨Tryd.prog, ⟨lookT tyL, fun i => own.any (Nat.beq i), fn.ntmps, fun i => cut.any (Nat.beq i)⟩, fn, L0, V, O, tyOK, mixedOK, B⟩
def rd (l : List Int) (i : Int) : Int := l.getD i.toNat 0
def rdE {α : Type} (E : Enc α) (l : List α) (i : Int) : α := l.getD i.toNat E.d
theorem B_of {W : World} (hsh : W.ShapedOpen Tryd.prog) (hasc : Lib.TabIs Tryd.prog W "strings.asciiSpace" .u8 Lib.asciiSpaceTab) (hpow : Lib.TabIs Tryd.prog W "internal/strconv.uint64pow10" .u64 Lib.pow10Tab) : ∀ g : G, (∀ b, ¬ g.own b) → B.p g W := fun g hg => by
  obtain ⟨m, hm⟩ := Tryd.laysM219.s1_3 W hsh
  have hm : W.cell? ⟨0, 0, none⟩ = some (.int .i64 m) := hm
  refine ⟨fun b hb => ⟨?_, hg b⟩, ⟨⟨m, hm⟩, hasc, hpow⟩⟩
  have h0 : 0 < W.heap.size := by
    unfold World.cell? at hm
    cases e : W.heap[0]? with
    | none => rw [show (⟨0, 0, none⟩ : Addr).block = 0 from rfl, e] at hm; cases hm
    | some _ => exact (Array.getElem?_eq_some_iff.1 e).1
  have basc : 4 < W.heap.size := by
    have ht := hasc
    unfold Lib.TabIs World.var? at ht
    rw [show Tryd.prog.globalNamed "strings.asciiSpace" = some 4 by kernel_rfl] at ht
    cases e : W.heap[4]? with
    | none => simp [e] at ht
    | some _ => exact (Array.getElem?_eq_some_iff.1 e).1
  have bpow : 1 < W.heap.size := by
    have ht := hpow
    unfold Lib.TabIs World.var? at ht
    rw [show Tryd.prog.globalNamed "internal/strconv.uint64pow10" = some 1 by kernel_rfl] at ht
    cases e : W.heap[1]? with
    | none => simp [e] at ht
    | some _ => exact (Array.getElem?_eq_some_iff.1 e).1
  simp only [List.mem_cons, List.not_mem_nil, or_false] at hb
  rcases hb with rfl | rfl | rfl
  · exact h0
  · exact basc
  · exact bpow
theorem tab_asc {W : World} {d : DataW Unit} (hd : d = Lib.tabData .u8 Lib.asciiSpaceTab) {l : List (String × DataW Unit)} {ps : List MemPlace} (hl : DataW.LaidVars Tryd.prog W l ps) (h : ("strings.asciiSpace", d) ∈ l) : Lib.TabIs Tryd.prog W "strings.asciiSpace" .u8 Lib.asciiSpaceTab :=
  tabIs_of_mem (g := 4) (by kernel_rfl) (t := 109) (e := 5) (n := 256) (by kernel_rfl) Tryd.underlying109 Tryd.underlying5 (by kernel_rfl) (by kernel_rfl) hd hl h
theorem tab_pow {W : World} {d : DataW Unit} (hd : d = Lib.tabData .u64 Lib.pow10Tab) {l : List (String × DataW Unit)} {ps : List MemPlace} (hl : DataW.LaidVars Tryd.prog W l ps) (h : ("internal/strconv.uint64pow10", d) ∈ l) : Lib.TabIs Tryd.prog W "internal/strconv.uint64pow10" .u64 Lib.pow10Tab :=
  tabIs_of_mem (g := 1) (by kernel_rfl) (t := 80) (e := 58) (n := 20) (by kernel_rfl) Tryd.underlying80 Tryd.underlying58 (by kernel_rfl) (by kernel_rfl) hd hl h
end Go.EV
