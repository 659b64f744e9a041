-- A program of this session wrote this text: a turned copy of the printer; functions proved by hand stand in it.
import Derived.Test.YtonnpocamipbiaaProg
import Derived.Below
import Derived.Deep.Draws
import Derived.Deep.AppendLies
import Derived.Maps.AppendAt
import Derived.OwnWalk
import Derived.Laws.BytesArg
import Derived.Laws.MakeOwn
import Derived.Laws.OwnMore
import Derived.Deep.OwnRows
import Derived.Tactics
import Derived.Lib.ConvBytes
import Derived.Laws.Slices
import Derived.WalkKit
import Derived.KernelRfl
import Derived.RowKit3
import Derived.Deep.LoopGhost
import Derived.Deep.QuietTactic
import Derived.BigQuiet
import Derived.WideLaws
import Derived.Deep.DeepCutAuto
import Derived.Deep.CutBlock
import Derived.Deep.RegionHeld3
import Derived.Laws.Rows
import Derived.Lib.AppendStr
import Derived.ArgAppend
import Derived.Laws.IdiomCopy
import Derived.OrdersHeld
import Derived.Laws.BitsLemmas
import Derived.RowKit
import Derived.Test.YtonnpocamipbiaaWWords
import Derived.Test.YtonnpocamipbiaaWLast
import Derived.Test.YtonnpocamipbiaaWTab
import Derived.Test.YtonnpocamipbiaaWFour
import Derived.Test.YtonnpocamipbiaaWQPut
import Derived.Test.YtonnpocamipbiaaWApart
import Derived.Test.YtonnpocamipbiaaWArr
import Derived.Test.YtonnpocamipbiaaWZeros
import Derived.Test.YtonnpocamipbiaaWFoot
import Derived.Test.YtonnpocamipbiaaWKept
import Derived.Test.YtonnpocamipbiaaWShare
import Derived.Test.YtonnpocamipbiaaWN
import Derived.Test.YtonnpocamipbiaaWFootNe
import Derived.Test.YtonnpocamipbiaaWAt
import Derived.Test.YtonnpocamipbiaaWEqStruct
import Derived.Test.YtonnpocamipbiaaWRepsOne
import Derived.Test.YtonnpocamipbiaaWInv
import Derived.Test.YtonnpocamipbiaaWInvWords
import Derived.Test.YtonnpocamipbiaaWGuard
import Derived.Test.YtonnpocamipbiaaWNEv
import Derived.Test.YtonnpocamipbiaaWMore
import Derived.Test.YtonnpocamipbiaaWOwn
namespace Go.Proofs.Ytonnpocamipbiaa.PSunFollowed
open Go.RowKit Go.Proofs.YtonnpocamipbiaaW.PrintWords Go.Proofs.YtonnpocamipbiaaW.PrintLast Go.Proofs.YtonnpocamipbiaaW.PrintMore Go.Proofs.YtonnpocamipbiaaW.PrintOwn
attribute [local go_sem] max2_int min2_int max_two min_two max_three min_three max_four min_four   -- for this text's walks alone
set_option linter.unusedVariables false
set_option linter.unusedSimpArgs false



def errW : Option Int → Value
  | none => .nilIface
  | some c => .iface 0 (.int .i64 c)
theorem errW_none : errW none = .nilIface := rfl
theorem errW_some (c : Int) : errW (some c) = .iface 0 (.int .i64 c) := rfl

theorem info3 : (Try.prog.info? 3).map (fun i => (i.zero, i.size, i.bytes)) = some (some (.int .i64 0), 1, 8) := by kernel_rfl
theorem info32 : (Try.prog.info? 32).map (fun i => (i.zero, i.size, i.bytes)) = some (some (.int .i64 0), 1, 8) := by kernel_rfl
-- the values' own types

end Go.Proofs.Ytonnpocamipbiaa.PSunFollowed
