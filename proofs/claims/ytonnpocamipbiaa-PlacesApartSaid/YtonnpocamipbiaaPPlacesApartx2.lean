-- A program of this session wrote this text: a turned copy of the printer; functions proved by hand stand in it.
import Derived.Test.YtonnpocamipbiaaPPlacesApartx0
namespace Go.Proofs.Ytonnpocamipbiaa.PPlacesApart
open Go.RowKit Go.Proofs.YtonnpocamipbiaaW.PrintWords Go.Proofs.YtonnpocamipbiaaW.PrintLast Go.Proofs.YtonnpocamipbiaaW.PrintMore Go.Proofs.YtonnpocamipbiaaW.PrintOwn
attribute [local go_sem] max2_int min2_int max_two min_two max_three min_three max_four min_four   -- for this text's walks alone
set_option linter.unusedVariables false
set_option linter.unusedSimpArgs false

theorem eqA86 (d : Nat) (w : World) (x0 y0 x1 y1 : Int) : (Op.equalIn (d + 2) 86 (.agg #[.int .i64 x0, .int .i64 x1]) (.agg #[.int .i64 y0, .int .i64 y1])).run Try.prog w = .ok (x0 == y0 && (x1 == y1)) w := eqA_arr2 Try.underlying86 Try.underlying3 Try.sizeOf3
end Go.Proofs.Ytonnpocamipbiaa.PPlacesApart
