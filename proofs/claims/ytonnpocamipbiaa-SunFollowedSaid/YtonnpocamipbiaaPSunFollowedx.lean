-- A program of this session wrote this text: a turned copy of the printer; functions proved by hand stand in it.
import Derived.Test.YtonnpocamipbiaaPSunFollowedx0
import Derived.Test.YtonnpocamipbiaaPSunFollowedx1
import Derived.Test.YtonnpocamipbiaaPSunFollowedx2
import Derived.Test.YtonnpocamipbiaaPSunFollowedx3
import Derived.Test.YtonnpocamipbiaaPSunFollowedx4
namespace Go.Proofs.Ytonnpocamipbiaa.PSunFollowed
open Go.RowKit Go.Proofs.YtonnpocamipbiaaW.PrintWords Go.Proofs.YtonnpocamipbiaaW.PrintLast Go.Proofs.YtonnpocamipbiaaW.PrintMore Go.Proofs.YtonnpocamipbiaaW.PrintOwn
attribute [local go_sem] max2_int min2_int max_two min_two max_three min_three max_four min_four   -- for this text's walks alone
set_option linter.unusedVariables false
set_option linter.unusedSimpArgs false

end Go.Proofs.Ytonnpocamipbiaa.PSunFollowed
