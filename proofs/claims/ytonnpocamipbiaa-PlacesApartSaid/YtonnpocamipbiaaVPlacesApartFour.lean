-- The kit's words, laid by a program of this session: those that this claim needs.
import Derived.Test.YtonnpocamipbiaaVPlacesApartTab
/-! ### 56. Four, five, six operations that may come up next, in any order -/
namespace Go.Proofs.YtonnpocamipbiaaW.PrintLast
section
end
end Go.Proofs.YtonnpocamipbiaaW.PrintLast
