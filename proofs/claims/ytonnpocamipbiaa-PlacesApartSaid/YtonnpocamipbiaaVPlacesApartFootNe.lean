-- The kit's words, laid by a program of this session: those that this claim needs.
import Derived.Test.YtonnpocamipbiaaVPlacesApartN
/-! ### 52. A row that stays read whatever happens to a block (a set of blocks) doesn't lie there -/
namespace Go.Proofs.YtonnpocamipbiaaW.PrintWords
open Go.RowKit
namespace Kd
section
end
end Kd
end Go.Proofs.YtonnpocamipbiaaW.PrintWords
