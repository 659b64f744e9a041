-- The kit's words, laid by a program of this session: those that this claim needs.
import Derived.Test.YtonnpocamipbiaaVPlacesApartFootNe
/-! ### 54. Behind orders that were drawn quietly: the same facts at the world's new name; a flat row's foot -/
namespace Go.Proofs.YtonnpocamipbiaaW.PrintWords
open Go.RowKit
section
end
namespace Kd
section
end
end Kd
end Go.Proofs.YtonnpocamipbiaaW.PrintWords
