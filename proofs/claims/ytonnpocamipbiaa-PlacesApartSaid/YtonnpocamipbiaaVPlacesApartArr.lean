-- The kit's words, laid by a program of this session: those that this claim needs.
import Derived.Test.YtonnpocamipbiaaVPlacesApartWords
/-! ### 41. Arrays '[n]T' as_ values: a kind (a field, an element of a row), an element read, an element set -/
namespace Go.Proofs.YtonnpocamipbiaaW.PrintWords
open Go.RowKit
namespace Kd
section
end
section
end
end Kd
end Go.Proofs.YtonnpocamipbiaaW.PrintWords
