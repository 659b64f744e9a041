-- The kit's words, laid by a program of this session: those that this claim needs.
import Derived.Test.YtacgcamgfkjbiaaVHoursCountedWords
/-! ### 41. Arrays '[n]T' as_ values: a kind (a field, an element of a row), an element read, an element set -/
namespace Go.Proofs.YtacgcamgfkjbiaaW.PrintWords
open Go.RowKit
namespace Kd
section
end
section
end
end Kd
end Go.Proofs.YtacgcamgfkjbiaaW.PrintWords
