-- The kit's words, laid by a program of this session: those that this claim needs.
import Derived.Test.YtacgcamgfkjbiaaVHoursCountedApart
import Derived.Test.YtacgcamgfkjbiaaVHoursCountedArr
/-! ### 42. append(v, make([]T, n)...): the operation comes as_ append with the number in the second place -/
namespace Go.Proofs.YtacgcamgfkjbiaaW.PrintWords
open Go.RowKit
section
end
namespace Kd
section
end
/-! #### the same for rows whose elements lie apart -/
section
end
section
end
end Kd
end Go.Proofs.YtacgcamgfkjbiaaW.PrintWords
