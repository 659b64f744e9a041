-- The kit's words, laid by a program of this session: those that this claim needs.
import Derived.Test.YtacgcamgfkjbiaaVHoursCountedInv
import Derived.Test.YtacgcamgfkjbiaaVHoursCountedFootNe
namespace Go.Proofs.YtacgcamgfkjbiaaW.PrintWords
open Go.RowKit
end Go.Proofs.YtacgcamgfkjbiaaW.PrintWords
namespace Go.Proofs.YtacgcamgfkjbiaaW.PrintLast
section
end
end Go.Proofs.YtacgcamgfkjbiaaW.PrintLast
