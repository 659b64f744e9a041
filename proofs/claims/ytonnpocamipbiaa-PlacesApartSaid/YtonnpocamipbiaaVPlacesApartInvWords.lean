-- The kit's words, laid by a program of this session: those that this claim needs.
import Derived.Test.YtonnpocamipbiaaVPlacesApartInv
import Derived.Test.YtonnpocamipbiaaVPlacesApartFootNe
namespace Go.Proofs.YtonnpocamipbiaaW.PrintWords
open Go.RowKit
end Go.Proofs.YtonnpocamipbiaaW.PrintWords
namespace Go.Proofs.YtonnpocamipbiaaW.PrintLast
section
end
end Go.Proofs.YtonnpocamipbiaaW.PrintLast
