-- The kit's words, laid by a program of this session: those that this claim needs.
import Derived.Test.YtonnpocamipbiaaVPlacesApartApart
import Derived.Test.YtonnpocamipbiaaVPlacesApartArr
/-! ### 42. append(v, make([]T, n)...): the operation comes as_ append with the number in the second place -/
namespace Go.Proofs.YtonnpocamipbiaaW.PrintWords
open Go.RowKit
section
end
namespace Kd
section
end
/-! #### the same for rows whose elements lie apart -/
section
end
section
end
end Kd
end Go.Proofs.YtonnpocamipbiaaW.PrintWords
