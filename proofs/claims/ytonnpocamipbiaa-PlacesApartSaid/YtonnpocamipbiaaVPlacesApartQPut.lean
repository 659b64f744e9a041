-- The kit's words, laid by a program of this session: those that this claim needs.
import Derived.Test.YtonnpocamipbiaaVPlacesApartWords
import Derived.Test.YtonnpocamipbiaaVPlacesApartLast
/-! ### 39. Stores into a row that may begin inside its block (Q): Q_form, Q_elem, Q_seg; scalars: Q_cell, Q_putg -/
namespace Go.Proofs.YtonnpocamipbiaaW.PrintWords
open Go.RowKit
namespace Kd
section
end
section
end
end Kd
end Go.Proofs.YtonnpocamipbiaaW.PrintWords
