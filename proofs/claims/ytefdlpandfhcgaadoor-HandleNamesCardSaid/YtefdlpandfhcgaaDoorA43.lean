/- A law of the given program is proved: part 43 of 50. -/
import Derived.Shelf.Abstract
import Derived.Test.YtefdlpandfhcgaaDoorA42
set_option linter.all false
/- (*walk.trail).reach: its contract. -/
set_option linter.all false
namespace Go.Proofs.YtefdlpandfhcgaaDoor.AL
open Go Go.Proofs Go.RowKit
end Go.Proofs.YtefdlpandfhcgaaDoor.AL

