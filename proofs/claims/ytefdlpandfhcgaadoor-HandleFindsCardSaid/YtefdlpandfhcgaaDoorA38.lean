/- A law of the given program is proved: part 38 of 50. -/
import Derived.RangeFuncNested
import Derived.Test.YtefdlpandfhcgaaDoorA37
set_option linter.all false
/- AL: the program's own cells, where all cells are kept; written by g0.py. -/
set_option linter.all false
namespace Go.Proofs.YtefdlpandfhcgaaDoor.AL
open Go Go.Proofs Go.RowKit
end Go.Proofs.YtefdlpandfhcgaaDoor.AL

