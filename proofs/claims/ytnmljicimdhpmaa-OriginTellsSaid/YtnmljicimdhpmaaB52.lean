/- What of the attributes of any stack, and of any node, may not be, is what the document says: part 52 of 53. -/
import Derived.Test.YtnmljicimdhpmaaB51
set_option linter.all false
/- The table of functions for closed runs; written by tabgen.py. -/
set_option linter.all false
namespace Go.Proofs.Ytnmljicimdhpmaa.AL
open Go Go.Proofs
end Go.Proofs.Ytnmljicimdhpmaa.AL

