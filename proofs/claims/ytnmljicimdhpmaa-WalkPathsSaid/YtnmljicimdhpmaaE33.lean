/- A law of the given program is proved: part 33 of 49. -/
import Derived.Test.YtnmljicimdhpmaaE32
set_option linter.all false
/- '==' of plain structs, printed by eqrules.py. -/
set_option linter.all false
set_option maxRecDepth 100000
namespace Go.Proofs.Ytnmljicimdhpmaa.AL
open Go Go.Proofs
end Go.Proofs.Ytnmljicimdhpmaa.AL

