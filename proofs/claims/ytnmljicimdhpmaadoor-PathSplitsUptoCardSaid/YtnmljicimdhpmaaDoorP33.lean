/- A law of the given program is proved: part 33 of 36. -/
import Derived.Test.YtnmljicimdhpmaaDoorP32
set_option linter.all false
/- '==' of plain structs, printed by eqrules.py. -/
set_option linter.all false
set_option maxRecDepth 100000
namespace Go.Proofs.YtnmljicimdhpmaaDoor.AL
open Go Go.Proofs
end Go.Proofs.YtnmljicimdhpmaaDoor.AL

