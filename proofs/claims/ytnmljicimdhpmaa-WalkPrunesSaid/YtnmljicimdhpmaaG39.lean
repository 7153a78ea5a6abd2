/- A law of the given program is proved: part 39 of 55. -/
import Derived.Test.YtnmljicimdhpmaaG38
set_option linter.all false
/- Models of functions, and that the functions are as their models: written by gen.py. -/
set_option linter.all false
set_option maxRecDepth 100000
namespace Go.Proofs.Ytnmljicimdhpmaa.AL
open Go Go.Proofs
end Go.Proofs.Ytnmljicimdhpmaa.AL

