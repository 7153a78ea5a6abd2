/- A law of the given program is proved: part 31 of 49. -/
import Derived.IntWalk
import Derived.Test.YtnmljicimdhpmaaE30
set_option linter.all false
/- Generic functions of slices: IndexFunc, ContainsFunc, for all types. -/
set_option linter.unusedSimpArgs false
set_option linter.unusedVariables false
namespace Go.Proofs.Ytnmljicimdhpmaa.AL
open Go.RowKit
end Go.Proofs.Ytnmljicimdhpmaa.AL

