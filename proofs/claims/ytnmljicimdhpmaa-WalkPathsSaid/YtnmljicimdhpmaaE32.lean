/- A law of the given program is proved: part 32 of 49. -/
import Derived.Test.YtnmljicimdhpmaaE31
set_option linter.all false
/- Generic functions of slices, by their models: IndexFunc, ContainsFunc, Clone, for all types. -/
set_option linter.all false
namespace Go.Proofs.Ytnmljicimdhpmaa.AL
open Go.RowKit
end Go.Proofs.Ytnmljicimdhpmaa.AL

