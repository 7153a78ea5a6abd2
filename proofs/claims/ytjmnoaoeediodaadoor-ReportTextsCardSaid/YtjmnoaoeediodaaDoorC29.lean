/- A law of the given program is proved: part 29 of 47. -/
import Derived.IntWalk
import Derived.Test.YtjmnoaoeediodaaDoorC28
set_option linter.all false
/- Generic functions of slices: IndexFunc, ContainsFunc, for all types. -/
set_option linter.unusedSimpArgs false
set_option linter.unusedVariables false
namespace Go.Proofs.YtjmnoaoeediodaaDoor.AL
open Go.RowKit
end Go.Proofs.YtjmnoaoeediodaaDoor.AL

