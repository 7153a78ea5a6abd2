/- What of the attributes of any stack, and of any node, may not be, is what the document says: part 31 of 46. -/
import Derived.IntWalk
import Derived.Test.YtlgikchfddhocaaB30
set_option linter.all false
/- Generic functions of slices: IndexFunc, ContainsFunc, for all types. -/
set_option linter.unusedSimpArgs false
set_option linter.unusedVariables false
namespace Go.Proofs.Ytlgikchfddhocaa.AL
open Go.RowKit
end Go.Proofs.Ytlgikchfddhocaa.AL

