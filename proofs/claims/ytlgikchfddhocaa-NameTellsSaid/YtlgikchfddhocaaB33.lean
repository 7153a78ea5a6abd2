/- What of the attributes of any stack, and of any node, may not be, is what the document says: part 33 of 46. -/
import Derived.Test.YtlgikchfddhocaaB32
set_option linter.all false
/- '==' of plain structs, printed by eqrules.py. -/
set_option linter.all false
set_option maxRecDepth 100000
namespace Go.Proofs.Ytlgikchfddhocaa.AL
open Go Go.Proofs
end Go.Proofs.Ytlgikchfddhocaa.AL

