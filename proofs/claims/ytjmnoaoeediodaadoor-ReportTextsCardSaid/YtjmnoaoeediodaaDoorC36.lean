/- A law of the given program is proved: part 36 of 47. -/
import Derived.Test.YtjmnoaoeediodaaDoorChecked
import Derived.Test.YtjmnoaoeediodaaDoorC35
set_option linter.all false
/- AL: the functions of this seat's translation in AL's short form, written by gencode.py out of Lean's own print of them; each with the fact that it is so. -/
set_option maxRecDepth 100000
namespace Go.Proofs.YtjmnoaoeediodaaDoor.AL
open Go Go.Proofs
end Go.Proofs.YtjmnoaoeediodaaDoor.AL

