/- A law of the given program is proved: part 38 of 51. -/
import Derived.Test.YtapdjibjnfeipaaGreatDoorD37
set_option linter.all false
/- Models of functions, and that the functions are as their models: written by gen.py. -/
set_option linter.all false
set_option maxRecDepth 100000
namespace Go.Proofs.YtapdjibjnfeipaaGreatDoor.AL
open Go Go.Proofs
end Go.Proofs.YtapdjibjnfeipaaGreatDoor.AL

