/- A law of the given program is proved: part 40 of 50. -/
import Derived.OwnWalkIn
import Derived.Test.YtefdlpandfhcgaaDoorA39
set_option linter.all false
/- AL: straight text in a round of a range over a function, and behind one. -/
set_option linter.all false
namespace Go.Proofs.YtefdlpandfhcgaaDoor.AL
open Go.RowKit
section
variable {P : Program} {ops : Array Oper} {Q Q' : Exit → Act → World → Prop}
end
section
variable {P : Program} {ro : Option Nat} {m n : Nat} {ds : List Deferred}
end
end Go.Proofs.YtefdlpandfhcgaaDoor.AL

