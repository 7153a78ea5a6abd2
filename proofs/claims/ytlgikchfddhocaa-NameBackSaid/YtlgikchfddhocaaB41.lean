/- What of the attributes of any stack, and of any node, may not be, is what the document says: part 41 of 46. -/
import Derived.Test.YtlgikchfddhocaaB40
set_option linter.all false
/- AL: closed runs: an interpreter of the short form on abstract states, and that it tells the truth. -/
set_option linter.all false
namespace Go.Proofs.Ytlgikchfddhocaa.AL
open Go Go.Proofs Go.RowKit

abbrev XH := List (Nat × Option AO)
structure XS where
  T : List AV
  H : XH
  nx : Nat
section
variable (P : Program)
variable (tab : FuncId → Option (Nat × List ResultVar × AC)) (told : FuncId → Option (List AV → Option AV))
end
end Go.Proofs.Ytlgikchfddhocaa.AL

