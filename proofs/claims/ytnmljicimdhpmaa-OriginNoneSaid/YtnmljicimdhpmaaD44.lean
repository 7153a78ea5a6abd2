/- A law of the given program is proved: part 44 of 51. -/
import Derived.Test.YtnmljicimdhpmaaD43
set_option linter.all false
/- Models of functions, and that the functions are as their models: written by gen.py. -/
set_option linter.all false
set_option maxRecDepth 100000
namespace Go.Proofs.Ytnmljicimdhpmaa.AL
open Go Go.Proofs
def m_ref09_has (a0 : Int) (a1 : Int) : Option (Bool) := (ck (¬ a1 = 0)).bind fun _ => if ((wr (a0.tdiv a1)).tmod 2) = 1 then some true
 else some false
def m_ref09_Has (a0 : Attr) (a1 : Int) : Option (Bool) := if 0 ≤ a0.has then (m_ref09_has a0.has a1).bind fun v3 => some v3
 else some false
end Go.Proofs.Ytnmljicimdhpmaa.AL

