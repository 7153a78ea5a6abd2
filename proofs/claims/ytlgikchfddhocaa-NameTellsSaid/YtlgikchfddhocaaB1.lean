/- What of the attributes of any stack, and of any node, may not be, is what the document says: part 1 of 46. -/
import Derived.OwnWalk
import Derived.ScopeJumps
import Derived.KernelRfl
import Derived.Below
set_option linter.all false
/- AL: what every world of a call knows of the program's own cells; written by g0.py. -/
set_option linter.all false
namespace Go.Proofs.Ytlgikchfddhocaa.AL
open Go Go.Proofs Go.RowKit
def gN : Nat := 0
def GW (w : World) : Prop := True
theorem GW.mono {n : Nat} {w w' : World} (h : GW w) (hb : Below n w w') (hn : gN ≤ n) : GW w' := by
  exact trivial
theorem GW.size {w : World} (h : GW w) : gN ≤ w.heap.size := by unfold gN; omega
theorem GW.free (w : World) : GW w := trivial
end Go.Proofs.Ytlgikchfddhocaa.AL

