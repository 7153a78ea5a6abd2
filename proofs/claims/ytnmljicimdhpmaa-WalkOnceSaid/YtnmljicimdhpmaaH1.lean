/- A law of the given program is proved: part 1 of 49. -/
import Derived.OwnWalk
import Derived.ScopeJumps
import Derived.KernelRfl
import Derived.Below
set_option linter.all false
/- AL: what every world of a call knows of the program's own cells; written by g0.py. -/
set_option linter.all false
namespace Go.Proofs.Ytnmljicimdhpmaa.AL
open Go Go.Proofs Go.RowKit
def gN : Nat := 0
def GW (w : World) : Prop := True
theorem GW.mono {n : Nat} {w w' : World} (h : GW w) (hb : Below n w w') (hn : gN ≤ n) : GW w' := by
  exact trivial
theorem GW.size {w : World} (h : GW w) : gN ≤ w.heap.size := by unfold gN; omega
theorem GW.free (w : World) : GW w := trivial
theorem gN_free (k : Nat) : gN ≤ k := Nat.zero_le k
end Go.Proofs.Ytnmljicimdhpmaa.AL

