/- A law of the given program is proved: part 41 of 50. -/
import Derived.Test.YtefdlpandfhcgaaDoorChecked
import Derived.Test.YtefdlpandfhcgaaDoorA40
set_option linter.all false
/- (*walk.trail).names: what is handed on, round by round. -/
set_option linter.all false
namespace Go.Proofs.YtefdlpandfhcgaaDoor.AL
open Go Go.Proofs Go.RowKit
section
variable {P : Program} {n : Nat} {σ : Type} {live : σ → Bool} {JJ : σ → World → Prop} {Zx : σ → Nat → Prop} {Q : Exit → AS → σ → Prop} {s : AS} {y : σ}
end
section
variable {JJ : Bool × List Entry → World → Prop} {Zx : Bool × List Entry → Nat → Prop} {b : Branch} {ways : List Way} {nd : Way → Node} {l m : Nat}
end
end Go.Proofs.YtefdlpandfhcgaaDoor.AL

/- (*walk.trail).reach: its pieces; written by reachgen.py. -/
set_option linter.all false
set_option maxRecDepth 100000
namespace Go.Proofs.YtefdlpandfhcgaaDoor.AL
open Go Go.Proofs
end Go.Proofs.YtefdlpandfhcgaaDoor.AL

/- (*walk.trail).reach: the walk ahead of the range over a function. -/
set_option linter.all false
namespace Go.Proofs.YtefdlpandfhcgaaDoor.AL
open Go Go.Proofs Go.RowKit
end Go.Proofs.YtefdlpandfhcgaaDoor.AL

