/- A law of the given program is proved: part 28 of 36. -/
import Derived.Test.YtnmljicimdhpmaaDoorP27
set_option linter.all false
/- Readers of this seat's types, printed by linkgen.py. -/
set_option linter.all false
set_option maxRecDepth 100000
namespace Go.Proofs.YtnmljicimdhpmaaDoor.AL
open Go Go.Proofs
def rd_9 := rd_str (P := Tryd.prog) (T := 9) (by kernel_rfl)
def rd_22 := rd_slice (P := Tryd.prog) (T := 22) (e := 9) (n := 1) (L := ByteArray) (g := str) (agg := false) (by kernel_rfl) (by kernel_rfl) (by decide) rd_9 (fun _ => rfl)
end Go.Proofs.YtnmljicimdhpmaaDoor.AL

