/- What of the attributes of any stack, and of any node, may not be, is what the document says: part 27 of 46. -/
import Derived.Test.YtlgikchfddhocaaB26
set_option linter.all false
/- Readers of this seat's types, printed by linkgen.py. -/
set_option linter.all false
set_option maxRecDepth 100000
namespace Go.Proofs.Ytlgikchfddhocaa.AL
open Go Go.Proofs
def rd_25e := rd_u8 (P := Try.prog) (T := 5) (by kernel_rfl)
def rd_25 := rd_slice (P := Try.prog) (T := 25) (e := 5) (n := 1) (g := u8) (agg := false) (by kernel_rfl) (by kernel_rfl) (by decide) rd_25e (fun _ => rfl)
def rd_9 := rd_str (P := Try.prog) (T := 9) (by kernel_rfl)
def rd_30 := rd_slice (P := Try.prog) (T := 30) (e := 9) (n := 1) (L := ByteArray) (g := str) (agg := false) (by kernel_rfl) (by kernel_rfl) (by decide) rd_9 (fun _ => rfl)
end Go.Proofs.Ytlgikchfddhocaa.AL

