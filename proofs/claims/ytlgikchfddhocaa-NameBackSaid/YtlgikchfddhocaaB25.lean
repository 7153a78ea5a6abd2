/- What of the attributes of any stack, and of any node, may not be, is what the document says: part 25 of 46. -/
import Derived.Test.YtlgikchfddhocaaChecked
import Derived.Test.YtlgikchfddhocaaB24
set_option linter.all false
/- AL: closed facts on the types and functions of this seat's translation, printed by facts.py. -/
namespace Go.Proofs.Ytlgikchfddhocaa.AL
open Go Go.Proofs
set_option maxRecDepth 100000
theorem aggN_1 : aggN Try.prog 1 = some (false, 1) := by kernel_rfl
theorem aggN_2 : aggN Try.prog 2 = some (false, 1) := by kernel_rfl
theorem aggN_3 : aggN Try.prog 3 = some (false, 1) := by kernel_rfl
theorem aggN_4 : aggN Try.prog 4 = some (false, 1) := by kernel_rfl
theorem kindOf_4 : kindOf Try.prog 4 = .bool := by kernel_rfl
theorem aggN_5 : aggN Try.prog 5 = some (false, 1) := by kernel_rfl
theorem bytesOfT_5 : bytesOfT Try.prog 5 = some 1 := by kernel_rfl
theorem aggN_9 : aggN Try.prog 9 = some (false, 1) := by kernel_rfl
theorem kindOf_9 : kindOf Try.prog 9 = .str := by kernel_rfl
theorem bytesOfT_9 : bytesOfT Try.prog 9 = some 16 := by kernel_rfl
theorem aggN_21 : aggN Try.prog 21 = some (false, 1) := by kernel_rfl
theorem aggN_25 : aggN Try.prog 25 = some (false, 1) := by kernel_rfl
theorem elemOfT_25 : elemOfT Try.prog 25 = some 5 := by kernel_rfl
theorem aggN_30 : aggN Try.prog 30 = some (false, 1) := by kernel_rfl
theorem elemOfT_30 : elemOfT Try.prog 30 = some 9 := by kernel_rfl
theorem aggN_57 : aggN Try.prog 57 = some (false, 1) := by kernel_rfl
theorem aggN_59 : aggN Try.prog 59 = some (true, 14) := by kernel_rfl
theorem elemOfT_59 : elemOfT Try.prog 59 = none := by kernel_rfl
theorem arrOfT_59 : arrOfT Try.prog 59 = some (14, 5) := by kernel_rfl
end Go.Proofs.Ytlgikchfddhocaa.AL

