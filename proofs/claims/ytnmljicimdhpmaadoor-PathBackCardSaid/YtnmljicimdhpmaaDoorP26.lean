/- A law of the given program is proved: part 26 of 36. -/
import Derived.Test.YtnmljicimdhpmaaDoorChecked
import Derived.Test.YtnmljicimdhpmaaDoorP25
set_option linter.all false
/- AL: closed facts on the types and functions of this seat's translation, printed by facts.py. -/
namespace Go.Proofs.YtnmljicimdhpmaaDoor.AL
open Go Go.Proofs
set_option maxRecDepth 100000
theorem aggN_1 : aggN Tryd.prog 1 = some (false, 1) := by kernel_rfl
theorem aggN_2 : aggN Tryd.prog 2 = some (false, 1) := by kernel_rfl
theorem aggN_3 : aggN Tryd.prog 3 = some (false, 1) := by kernel_rfl
theorem aggN_4 : aggN Tryd.prog 4 = some (false, 1) := by kernel_rfl
theorem kindOf_4 : kindOf Tryd.prog 4 = .bool := by kernel_rfl
theorem aggN_5 : aggN Tryd.prog 5 = some (false, 1) := by kernel_rfl
theorem aggN_9 : aggN Tryd.prog 9 = some (false, 1) := by kernel_rfl
theorem kindOf_9 : kindOf Tryd.prog 9 = .str := by kernel_rfl
theorem bytesOfT_9 : bytesOfT Tryd.prog 9 = some 16 := by kernel_rfl
theorem aggN_21 : aggN Tryd.prog 21 = some (false, 1) := by kernel_rfl
theorem aggN_22 : aggN Tryd.prog 22 = some (false, 1) := by kernel_rfl
theorem elemOfT_22 : elemOfT Tryd.prog 22 = some 9 := by kernel_rfl
theorem aggN_33 : aggN Tryd.prog 33 = some (false, 1) := by kernel_rfl
theorem aggN_42 : aggN Tryd.prog 42 = some (false, 1) := by kernel_rfl
end Go.Proofs.YtnmljicimdhpmaaDoor.AL

