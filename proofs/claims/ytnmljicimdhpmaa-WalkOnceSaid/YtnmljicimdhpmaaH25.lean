/- A law of the given program is proved: part 25 of 49. -/
import Derived.Test.YtnmljicimdhpmaaChecked
import Derived.Test.YtnmljicimdhpmaaH24
set_option linter.all false
/- AL: closed facts on the types and functions of this seat's translation, printed by facts.py. -/
namespace Go.Proofs.Ytnmljicimdhpmaa.AL
open Go Go.Proofs
set_option maxRecDepth 100000
theorem aggN_1 : aggN Try.prog 1 = some (false, 1) := by kernel_rfl
theorem aggN_2 : aggN Try.prog 2 = some (false, 1) := by kernel_rfl
theorem aggN_3 : aggN Try.prog 3 = some (false, 1) := by kernel_rfl
theorem bytesOfT_3 : bytesOfT Try.prog 3 = some 8 := by kernel_rfl
theorem aggN_4 : aggN Try.prog 4 = some (false, 1) := by kernel_rfl
theorem kindOf_4 : kindOf Try.prog 4 = .bool := by kernel_rfl
theorem bytesOfT_4 : bytesOfT Try.prog 4 = some 1 := by kernel_rfl
theorem aggN_5 : aggN Try.prog 5 = some (false, 1) := by kernel_rfl
theorem bytesOfT_5 : bytesOfT Try.prog 5 = some 1 := by kernel_rfl
theorem aggN_9 : aggN Try.prog 9 = some (false, 1) := by kernel_rfl
theorem kindOf_9 : kindOf Try.prog 9 = .str := by kernel_rfl
theorem aggN_24 : aggN Try.prog 24 = some (false, 1) := by kernel_rfl
theorem elemOfT_24 : elemOfT Try.prog 24 = some 46 := by kernel_rfl
theorem aggN_26 : aggN Try.prog 26 = some (true, 1) := by kernel_rfl
theorem fieldOf_26_0 : fieldOf Try.prog 26 0 = some (0, 24) := by kernel_rfl
theorem aggN_39 : aggN Try.prog 39 = some (false, 1) := by kernel_rfl
theorem elemOfT_39 : elemOfT Try.prog 39 = some 5 := by kernel_rfl
theorem aggN_40 : aggN Try.prog 40 = some (false, 1) := by kernel_rfl
theorem elemOfT_40 : elemOfT Try.prog 40 = some 54 := by kernel_rfl
theorem aggN_42 : aggN Try.prog 42 = some (true, 3) := by kernel_rfl
theorem fieldOf_42_0 : fieldOf Try.prog 42 0 = some (0, 3) := by kernel_rfl
theorem fieldOf_42_1 : fieldOf Try.prog 42 1 = some (1, 3) := by kernel_rfl
theorem fieldOf_42_2 : fieldOf Try.prog 42 2 = some (2, 3) := by kernel_rfl
theorem aggN_44 : aggN Try.prog 44 = some (true, 7) := by kernel_rfl
theorem fieldOf_44_0 : fieldOf Try.prog 44 0 = some (0, 3) := by kernel_rfl
theorem fieldOf_44_1 : fieldOf Try.prog 44 1 = some (1, 3) := by kernel_rfl
theorem fieldOf_44_2 : fieldOf Try.prog 44 2 = some (2, 9) := by kernel_rfl
theorem fieldOf_44_3 : fieldOf Try.prog 44 3 = some (3, 42) := by kernel_rfl
theorem fieldOf_44_4 : fieldOf Try.prog 44 4 = some (6, 3) := by kernel_rfl
theorem aggN_46 : aggN Try.prog 46 = some (true, 13) := by kernel_rfl
theorem fieldOf_46_0 : fieldOf Try.prog 46 0 = some (0, 3) := by kernel_rfl
theorem fieldOf_46_1 : fieldOf Try.prog 46 1 = some (1, 3) := by kernel_rfl
theorem fieldOf_46_2 : fieldOf Try.prog 46 2 = some (2, 3) := by kernel_rfl
theorem fieldOf_46_3 : fieldOf Try.prog 46 3 = some (3, 3) := by kernel_rfl
theorem fieldOf_46_4 : fieldOf Try.prog 46 4 = some (4, 39) := by kernel_rfl
theorem fieldOf_46_5 : fieldOf Try.prog 46 5 = some (5, 40) := by kernel_rfl
theorem fieldOf_46_6 : fieldOf Try.prog 46 6 = some (6, 44) := by kernel_rfl
theorem bytesOfT_46 : bytesOfT Try.prog 46 = some 144 := by kernel_rfl
theorem aggN_49 : aggN Try.prog 49 = some (false, 1) := by kernel_rfl
theorem elemOfT_49 : elemOfT Try.prog 49 = some 52 := by kernel_rfl
theorem aggN_52 : aggN Try.prog 52 = some (true, 3) := by kernel_rfl
theorem fieldOf_52_0 : fieldOf Try.prog 52 0 = some (0, 3) := by kernel_rfl
theorem fieldOf_52_1 : fieldOf Try.prog 52 1 = some (1, 3) := by kernel_rfl
theorem fieldOf_52_2 : fieldOf Try.prog 52 2 = some (2, 9) := by kernel_rfl
theorem bytesOfT_52 : bytesOfT Try.prog 52 = some 32 := by kernel_rfl
theorem aggN_54 : aggN Try.prog 54 = some (true, 3) := by kernel_rfl
theorem fieldOf_54_0 : fieldOf Try.prog 54 0 = some (0, 3) := by kernel_rfl
theorem fieldOf_54_1 : fieldOf Try.prog 54 1 = some (1, 3) := by kernel_rfl
theorem fieldOf_54_2 : fieldOf Try.prog 54 2 = some (2, 9) := by kernel_rfl
theorem bytesOfT_54 : bytesOfT Try.prog 54 = some 32 := by kernel_rfl
theorem aggN_57 : aggN Try.prog 57 = some (false, 1) := by kernel_rfl
theorem aggN_63 : aggN Try.prog 63 = some (false, 1) := by kernel_rfl
theorem elemOfT_63 : elemOfT Try.prog 63 = some 3 := by kernel_rfl
theorem aggN_67 : aggN Try.prog 67 = some (false, 1) := by kernel_rfl
theorem elemOfT_67 : elemOfT Try.prog 67 = some 68 := by kernel_rfl
theorem aggN_68 : aggN Try.prog 68 = some (true, 2) := by kernel_rfl
theorem elemOfT_68 : elemOfT Try.prog 68 = none := by kernel_rfl
theorem arrOfT_68 : arrOfT Try.prog 68 = some (2, 3) := by kernel_rfl
theorem bytesOfT_68 : bytesOfT Try.prog 68 = some 16 := by kernel_rfl
theorem aggN_72 : aggN Try.prog 72 = some (false, 1) := by kernel_rfl
theorem elemOfT_72 : elemOfT Try.prog 72 = some 4 := by kernel_rfl
theorem aggN_81 : aggN Try.prog 81 = some (false, 1) := by kernel_rfl
theorem aggN_94 : aggN Try.prog 94 = some (false, 1) := by kernel_rfl
theorem aggN_96 : aggN Try.prog 96 = some (true, 4) := by kernel_rfl
theorem fieldOf_96_0 : fieldOf Try.prog 96 0 = some (0, 26) := by kernel_rfl
theorem fieldOf_96_1 : fieldOf Try.prog 96 1 = some (1, 49) := by kernel_rfl
theorem fieldOf_96_2 : fieldOf Try.prog 96 2 = some (2, 94) := by kernel_rfl
theorem fieldOf_96_3 : fieldOf Try.prog 96 3 = some (3, 67) := by kernel_rfl
theorem aggN_97 : aggN Try.prog 97 = some (false, 1) := by kernel_rfl
theorem aggN_100 : aggN Try.prog 100 = some (false, 1) := by kernel_rfl
end Go.Proofs.Ytnmljicimdhpmaa.AL

