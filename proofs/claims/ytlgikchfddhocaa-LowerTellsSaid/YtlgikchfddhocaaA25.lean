/- What any node of any stack should say of copies, and which say otherwise, is what the document says: part 25 of 45. -/
import Derived.Test.YtlgikchfddhocaaChecked
import Derived.Test.YtlgikchfddhocaaA24
set_option linter.all false
/- AL: closed facts on the types and functions of this seat's translation, printed by facts.py. -/
namespace Go.Proofs.Ytlgikchfddhocaa.AL
open Go Go.Proofs
set_option maxRecDepth 100000
theorem aggN_1 : aggN Try.prog 1 = some (false, 1) := by kernel_rfl
theorem aggN_2 : aggN Try.prog 2 = some (false, 1) := by kernel_rfl
theorem aggN_3 : aggN Try.prog 3 = some (false, 1) := by kernel_rfl
theorem aggN_4 : aggN Try.prog 4 = some (false, 1) := by kernel_rfl
theorem kindOf_4 : kindOf Try.prog 4 = .bool := by kernel_rfl
theorem aggN_5 : aggN Try.prog 5 = some (false, 1) := by kernel_rfl
theorem bytesOfT_5 : bytesOfT Try.prog 5 = some 1 := by kernel_rfl
theorem aggN_9 : aggN Try.prog 9 = some (false, 1) := by kernel_rfl
theorem kindOf_9 : kindOf Try.prog 9 = .str := by kernel_rfl
theorem bytesOfT_9 : bytesOfT Try.prog 9 = some 16 := by kernel_rfl
theorem aggN_23 : aggN Try.prog 23 = some (false, 1) := by kernel_rfl
theorem aggN_25 : aggN Try.prog 25 = some (false, 1) := by kernel_rfl
theorem elemOfT_25 : elemOfT Try.prog 25 = some 5 := by kernel_rfl
theorem aggN_30 : aggN Try.prog 30 = some (false, 1) := by kernel_rfl
theorem elemOfT_30 : elemOfT Try.prog 30 = some 9 := by kernel_rfl
theorem aggN_35 : aggN Try.prog 35 = some (true, 4) := by kernel_rfl
theorem fieldOf_35_0 : fieldOf Try.prog 35 0 = some (0, 3) := by kernel_rfl
theorem fieldOf_35_1 : fieldOf Try.prog 35 1 = some (1, 3) := by kernel_rfl
theorem fieldOf_35_2 : fieldOf Try.prog 35 2 = some (2, 3) := by kernel_rfl
theorem fieldOf_35_3 : fieldOf Try.prog 35 3 = some (3, 3) := by kernel_rfl
theorem aggN_36 : aggN Try.prog 36 = some (false, 1) := by kernel_rfl
theorem elemOfT_36 : elemOfT Try.prog 36 = some 73 := by kernel_rfl
theorem aggN_38 : aggN Try.prog 38 = some (true, 1) := by kernel_rfl
theorem fieldOf_38_0 : fieldOf Try.prog 38 0 = some (0, 36) := by kernel_rfl
theorem bytesOfT_38 : bytesOfT Try.prog 38 = some 24 := by kernel_rfl
theorem aggN_39 : aggN Try.prog 39 = some (false, 1) := by kernel_rfl
theorem elemOfT_39 : elemOfT Try.prog 39 = some 38 := by kernel_rfl
theorem aggN_41 : aggN Try.prog 41 = some (true, 6) := by kernel_rfl
theorem fieldOf_41_0 : fieldOf Try.prog 41 0 = some (0, 35) := by kernel_rfl
theorem fieldOf_41_1 : fieldOf Try.prog 41 1 = some (4, 38) := by kernel_rfl
theorem fieldOf_41_2 : fieldOf Try.prog 41 2 = some (5, 39) := by kernel_rfl
theorem aggN_42 : aggN Try.prog 42 = some (false, 1) := by kernel_rfl
theorem elemOfT_42 : elemOfT Try.prog 42 = some 48 := by kernel_rfl
theorem aggN_48 : aggN Try.prog 48 = some (true, 2) := by kernel_rfl
theorem fieldOf_48_0 : fieldOf Try.prog 48 0 = some (0, 3) := by kernel_rfl
theorem fieldOf_48_1 : fieldOf Try.prog 48 1 = some (1, 3) := by kernel_rfl
theorem bytesOfT_48 : bytesOfT Try.prog 48 = some 16 := by kernel_rfl
theorem aggN_64 : aggN Try.prog 64 = some (false, 1) := by kernel_rfl
theorem aggN_66 : aggN Try.prog 66 = some (false, 1) := by kernel_rfl
theorem elemOfT_66 : elemOfT Try.prog 66 = some 38 := by kernel_rfl
theorem aggN_67 : aggN Try.prog 67 = some (false, 1) := by kernel_rfl
theorem elemOfT_67 : elemOfT Try.prog 67 = some 83 := by kernel_rfl
theorem aggN_69 : aggN Try.prog 69 = some (true, 3) := by kernel_rfl
theorem fieldOf_69_0 : fieldOf Try.prog 69 0 = some (0, 3) := by kernel_rfl
theorem fieldOf_69_1 : fieldOf Try.prog 69 1 = some (1, 3) := by kernel_rfl
theorem fieldOf_69_2 : fieldOf Try.prog 69 2 = some (2, 3) := by kernel_rfl
theorem aggN_71 : aggN Try.prog 71 = some (true, 7) := by kernel_rfl
theorem fieldOf_71_0 : fieldOf Try.prog 71 0 = some (0, 3) := by kernel_rfl
theorem fieldOf_71_1 : fieldOf Try.prog 71 1 = some (1, 3) := by kernel_rfl
theorem fieldOf_71_2 : fieldOf Try.prog 71 2 = some (2, 9) := by kernel_rfl
theorem fieldOf_71_3 : fieldOf Try.prog 71 3 = some (3, 69) := by kernel_rfl
theorem fieldOf_71_4 : fieldOf Try.prog 71 4 = some (6, 3) := by kernel_rfl
theorem aggN_73 : aggN Try.prog 73 = some (true, 13) := by kernel_rfl
theorem fieldOf_73_0 : fieldOf Try.prog 73 0 = some (0, 3) := by kernel_rfl
theorem fieldOf_73_1 : fieldOf Try.prog 73 1 = some (1, 3) := by kernel_rfl
theorem fieldOf_73_2 : fieldOf Try.prog 73 2 = some (2, 3) := by kernel_rfl
theorem fieldOf_73_3 : fieldOf Try.prog 73 3 = some (3, 3) := by kernel_rfl
theorem fieldOf_73_4 : fieldOf Try.prog 73 4 = some (4, 25) := by kernel_rfl
theorem fieldOf_73_5 : fieldOf Try.prog 73 5 = some (5, 67) := by kernel_rfl
theorem fieldOf_73_6 : fieldOf Try.prog 73 6 = some (6, 71) := by kernel_rfl
theorem bytesOfT_73 : bytesOfT Try.prog 73 = some 144 := by kernel_rfl
theorem aggN_76 : aggN Try.prog 76 = some (false, 1) := by kernel_rfl
theorem aggN_83 : aggN Try.prog 83 = some (true, 3) := by kernel_rfl
theorem fieldOf_83_0 : fieldOf Try.prog 83 0 = some (0, 3) := by kernel_rfl
theorem fieldOf_83_1 : fieldOf Try.prog 83 1 = some (1, 3) := by kernel_rfl
theorem fieldOf_83_2 : fieldOf Try.prog 83 2 = some (2, 9) := by kernel_rfl
theorem bytesOfT_83 : bytesOfT Try.prog 83 = some 32 := by kernel_rfl
theorem aggN_110 : aggN Try.prog 110 = some (false, 1) := by kernel_rfl
end Go.Proofs.Ytlgikchfddhocaa.AL

