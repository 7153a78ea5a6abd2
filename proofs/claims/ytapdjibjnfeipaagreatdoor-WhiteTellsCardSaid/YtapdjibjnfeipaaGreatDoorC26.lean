/- A law of the given program is proved: part 26 of 50. -/
import Derived.Test.YtapdjibjnfeipaaGreatDoorChecked
import Derived.Test.YtapdjibjnfeipaaGreatDoorC25
set_option linter.all false
/- AL: closed facts on the types and functions of this seat's translation, printed by facts.py. -/
namespace Go.Proofs.YtapdjibjnfeipaaGreatDoor.AL
open Go Go.Proofs
set_option maxRecDepth 100000
theorem aggN_1 : aggN Tryz.prog 1 = some (false, 1) := by kernel_rfl
theorem aggN_2 : aggN Tryz.prog 2 = some (false, 1) := by kernel_rfl
theorem aggN_3 : aggN Tryz.prog 3 = some (false, 1) := by kernel_rfl
theorem bytesOfT_3 : bytesOfT Tryz.prog 3 = some 8 := by kernel_rfl
theorem aggN_4 : aggN Tryz.prog 4 = some (false, 1) := by kernel_rfl
theorem kindOf_4 : kindOf Tryz.prog 4 = .bool := by kernel_rfl
theorem aggN_5 : aggN Tryz.prog 5 = some (false, 1) := by kernel_rfl
theorem bytesOfT_5 : bytesOfT Tryz.prog 5 = some 1 := by kernel_rfl
theorem aggN_9 : aggN Tryz.prog 9 = some (false, 1) := by kernel_rfl
theorem kindOf_9 : kindOf Tryz.prog 9 = .str := by kernel_rfl
theorem bytesOfT_9 : bytesOfT Tryz.prog 9 = some 16 := by kernel_rfl
theorem aggN_21 : aggN Tryz.prog 21 = some (false, 1) := by kernel_rfl
theorem aggN_23 : aggN Tryz.prog 23 = some (true, 4) := by kernel_rfl
theorem fieldOf_23_0 : fieldOf Tryz.prog 23 0 = some (0, 3) := by kernel_rfl
theorem fieldOf_23_1 : fieldOf Tryz.prog 23 1 = some (1, 3) := by kernel_rfl
theorem fieldOf_23_2 : fieldOf Tryz.prog 23 2 = some (2, 3) := by kernel_rfl
theorem fieldOf_23_3 : fieldOf Tryz.prog 23 3 = some (3, 3) := by kernel_rfl
theorem aggN_24 : aggN Tryz.prog 24 = some (false, 1) := by kernel_rfl
theorem elemOfT_24 : elemOfT Tryz.prog 24 = some 68 := by kernel_rfl
theorem aggN_26 : aggN Tryz.prog 26 = some (true, 1) := by kernel_rfl
theorem fieldOf_26_0 : fieldOf Tryz.prog 26 0 = some (0, 24) := by kernel_rfl
theorem bytesOfT_26 : bytesOfT Tryz.prog 26 = some 24 := by kernel_rfl
theorem aggN_27 : aggN Tryz.prog 27 = some (false, 1) := by kernel_rfl
theorem elemOfT_27 : elemOfT Tryz.prog 27 = some 26 := by kernel_rfl
theorem aggN_29 : aggN Tryz.prog 29 = some (true, 6) := by kernel_rfl
theorem fieldOf_29_0 : fieldOf Tryz.prog 29 0 = some (0, 23) := by kernel_rfl
theorem fieldOf_29_1 : fieldOf Tryz.prog 29 1 = some (4, 26) := by kernel_rfl
theorem fieldOf_29_2 : fieldOf Tryz.prog 29 2 = some (5, 27) := by kernel_rfl
theorem aggN_30 : aggN Tryz.prog 30 = some (false, 1) := by kernel_rfl
theorem elemOfT_30 : elemOfT Tryz.prog 30 = some 45 := by kernel_rfl
theorem aggN_32 : aggN Tryz.prog 32 = some (true, 2) := by kernel_rfl
theorem fieldOf_32_0 : fieldOf Tryz.prog 32 0 = some (0, 3) := by kernel_rfl
theorem fieldOf_32_1 : fieldOf Tryz.prog 32 1 = some (1, 30) := by kernel_rfl
theorem bytesOfT_32 : bytesOfT Tryz.prog 32 = some 32 := by kernel_rfl
theorem aggN_36 : aggN Tryz.prog 36 = some (false, 1) := by kernel_rfl
theorem elemOfT_36 : elemOfT Tryz.prog 36 = some 38 := by kernel_rfl
theorem aggN_38 : aggN Tryz.prog 38 = some (true, 4) := by kernel_rfl
theorem fieldOf_38_0 : fieldOf Tryz.prog 38 0 = some (0, 3) := by kernel_rfl
theorem fieldOf_38_1 : fieldOf Tryz.prog 38 1 = some (1, 3) := by kernel_rfl
theorem fieldOf_38_2 : fieldOf Tryz.prog 38 2 = some (2, 3) := by kernel_rfl
theorem fieldOf_38_3 : fieldOf Tryz.prog 38 3 = some (3, 3) := by kernel_rfl
theorem bytesOfT_38 : bytesOfT Tryz.prog 38 = some 32 := by kernel_rfl
theorem aggN_42 : aggN Tryz.prog 42 = some (false, 1) := by kernel_rfl
theorem elemOfT_42 : elemOfT Tryz.prog 42 = some 9 := by kernel_rfl
theorem aggN_45 : aggN Tryz.prog 45 = some (true, 2) := by kernel_rfl
theorem fieldOf_45_0 : fieldOf Tryz.prog 45 0 = some (0, 3) := by kernel_rfl
theorem fieldOf_45_1 : fieldOf Tryz.prog 45 1 = some (1, 3) := by kernel_rfl
theorem bytesOfT_45 : bytesOfT Tryz.prog 45 = some 16 := by kernel_rfl
theorem aggN_55 : aggN Tryz.prog 55 = some (true, 3) := by kernel_rfl
theorem fieldOf_55_0 : fieldOf Tryz.prog 55 0 = some (0, 3) := by kernel_rfl
theorem fieldOf_55_1 : fieldOf Tryz.prog 55 1 = some (1, 3) := by kernel_rfl
theorem fieldOf_55_2 : fieldOf Tryz.prog 55 2 = some (2, 9) := by kernel_rfl
theorem bytesOfT_55 : bytesOfT Tryz.prog 55 = some 32 := by kernel_rfl
theorem aggN_61 : aggN Tryz.prog 61 = some (false, 1) := by kernel_rfl
theorem elemOfT_61 : elemOfT Tryz.prog 61 = some 5 := by kernel_rfl
theorem aggN_62 : aggN Tryz.prog 62 = some (false, 1) := by kernel_rfl
theorem elemOfT_62 : elemOfT Tryz.prog 62 = some 55 := by kernel_rfl
theorem aggN_64 : aggN Tryz.prog 64 = some (true, 3) := by kernel_rfl
theorem fieldOf_64_0 : fieldOf Tryz.prog 64 0 = some (0, 3) := by kernel_rfl
theorem fieldOf_64_1 : fieldOf Tryz.prog 64 1 = some (1, 3) := by kernel_rfl
theorem fieldOf_64_2 : fieldOf Tryz.prog 64 2 = some (2, 3) := by kernel_rfl
theorem aggN_66 : aggN Tryz.prog 66 = some (true, 7) := by kernel_rfl
theorem fieldOf_66_0 : fieldOf Tryz.prog 66 0 = some (0, 3) := by kernel_rfl
theorem fieldOf_66_1 : fieldOf Tryz.prog 66 1 = some (1, 3) := by kernel_rfl
theorem fieldOf_66_2 : fieldOf Tryz.prog 66 2 = some (2, 9) := by kernel_rfl
theorem fieldOf_66_3 : fieldOf Tryz.prog 66 3 = some (3, 64) := by kernel_rfl
theorem fieldOf_66_4 : fieldOf Tryz.prog 66 4 = some (6, 3) := by kernel_rfl
theorem aggN_68 : aggN Tryz.prog 68 = some (true, 13) := by kernel_rfl
theorem fieldOf_68_0 : fieldOf Tryz.prog 68 0 = some (0, 3) := by kernel_rfl
theorem fieldOf_68_1 : fieldOf Tryz.prog 68 1 = some (1, 3) := by kernel_rfl
theorem fieldOf_68_2 : fieldOf Tryz.prog 68 2 = some (2, 3) := by kernel_rfl
theorem fieldOf_68_3 : fieldOf Tryz.prog 68 3 = some (3, 3) := by kernel_rfl
theorem fieldOf_68_4 : fieldOf Tryz.prog 68 4 = some (4, 61) := by kernel_rfl
theorem fieldOf_68_5 : fieldOf Tryz.prog 68 5 = some (5, 62) := by kernel_rfl
theorem fieldOf_68_6 : fieldOf Tryz.prog 68 6 = some (6, 66) := by kernel_rfl
theorem bytesOfT_68 : bytesOfT Tryz.prog 68 = some 144 := by kernel_rfl
theorem aggN_71 : aggN Tryz.prog 71 = some (false, 1) := by kernel_rfl
theorem aggN_73 : aggN Tryz.prog 73 = some (false, 1) := by kernel_rfl
theorem elemOfT_73 : elemOfT Tryz.prog 73 = some 79 := by kernel_rfl
theorem aggN_74 : aggN Tryz.prog 74 = some (false, 1) := by kernel_rfl
theorem elemOfT_74 : elemOfT Tryz.prog 74 = some 32 := by kernel_rfl
theorem aggN_79 : aggN Tryz.prog 79 = some (true, 3) := by kernel_rfl
theorem fieldOf_79_0 : fieldOf Tryz.prog 79 0 = some (0, 3) := by kernel_rfl
theorem fieldOf_79_1 : fieldOf Tryz.prog 79 1 = some (1, 3) := by kernel_rfl
theorem fieldOf_79_2 : fieldOf Tryz.prog 79 2 = some (2, 9) := by kernel_rfl
theorem bytesOfT_79 : bytesOfT Tryz.prog 79 = some 32 := by kernel_rfl
theorem aggN_82 : aggN Tryz.prog 82 = some (false, 1) := by kernel_rfl
theorem aggN_86 : aggN Tryz.prog 86 = some (false, 1) := by kernel_rfl
theorem aggN_92 : aggN Tryz.prog 92 = some (true, 6) := by kernel_rfl
theorem fieldOf_92_0 : fieldOf Tryz.prog 92 0 = some (0, 29) := by kernel_rfl
theorem aggN_104 : aggN Tryz.prog 104 = some (false, 1) := by kernel_rfl
theorem aggN_106 : aggN Tryz.prog 106 = some (false, 1) := by kernel_rfl
theorem elemOfT_106 : elemOfT Tryz.prog 106 = some 26 := by kernel_rfl
theorem aggN_111 : aggN Tryz.prog 111 = some (false, 1) := by kernel_rfl
theorem elemOfT_111 : elemOfT Tryz.prog 111 = some 3 := by kernel_rfl
theorem aggN_112 : aggN Tryz.prog 112 = some (false, 1) := by kernel_rfl
theorem aggN_113 : aggN Tryz.prog 113 = some (false, 1) := by kernel_rfl
theorem elemOfT_113 : elemOfT Tryz.prog 113 = some 144 := by kernel_rfl
theorem aggN_115 : aggN Tryz.prog 115 = some (true, 4) := by kernel_rfl
theorem fieldOf_115_0 : fieldOf Tryz.prog 115 0 = some (0, 26) := by kernel_rfl
theorem fieldOf_115_1 : fieldOf Tryz.prog 115 1 = some (1, 73) := by kernel_rfl
theorem fieldOf_115_2 : fieldOf Tryz.prog 115 2 = some (2, 112) := by kernel_rfl
theorem fieldOf_115_3 : fieldOf Tryz.prog 115 3 = some (3, 113) := by kernel_rfl
theorem aggN_116 : aggN Tryz.prog 116 = some (false, 1) := by kernel_rfl
theorem aggN_144 : aggN Tryz.prog 144 = some (true, 2) := by kernel_rfl
theorem elemOfT_144 : elemOfT Tryz.prog 144 = none := by kernel_rfl
theorem arrOfT_144 : arrOfT Tryz.prog 144 = some (2, 3) := by kernel_rfl
theorem bytesOfT_144 : bytesOfT Tryz.prog 144 = some 16 := by kernel_rfl
theorem aggN_159 : aggN Tryz.prog 159 = some (false, 1) := by kernel_rfl
end Go.Proofs.YtapdjibjnfeipaaGreatDoor.AL

