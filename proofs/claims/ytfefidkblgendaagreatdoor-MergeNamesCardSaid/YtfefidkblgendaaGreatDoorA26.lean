/- What any node of any stack should say of copies, and which say otherwise, is what the document says: part 26 of 51. -/
import Derived.Test.YtfefidkblgendaaGreatDoorChecked
import Derived.Test.YtfefidkblgendaaGreatDoorA25
set_option linter.all false
/- AL: closed facts on the types and functions of this seat's translation, printed by facts.py. -/
namespace Go.Proofs.YtfefidkblgendaaGreatDoor.AL
open Go Go.Proofs
set_option maxRecDepth 100000
theorem aggN_1 : aggN Tryz.prog 1 = some (false, 1) := by kernel_rfl
theorem aggN_2 : aggN Tryz.prog 2 = some (false, 1) := by kernel_rfl
theorem aggN_3 : aggN Tryz.prog 3 = some (false, 1) := by kernel_rfl
theorem x6bb : kindOf Tryz.prog 4 = .bool := by kernel_rfl
theorem aggN_5 : aggN Tryz.prog 5 = some (false, 1) := by kernel_rfl
theorem x3g : xbg Tryz.prog 5 = some 1 := by kernel_rfl
theorem aggN_9 : aggN Tryz.prog 9 = some (false, 1) := by kernel_rfl
theorem xk5 : kindOf Tryz.prog 9 = .str := by kernel_rfl
theorem xlz : xbg Tryz.prog 9 = some 16 := by kernel_rfl
theorem xqv : xx Tryz.prog 23 0 = some (0, 3) := by kernel_rfl
theorem xr5 : xx Tryz.prog 23 1 = some (1, 3) := by kernel_rfl
theorem xi4 : xx Tryz.prog 23 2 = some (2, 3) := by kernel_rfl
theorem xg5 : xx Tryz.prog 23 3 = some (3, 3) := by kernel_rfl
theorem xn0 : aggN Tryz.prog 24 = some (false, 1) := by kernel_rfl
theorem x1r : xy Tryz.prog 24 = some 71 := by kernel_rfl
theorem x0o : aggN Tryz.prog 26 = some (true, 1) := by kernel_rfl
theorem xjl : xx Tryz.prog 26 0 = some (0, 24) := by kernel_rfl
theorem xe7 : aggN Tryz.prog 27 = some (false, 1) := by kernel_rfl
theorem xcs : xy Tryz.prog 27 = some 26 := by kernel_rfl
theorem xcr : aggN Tryz.prog 29 = some (true, 6) := by kernel_rfl
theorem xki : xx Tryz.prog 29 0 = some (0, 23) := by kernel_rfl
theorem x9u : xx Tryz.prog 29 1 = some (4, 26) := by kernel_rfl
theorem xgv : xx Tryz.prog 29 2 = some (5, 27) := by kernel_rfl
theorem xdw : aggN Tryz.prog 30 = some (false, 1) := by kernel_rfl
theorem x9d : xy Tryz.prog 30 = some 5 := by kernel_rfl
theorem xc0 : aggN Tryz.prog 31 = some (false, 1) := by kernel_rfl
theorem xsc : xy Tryz.prog 31 = some 9 := by kernel_rfl
theorem xbw : aggN Tryz.prog 33 = some (true, 3) := by kernel_rfl
theorem xri : xx Tryz.prog 33 0 = some (0, 3) := by kernel_rfl
theorem x6u : xx Tryz.prog 33 1 = some (1, 30) := by kernel_rfl
theorem x0u : xx Tryz.prog 33 2 = some (2, 31) := by kernel_rfl
theorem x3v : aggN Tryz.prog 40 = some (false, 1) := by kernel_rfl
theorem x3i : xy Tryz.prog 40 = some 44 := by kernel_rfl
theorem xir : aggN Tryz.prog 42 = some (true, 2) := by kernel_rfl
theorem xa5 : xx Tryz.prog 42 0 = some (0, 3) := by kernel_rfl
theorem xt4 : xx Tryz.prog 42 1 = some (1, 40) := by kernel_rfl
theorem x9i : aggN Tryz.prog 44 = some (true, 2) := by kernel_rfl
theorem xkl : xx Tryz.prog 44 0 = some (0, 3) := by kernel_rfl
theorem xwt : xx Tryz.prog 44 1 = some (1, 3) := by kernel_rfl
theorem xrw : xbg Tryz.prog 44 = some 16 := by kernel_rfl
theorem xe1 : aggN Tryz.prog 61 = some (true, 5) := by kernel_rfl
theorem xq4 : xx Tryz.prog 61 0 = some (0, 42) := by kernel_rfl
theorem xi5 : xx Tryz.prog 61 1 = some (2, 44) := by kernel_rfl
theorem x83 : xx Tryz.prog 61 2 = some (4, 3) := by kernel_rfl
theorem xc7 : aggN Tryz.prog 65 = some (false, 1) := by kernel_rfl
theorem xfo : xy Tryz.prog 65 = some 76 := by kernel_rfl
theorem xd1 : aggN Tryz.prog 67 = some (true, 3) := by kernel_rfl
theorem xaq : xx Tryz.prog 67 0 = some (0, 3) := by kernel_rfl
theorem xvt : xx Tryz.prog 67 1 = some (1, 3) := by kernel_rfl
theorem xzv : xx Tryz.prog 67 2 = some (2, 3) := by kernel_rfl
theorem xp0 : aggN Tryz.prog 69 = some (true, 7) := by kernel_rfl
theorem xgp : xx Tryz.prog 69 0 = some (0, 3) := by kernel_rfl
theorem xut : xx Tryz.prog 69 1 = some (1, 3) := by kernel_rfl
theorem xuv : xx Tryz.prog 69 2 = some (2, 9) := by kernel_rfl
theorem xfu : xx Tryz.prog 69 3 = some (3, 67) := by kernel_rfl
theorem xw3 : xx Tryz.prog 69 4 = some (6, 3) := by kernel_rfl
theorem xno : aggN Tryz.prog 71 = some (true, 13) := by kernel_rfl
theorem xzl : xx Tryz.prog 71 0 = some (0, 3) := by kernel_rfl
theorem xz5 : xx Tryz.prog 71 1 = some (1, 3) := by kernel_rfl
theorem xnv : xx Tryz.prog 71 2 = some (2, 3) := by kernel_rfl
theorem xdv : xx Tryz.prog 71 3 = some (3, 3) := by kernel_rfl
theorem xxu : xx Tryz.prog 71 4 = some (4, 30) := by kernel_rfl
theorem xuu : xx Tryz.prog 71 5 = some (5, 65) := by kernel_rfl
theorem xmu : xx Tryz.prog 71 6 = some (6, 69) := by kernel_rfl
theorem x0v : aggN Tryz.prog 73 = some (true, 6) := by kernel_rfl
theorem xc4 : xx Tryz.prog 73 0 = some (0, 29) := by kernel_rfl
theorem xam : aggN Tryz.prog 76 = some (true, 3) := by kernel_rfl
theorem xnl : xx Tryz.prog 76 0 = some (0, 3) := by kernel_rfl
theorem xtp : xx Tryz.prog 76 1 = some (1, 3) := by kernel_rfl
theorem xbp : xx Tryz.prog 76 2 = some (2, 9) := by kernel_rfl
theorem xpy : xy Tryz.prog 98 = some 26 := by kernel_rfl
end Go.Proofs.YtfefidkblgendaaGreatDoor.AL

