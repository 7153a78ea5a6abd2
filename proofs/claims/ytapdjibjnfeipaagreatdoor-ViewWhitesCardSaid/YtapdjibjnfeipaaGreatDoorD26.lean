/- A law of the given program is proved: part 26 of 51. -/
import Derived.Test.YtapdjibjnfeipaaGreatDoorChecked
import Derived.Test.YtapdjibjnfeipaaGreatDoorD25
set_option linter.all false
/- AL: closed facts on the types and functions of this seat's translation, printed by facts.py. -/
namespace Go.Proofs.YtapdjibjnfeipaaGreatDoor.AL
open Go Go.Proofs
set_option maxRecDepth 100000
theorem aggN_1 : aggN Tryz.prog 1 = some (false, 1) := by kernel_rfl
theorem aggN_2 : aggN Tryz.prog 2 = some (false, 1) := by kernel_rfl
theorem aggN_3 : aggN Tryz.prog 3 = some (false, 1) := by kernel_rfl
theorem aggN_9 : aggN Tryz.prog 9 = some (false, 1) := by kernel_rfl
theorem xgy : kindOf Tryz.prog 9 = .str := by kernel_rfl
theorem x9t : x7c Tryz.prog 9 = some 16 := by kernel_rfl
theorem x3q : xt Tryz.prog 23 0 = some (0, 3) := by kernel_rfl
theorem xax : xt Tryz.prog 23 1 = some (1, 3) := by kernel_rfl
theorem xty : xt Tryz.prog 23 2 = some (2, 3) := by kernel_rfl
theorem xsx : xt Tryz.prog 23 3 = some (3, 3) := by kernel_rfl
theorem xzr : aggN Tryz.prog 24 = some (false, 1) := by kernel_rfl
theorem x2d : xp Tryz.prog 24 = some 68 := by kernel_rfl
theorem x3h : aggN Tryz.prog 26 = some (true, 1) := by kernel_rfl
theorem xdj : xt Tryz.prog 26 0 = some (0, 24) := by kernel_rfl
theorem x4z : aggN Tryz.prog 27 = some (false, 1) := by kernel_rfl
theorem xbp : xp Tryz.prog 27 = some 26 := by kernel_rfl
theorem xfo : aggN Tryz.prog 29 = some (true, 6) := by kernel_rfl
theorem xxm : xt Tryz.prog 29 0 = some (0, 23) := by kernel_rfl
theorem x4m : xt Tryz.prog 29 1 = some (4, 26) := by kernel_rfl
theorem xer : xt Tryz.prog 29 2 = some (5, 27) := by kernel_rfl
theorem x2r : aggN Tryz.prog 30 = some (false, 1) := by kernel_rfl
theorem xbh : xp Tryz.prog 30 = some 45 := by kernel_rfl
theorem xvi : aggN Tryz.prog 32 = some (true, 2) := by kernel_rfl
theorem xgr : xt Tryz.prog 32 0 = some (0, 3) := by kernel_rfl
theorem xqy : xt Tryz.prog 32 1 = some (1, 30) := by kernel_rfl
theorem xrz : x7c Tryz.prog 32 = some 32 := by kernel_rfl
theorem x9c : xp Tryz.prog 42 = some 9 := by kernel_rfl
theorem x4h : aggN Tryz.prog 45 = some (true, 2) := by kernel_rfl
theorem x8x : xt Tryz.prog 45 0 = some (0, 3) := by kernel_rfl
theorem xny : xt Tryz.prog 45 1 = some (1, 3) := by kernel_rfl
theorem x1s : x7c Tryz.prog 45 = some 16 := by kernel_rfl
theorem x3f : aggN Tryz.prog 55 = some (true, 3) := by kernel_rfl
theorem x1i : xt Tryz.prog 55 0 = some (0, 3) := by kernel_rfl
theorem xbn : xt Tryz.prog 55 1 = some (1, 3) := by kernel_rfl
theorem xum : xt Tryz.prog 55 2 = some (2, 9) := by kernel_rfl
theorem xdz : x7c Tryz.prog 55 = some 32 := by kernel_rfl
theorem x9z : aggN Tryz.prog 61 = some (false, 1) := by kernel_rfl
theorem xr1 : xp Tryz.prog 61 = some 5 := by kernel_rfl
theorem xno : aggN Tryz.prog 62 = some (false, 1) := by kernel_rfl
theorem xre : xp Tryz.prog 62 = some 55 := by kernel_rfl
theorem xyq : xt Tryz.prog 64 0 = some (0, 3) := by kernel_rfl
theorem xoy : xt Tryz.prog 64 1 = some (1, 3) := by kernel_rfl
theorem x7x : xt Tryz.prog 64 2 = some (2, 3) := by kernel_rfl
theorem xdv : aggN Tryz.prog 66 = some (true, 7) := by kernel_rfl
theorem x8m : xt Tryz.prog 66 0 = some (0, 3) := by kernel_rfl
theorem xlr : xt Tryz.prog 66 1 = some (1, 3) := by kernel_rfl
theorem xiq : xt Tryz.prog 66 2 = some (2, 9) := by kernel_rfl
theorem x1y : xt Tryz.prog 66 3 = some (3, 64) := by kernel_rfl
theorem xdx : xt Tryz.prog 66 4 = some (6, 3) := by kernel_rfl
theorem x0e : aggN Tryz.prog 68 = some (true, 13) := by kernel_rfl
theorem x9f : xt Tryz.prog 68 0 = some (0, 3) := by kernel_rfl
theorem xpy : xt Tryz.prog 68 1 = some (1, 3) := by kernel_rfl
theorem x4q : xt Tryz.prog 68 2 = some (2, 3) := by kernel_rfl
theorem xay : xt Tryz.prog 68 3 = some (3, 3) := by kernel_rfl
theorem xbq : xt Tryz.prog 68 4 = some (4, 61) := by kernel_rfl
theorem xhj : xt Tryz.prog 68 5 = some (5, 62) := by kernel_rfl
theorem xwq : xt Tryz.prog 68 6 = some (6, 66) := by kernel_rfl
theorem xcs : x7c Tryz.prog 68 = some 144 := by kernel_rfl
theorem xru : aggN Tryz.prog 73 = some (false, 1) := by kernel_rfl
theorem xtg : xp Tryz.prog 73 = some 79 := by kernel_rfl
theorem x5i : xp Tryz.prog 74 = some 32 := by kernel_rfl
theorem xxi : aggN Tryz.prog 79 = some (true, 3) := by kernel_rfl
theorem xmq : xt Tryz.prog 79 0 = some (0, 3) := by kernel_rfl
theorem x2q : xt Tryz.prog 79 1 = some (1, 3) := by kernel_rfl
theorem xdq : xt Tryz.prog 79 2 = some (2, 9) := by kernel_rfl
theorem xoz : x7c Tryz.prog 79 = some 32 := by kernel_rfl
theorem x7r : aggN Tryz.prog 92 = some (true, 6) := by kernel_rfl
theorem xwx : xt Tryz.prog 92 0 = some (0, 29) := by kernel_rfl
theorem xes : xp Tryz.prog 106 = some 26 := by kernel_rfl
theorem xyn : xp Tryz.prog 111 = some 3 := by kernel_rfl
theorem xvx : aggN Tryz.prog 112 = some (false, 1) := by kernel_rfl
theorem x2s : aggN Tryz.prog 113 = some (false, 1) := by kernel_rfl
theorem xos : xp Tryz.prog 113 = some 144 := by kernel_rfl
theorem xf5 : aggN Tryz.prog 115 = some (true, 4) := by kernel_rfl
theorem xqw : xt Tryz.prog 115 0 = some (0, 26) := by kernel_rfl
theorem xow : xt Tryz.prog 115 1 = some (1, 73) := by kernel_rfl
theorem xnw : xt Tryz.prog 115 2 = some (2, 112) := by kernel_rfl
theorem xvw : xt Tryz.prog 115 3 = some (3, 113) := by kernel_rfl
theorem xqx : aggN Tryz.prog 144 = some (true, 2) := by kernel_rfl
theorem xgx : x7c Tryz.prog 144 = some 16 := by kernel_rfl
end Go.Proofs.YtapdjibjnfeipaaGreatDoor.AL

