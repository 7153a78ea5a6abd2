/- What any node of any stack should say of copies, and which say otherwise, is what the document says: part 26 of 52. -/
import Derived.Test.YtapdjibjnfeipaaGreatDoorChecked
import Derived.Test.YtapdjibjnfeipaaGreatDoorA25
set_option linter.all false
/- AL: closed facts on the types and functions of this seat's translation, printed by facts.py. -/
namespace Go.Proofs.YtapdjibjnfeipaaGreatDoor.AL
open Go Go.Proofs
set_option maxRecDepth 100000
theorem aggN_1 : aggN Tryz.prog 1 = some (false, 1) := by kernel_rfl
theorem aggN_2 : aggN Tryz.prog 2 = some (false, 1) := by kernel_rfl
theorem aggN_3 : aggN Tryz.prog 3 = some (false, 1) := by kernel_rfl
theorem x6ab : kindOf Tryz.prog 4 = .bool := by kernel_rfl
theorem aggN_9 : aggN Tryz.prog 9 = some (false, 1) := by kernel_rfl
theorem xx2 : kindOf Tryz.prog 9 = .str := by kernel_rfl
theorem xgx : x8d Tryz.prog 9 = some 16 := by kernel_rfl
theorem x1t : xy Tryz.prog 23 0 = some (0, 3) := by kernel_rfl
theorem xs3 : xy Tryz.prog 23 1 = some (1, 3) := by kernel_rfl
theorem xl3 : xy Tryz.prog 23 2 = some (2, 3) := by kernel_rfl
theorem xv2 : xy Tryz.prog 23 3 = some (3, 3) := by kernel_rfl
theorem x3y : aggN Tryz.prog 24 = some (false, 1) := by kernel_rfl
theorem xcs : xv Tryz.prog 24 = some 68 := by kernel_rfl
theorem xnm : aggN Tryz.prog 26 = some (true, 1) := by kernel_rfl
theorem xol : xy Tryz.prog 26 0 = some (0, 24) := by kernel_rfl
theorem xn5 : aggN Tryz.prog 27 = some (false, 1) := by kernel_rfl
theorem x3r : xv Tryz.prog 27 = some 26 := by kernel_rfl
theorem xmq : aggN Tryz.prog 29 = some (true, 6) := by kernel_rfl
theorem xhl : xy Tryz.prog 29 0 = some (0, 23) := by kernel_rfl
theorem xav : xy Tryz.prog 29 1 = some (4, 26) := by kernel_rfl
theorem x9u : xy Tryz.prog 29 2 = some (5, 27) := by kernel_rfl
theorem xcv : aggN Tryz.prog 30 = some (false, 1) := by kernel_rfl
theorem xfj : xv Tryz.prog 30 = some 45 := by kernel_rfl
theorem xbk : aggN Tryz.prog 32 = some (true, 2) := by kernel_rfl
theorem xfi : xy Tryz.prog 32 0 = some (0, 3) := by kernel_rfl
theorem xbv : xy Tryz.prog 32 1 = some (1, 30) := by kernel_rfl
theorem xw4 : x8d Tryz.prog 32 = some 32 := by kernel_rfl
theorem x0d : xv Tryz.prog 42 = some 9 := by kernel_rfl
theorem xtk : aggN Tryz.prog 45 = some (true, 2) := by kernel_rfl
theorem xvo : xy Tryz.prog 45 0 = some (0, 3) := by kernel_rfl
theorem xau : xy Tryz.prog 45 1 = some (1, 3) := by kernel_rfl
theorem x9v : x8d Tryz.prog 45 = some 16 := by kernel_rfl
theorem xui : aggN Tryz.prog 55 = some (true, 3) := by kernel_rfl
theorem xll : xy Tryz.prog 55 0 = some (0, 3) := by kernel_rfl
theorem xpp : xy Tryz.prog 55 1 = some (1, 3) := by kernel_rfl
theorem x0o : xy Tryz.prog 55 2 = some (2, 9) := by kernel_rfl
theorem xy4 : x8d Tryz.prog 55 = some 32 := by kernel_rfl
theorem xk5 : aggN Tryz.prog 61 = some (false, 1) := by kernel_rfl
theorem xt6 : xv Tryz.prog 61 = some 5 := by kernel_rfl
theorem xjv : aggN Tryz.prog 62 = some (false, 1) := by kernel_rfl
theorem x5g : xv Tryz.prog 62 = some 55 := by kernel_rfl
theorem xpu : xy Tryz.prog 64 0 = some (0, 3) := by kernel_rfl
theorem xq3 : xy Tryz.prog 64 1 = some (1, 3) := by kernel_rfl
theorem xz2 : xy Tryz.prog 64 2 = some (2, 3) := by kernel_rfl
theorem x8y : aggN Tryz.prog 66 = some (true, 7) := by kernel_rfl
theorem xso : xy Tryz.prog 66 0 = some (0, 3) := by kernel_rfl
theorem x3t : xy Tryz.prog 66 1 = some (1, 3) := by kernel_rfl
theorem x1u : xy Tryz.prog 66 2 = some (2, 9) := by kernel_rfl
theorem xp3 : xy Tryz.prog 66 3 = some (3, 64) := by kernel_rfl
theorem xd2 : xy Tryz.prog 66 4 = some (6, 3) := by kernel_rfl
theorem xfo : aggN Tryz.prog 68 = some (true, 13) := by kernel_rfl
theorem x1h : xy Tryz.prog 68 0 = some (0, 3) := by kernel_rfl
theorem xp2 : xy Tryz.prog 68 1 = some (1, 3) := by kernel_rfl
theorem xbu : xy Tryz.prog 68 2 = some (2, 3) := by kernel_rfl
theorem xm3 : xy Tryz.prog 68 3 = some (3, 3) := by kernel_rfl
theorem xjt : xy Tryz.prog 68 4 = some (4, 61) := by kernel_rfl
theorem x7k : xy Tryz.prog 68 5 = some (5, 62) := by kernel_rfl
theorem x9t : xy Tryz.prog 68 6 = some (6, 66) := by kernel_rfl
theorem xjz : aggN Tryz.prog 73 = some (false, 1) := by kernel_rfl
theorem x6i : xv Tryz.prog 73 = some 79 := by kernel_rfl
theorem xal : xv Tryz.prog 74 = some 32 := by kernel_rfl
theorem xlk : aggN Tryz.prog 79 = some (true, 3) := by kernel_rfl
theorem xct : xy Tryz.prog 79 0 = some (0, 3) := by kernel_rfl
theorem xot : xy Tryz.prog 79 1 = some (1, 3) := by kernel_rfl
theorem xeu : xy Tryz.prog 79 2 = some (2, 9) := by kernel_rfl
theorem xp4 : x8d Tryz.prog 79 = some 32 := by kernel_rfl
theorem xhv : aggN Tryz.prog 92 = some (true, 6) := by kernel_rfl
theorem x83 : xy Tryz.prog 92 0 = some (0, 29) := by kernel_rfl
theorem x2v : xv Tryz.prog 106 = some 26 := by kernel_rfl
theorem x9p : xv Tryz.prog 111 = some 3 := by kernel_rfl
theorem xb2 : aggN Tryz.prog 112 = some (false, 1) := by kernel_rfl
theorem x2w : aggN Tryz.prog 113 = some (false, 1) := by kernel_rfl
theorem x8v : xv Tryz.prog 113 = some 144 := by kernel_rfl
theorem xibb : aggN Tryz.prog 115 = some (true, 4) := by kernel_rfl
theorem xc1 : xy Tryz.prog 115 0 = some (0, 26) := by kernel_rfl
theorem xp1 : xy Tryz.prog 115 1 = some (1, 73) := by kernel_rfl
theorem xh1 : xy Tryz.prog 115 2 = some (2, 112) := by kernel_rfl
theorem xr0 : xy Tryz.prog 115 3 = some (3, 113) := by kernel_rfl
theorem x92 : aggN Tryz.prog 144 = some (true, 2) := by kernel_rfl
theorem xa2 : x8d Tryz.prog 144 = some 16 := by kernel_rfl
end Go.Proofs.YtapdjibjnfeipaaGreatDoor.AL

