/- A law of the given program is proved: part 26 of 51. -/
import Derived.Test.YtfkgckbdknpcnaaGreatDoorChecked
import Derived.Test.YtfkgckbdknpcnaaGreatDoorA25
set_option linter.all false
/- AL: closed facts on the types and functions of this seat's translation, printed by facts.py. -/
namespace Go.Proofs.YtfkgckbdknpcnaaGreatDoor.AL
open Go Go.Proofs
set_option maxRecDepth 100000
theorem aggN_1 : aggN Tryz.prog 1 = some (false, 1) := by kernel_rfl
theorem aggN_2 : aggN Tryz.prog 2 = some (false, 1) := by kernel_rfl
theorem aggN_3 : aggN Tryz.prog 3 = some (false, 1) := by kernel_rfl
theorem xc8 : xzd Tryz.prog 3 = some 8 := by kernel_rfl
theorem aggN_4 : aggN Tryz.prog 4 = some (false, 1) := by kernel_rfl
theorem x4eb : kindOf Tryz.prog 4 = .bool := by kernel_rfl
theorem x47 : xzd Tryz.prog 4 = some 1 := by kernel_rfl
theorem aggN_9 : aggN Tryz.prog 9 = some (false, 1) := by kernel_rfl
theorem x03 : kindOf Tryz.prog 9 = .str := by kernel_rfl
theorem x77 : xzd Tryz.prog 9 = some 16 := by kernel_rfl
theorem xms : xy Tryz.prog 23 0 = some (0, 3) := by kernel_rfl
theorem x02 : xy Tryz.prog 23 1 = some (1, 3) := by kernel_rfl
theorem xz4 : xy Tryz.prog 23 2 = some (2, 3) := by kernel_rfl
theorem xy2 : xy Tryz.prog 23 3 = some (3, 3) := by kernel_rfl
theorem xfz : aggN Tryz.prog 24 = some (false, 1) := by kernel_rfl
theorem xqq : xab Tryz.prog 24 = some 68 := by kernel_rfl
theorem x4k : aggN Tryz.prog 26 = some (true, 1) := by kernel_rfl
theorem xml : xy Tryz.prog 26 0 = some (0, 24) := by kernel_rfl
theorem xs6 : aggN Tryz.prog 27 = some (false, 1) := by kernel_rfl
theorem x4p : xab Tryz.prog 27 = some 26 := by kernel_rfl
theorem xku : aggN Tryz.prog 29 = some (true, 6) := by kernel_rfl
theorem x2n : xy Tryz.prog 29 0 = some (0, 23) := by kernel_rfl
theorem xdu : xy Tryz.prog 29 1 = some (4, 26) := by kernel_rfl
theorem xet : xy Tryz.prog 29 2 = some (5, 27) := by kernel_rfl
theorem xbe : xab Tryz.prog 30 = some 9 := by kernel_rfl
theorem x1m : xab Tryz.prog 34 = some 36 := by kernel_rfl
theorem xqu : aggN Tryz.prog 36 = some (true, 4) := by kernel_rfl
theorem xk5 : xzd Tryz.prog 36 = some 32 := by kernel_rfl
theorem xnu : aggN Tryz.prog 39 = some (false, 1) := by kernel_rfl
theorem xyj : xab Tryz.prog 39 = some 41 := by kernel_rfl
theorem xyk : aggN Tryz.prog 41 = some (true, 2) := by kernel_rfl
theorem xy3 : xy Tryz.prog 41 0 = some (0, 3) := by kernel_rfl
theorem x32 : xy Tryz.prog 41 1 = some (1, 3) := by kernel_rfl
theorem xuv : xzd Tryz.prog 41 = some 16 := by kernel_rfl
theorem xlp : aggN Tryz.prog 51 = some (false, 1) := by kernel_rfl
theorem xxj : xab Tryz.prog 51 = some 77 := by kernel_rfl
theorem xq6 : aggN Tryz.prog 52 = some (false, 1) := by kernel_rfl
theorem x9k : xab Tryz.prog 52 = some 80 := by kernel_rfl
theorem xru : aggN Tryz.prog 54 = some (true, 8) := by kernel_rfl
theorem xx4 : xy Tryz.prog 54 0 = some (0, 29) := by kernel_rfl
theorem x22 : xy Tryz.prog 54 1 = some (6, 51) := by kernel_rfl
theorem xd4 : xy Tryz.prog 54 2 = some (7, 52) := by kernel_rfl
theorem xw6 : aggN Tryz.prog 56 = some (false, 1) := by kernel_rfl
theorem x7y : aggN Tryz.prog 58 = some (false, 1) := by kernel_rfl
theorem xkl : xab Tryz.prog 58 = some 4 := by kernel_rfl
theorem xl6 : aggN Tryz.prog 61 = some (false, 1) := by kernel_rfl
theorem x57 : xab Tryz.prog 61 = some 5 := by kernel_rfl
theorem xjy : aggN Tryz.prog 62 = some (false, 1) := by kernel_rfl
theorem x0m : xab Tryz.prog 62 = some 87 := by kernel_rfl
theorem xqs : xy Tryz.prog 64 0 = some (0, 3) := by kernel_rfl
theorem xm2 : xy Tryz.prog 64 1 = some (1, 3) := by kernel_rfl
theorem xs3 : xy Tryz.prog 64 2 = some (2, 3) := by kernel_rfl
theorem xwu : aggN Tryz.prog 66 = some (true, 7) := by kernel_rfl
theorem x3n : xy Tryz.prog 66 0 = some (0, 3) := by kernel_rfl
theorem x9t : xy Tryz.prog 66 1 = some (1, 3) := by kernel_rfl
theorem xbs : xy Tryz.prog 66 2 = some (2, 9) := by kernel_rfl
theorem xg3 : xy Tryz.prog 66 3 = some (3, 64) := by kernel_rfl
theorem xo2 : xy Tryz.prog 66 4 = some (6, 3) := by kernel_rfl
theorem xan : aggN Tryz.prog 68 = some (true, 13) := by kernel_rfl
theorem xvl : xy Tryz.prog 68 0 = some (0, 3) := by kernel_rfl
theorem xv2 : xy Tryz.prog 68 1 = some (1, 3) := by kernel_rfl
theorem x8s : xy Tryz.prog 68 2 = some (2, 3) := by kernel_rfl
theorem xq3 : xy Tryz.prog 68 3 = some (3, 3) := by kernel_rfl
theorem x0s : xy Tryz.prog 68 4 = some (4, 61) := by kernel_rfl
theorem xhn : xy Tryz.prog 68 5 = some (5, 62) := by kernel_rfl
theorem xmn : xy Tryz.prog 68 6 = some (6, 66) := by kernel_rfl
theorem xkj : xab Tryz.prog 73 = some 3 := by kernel_rfl
theorem xsk : aggN Tryz.prog 77 = some (true, 3) := by kernel_rfl
theorem x7s : xy Tryz.prog 77 0 = some (0, 3) := by kernel_rfl
theorem xft : xy Tryz.prog 77 1 = some (1, 3) := by kernel_rfl
theorem xjt : xy Tryz.prog 77 2 = some (2, 9) := by kernel_rfl
theorem x85 : xzd Tryz.prog 77 = some 32 := by kernel_rfl
theorem xuk : aggN Tryz.prog 80 = some (true, 2) := by kernel_rfl
theorem xv4 : xy Tryz.prog 80 0 = some (0, 3) := by kernel_rfl
theorem xbt : xy Tryz.prog 80 1 = some (1, 39) := by kernel_rfl
theorem x55 : xzd Tryz.prog 80 = some 32 := by kernel_rfl
theorem xcn : aggN Tryz.prog 87 = some (true, 3) := by kernel_rfl
theorem xpl : xy Tryz.prog 87 0 = some (0, 3) := by kernel_rfl
theorem xjn : xy Tryz.prog 87 1 = some (1, 3) := by kernel_rfl
theorem xyn : xy Tryz.prog 87 2 = some (2, 9) := by kernel_rfl
theorem xi6 : aggN Tryz.prog 91 = some (false, 1) := by kernel_rfl
theorem x6p : aggN Tryz.prog 109 = some (true, 6) := by kernel_rfl
theorem xp1 : xy Tryz.prog 109 0 = some (0, 29) := by kernel_rfl
theorem xow : aggN Tryz.prog 113 = some (false, 1) := by kernel_rfl
theorem xcv : xab Tryz.prog 113 = some 136 := by kernel_rfl
theorem xmeb : aggN Tryz.prog 115 = some (true, 4) := by kernel_rfl
theorem x2q : xy Tryz.prog 115 0 = some (0, 26) := by kernel_rfl
theorem xir : xy Tryz.prog 115 1 = some (1, 51) := by kernel_rfl
theorem xy1 : xy Tryz.prog 115 2 = some (2, 56) := by kernel_rfl
theorem x90 : xy Tryz.prog 115 3 = some (3, 113) := by kernel_rfl
theorem xw2 : aggN Tryz.prog 136 = some (true, 2) := by kernel_rfl
theorem xr2 : xzd Tryz.prog 136 = some 16 := by kernel_rfl
theorem xqv : xab Tryz.prog 146 = some 26 := by kernel_rfl
end Go.Proofs.YtfkgckbdknpcnaaGreatDoor.AL

