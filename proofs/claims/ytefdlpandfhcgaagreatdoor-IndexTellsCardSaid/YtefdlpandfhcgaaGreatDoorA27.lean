/- A law of the given program is proved: part 27 of 50. -/
import Derived.Test.YtefdlpandfhcgaaGreatDoorChecked
import Derived.Test.YtefdlpandfhcgaaGreatDoorA26
set_option linter.all false
/- AL: closed facts on the types and functions of this seat's translation, printed by facts.py. -/
namespace Go.Proofs.YtefdlpandfhcgaaGreatDoor.AL
open Go Go.Proofs
set_option maxRecDepth 100000
theorem aggN_1 : aggN Tryz.prog 1 = some (false, 1) := by kernel_rfl
theorem aggN_2 : aggN Tryz.prog 2 = some (false, 1) := by kernel_rfl
theorem aggN_3 : aggN Tryz.prog 3 = some (false, 1) := by kernel_rfl
theorem aggN_4 : aggN Tryz.prog 4 = some (false, 1) := by kernel_rfl
theorem xa5 : kindOf Tryz.prog 4 = .bool := by kernel_rfl
theorem xr0 : xaf Tryz.prog 4 = some 1 := by kernel_rfl
theorem aggN_9 : aggN Tryz.prog 9 = some (false, 1) := by kernel_rfl
theorem x1v : kindOf Tryz.prog 9 = .str := by kernel_rfl
theorem xip : xcb Tryz.prog 23 0 = some (0, 3) := by kernel_rfl
theorem x4v : xcb Tryz.prog 23 1 = some (1, 3) := by kernel_rfl
theorem xbw : xcb Tryz.prog 23 2 = some (2, 3) := by kernel_rfl
theorem xfw : xcb Tryz.prog 23 3 = some (3, 3) := by kernel_rfl
theorem xht : aggN Tryz.prog 24 = some (false, 1) := by kernel_rfl
theorem xwm : xfb Tryz.prog 24 = some 52 := by kernel_rfl
theorem x5i : aggN Tryz.prog 26 = some (true, 1) := by kernel_rfl
theorem xji : xcb Tryz.prog 26 0 = some (0, 24) := by kernel_rfl
theorem xaz : aggN Tryz.prog 27 = some (false, 1) := by kernel_rfl
theorem xym : xfb Tryz.prog 27 = some 26 := by kernel_rfl
theorem x0s : aggN Tryz.prog 29 = some (true, 6) := by kernel_rfl
theorem xvk : xcb Tryz.prog 29 0 = some (0, 23) := by kernel_rfl
theorem xqp : xcb Tryz.prog 29 1 = some (4, 26) := by kernel_rfl
theorem xxo : xcb Tryz.prog 29 2 = some (5, 27) := by kernel_rfl
theorem x3j : aggN Tryz.prog 31 = some (true, 3) := by kernel_rfl
theorem x3g : xcb Tryz.prog 31 0 = some (0, 3) := by kernel_rfl
theorem xsk : xcb Tryz.prog 31 1 = some (1, 3) := by kernel_rfl
theorem xbk : xcb Tryz.prog 31 2 = some (2, 9) := by kernel_rfl
theorem xvj : xfb Tryz.prog 35 = some 37 := by kernel_rfl
theorem x1p : aggN Tryz.prog 37 = some (true, 4) := by kernel_rfl
theorem xiy : xaf Tryz.prog 37 = some 32 := by kernel_rfl
theorem x5s : aggN Tryz.prog 45 = some (false, 1) := by kernel_rfl
theorem xuj : xfb Tryz.prog 45 = some 31 := by kernel_rfl
theorem x3y : aggN Tryz.prog 46 = some (false, 1) := by kernel_rfl
theorem x8z : xfb Tryz.prog 46 = some 5 := by kernel_rfl
theorem xbm : aggN Tryz.prog 48 = some (true, 3) := by kernel_rfl
theorem xok : xcb Tryz.prog 48 0 = some (0, 3) := by kernel_rfl
theorem x9n : xcb Tryz.prog 48 1 = some (1, 3) := by kernel_rfl
theorem x2o : xcb Tryz.prog 48 2 = some (2, 3) := by kernel_rfl
theorem x2s : aggN Tryz.prog 50 = some (true, 7) := by kernel_rfl
theorem xlk : xcb Tryz.prog 50 0 = some (0, 3) := by kernel_rfl
theorem xmx : xcb Tryz.prog 50 1 = some (1, 3) := by kernel_rfl
theorem x8o : xcb Tryz.prog 50 2 = some (2, 9) := by kernel_rfl
theorem x7n : xcb Tryz.prog 50 3 = some (3, 48) := by kernel_rfl
theorem xpw : xcb Tryz.prog 50 4 = some (6, 3) := by kernel_rfl
theorem x4j : aggN Tryz.prog 52 = some (true, 13) := by kernel_rfl
theorem xwi : xcb Tryz.prog 52 0 = some (0, 3) := by kernel_rfl
theorem xtw : xcb Tryz.prog 52 1 = some (1, 3) := by kernel_rfl
theorem xao : xcb Tryz.prog 52 2 = some (2, 3) := by kernel_rfl
theorem xko : xcb Tryz.prog 52 3 = some (3, 3) := by kernel_rfl
theorem xap : xcb Tryz.prog 52 4 = some (4, 46) := by kernel_rfl
theorem xdk : xcb Tryz.prog 52 5 = some (5, 45) := by kernel_rfl
theorem xgo : xcb Tryz.prog 52 6 = some (6, 50) := by kernel_rfl
theorem x0p : aggN Tryz.prog 53 = some (false, 1) := by kernel_rfl
theorem xtj : xfb Tryz.prog 53 = some 4 := by kernel_rfl
theorem xwp : aggN Tryz.prog 55 = some (true, 7) := by kernel_rfl
theorem xwx : xcb Tryz.prog 55 0 = some (0, 29) := by kernel_rfl
theorem xew : xcb Tryz.prog 55 1 = some (6, 53) := by kernel_rfl
theorem xtm : xfb Tryz.prog 67 = some 3 := by kernel_rfl
theorem xf8 : aggN Tryz.prog 80 = some (true, 2) := by kernel_rfl
theorem xxx : xcb Tryz.prog 80 0 = some (0, 3) := by kernel_rfl
theorem xvv : xcb Tryz.prog 80 1 = some (1, 3) := by kernel_rfl
theorem xzp : aggN Tryz.prog 82 = some (false, 1) := by kernel_rfl
theorem xqh : xfb Tryz.prog 82 = some 85 := by kernel_rfl
theorem x7h : aggN Tryz.prog 85 = some (true, 3) := by kernel_rfl
theorem xno : xcb Tryz.prog 85 0 = some (0, 3) := by kernel_rfl
theorem xwy : xaf Tryz.prog 85 = some 32 := by kernel_rfl
theorem x8y : aggN Tryz.prog 89 = some (false, 1) := by kernel_rfl
theorem xtab : aggN Tryz.prog 92 = some (true, 3) := by kernel_rfl
theorem xpz : xfb Tryz.prog 92 = none := by kernel_rfl
theorem x13 : arrOfT Tryz.prog 92 = some (3, 3) := by kernel_rfl
theorem x5b : aggN Tryz.prog 93 = some (true, 4) := by kernel_rfl
theorem xd0 : xfb Tryz.prog 93 = none := by kernel_rfl
theorem xw2 : arrOfT Tryz.prog 93 = some (4, 3) := by kernel_rfl
theorem xzs : aggN Tryz.prog 94 = some (true, 12) := by kernel_rfl
theorem xtb : arrOfT Tryz.prog 94 = some (3, 93) := by kernel_rfl
theorem xir : aggN Tryz.prog 103 = some (false, 1) := by kernel_rfl
theorem xaq : xfb Tryz.prog 103 = some 120 := by kernel_rfl
theorem xzv : aggN Tryz.prog 108 = some (false, 1) := by kernel_rfl
theorem xx5 : aggN Tryz.prog 110 = some (true, 4) := by kernel_rfl
theorem xcn : xcb Tryz.prog 110 0 = some (0, 26) := by kernel_rfl
theorem xkn : xcb Tryz.prog 110 1 = some (1, 82) := by kernel_rfl
theorem xpv : xcb Tryz.prog 110 2 = some (2, 108) := by kernel_rfl
theorem xlv : xcb Tryz.prog 110 3 = some (3, 103) := by kernel_rfl
theorem xvw : aggN Tryz.prog 120 = some (true, 2) := by kernel_rfl
theorem x3x : xaf Tryz.prog 120 = some 16 := by kernel_rfl
end Go.Proofs.YtefdlpandfhcgaaGreatDoor.AL

