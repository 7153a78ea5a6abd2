/- A law of the given program is proved: part 27 of 50. -/
import Derived.Test.YtefdlpandfhcgaaDoorChecked
import Derived.Test.YtefdlpandfhcgaaDoorA26
set_option linter.all false
/- AL: closed facts on the types and functions of this seat's translation, printed by facts.py. -/
namespace Go.Proofs.YtefdlpandfhcgaaDoor.AL
open Go Go.Proofs
set_option maxRecDepth 100000
theorem aggN_1 : aggN Tryd.prog 1 = some (false, 1) := by kernel_rfl
theorem aggN_2 : aggN Tryd.prog 2 = some (false, 1) := by kernel_rfl
theorem aggN_3 : aggN Tryd.prog 3 = some (false, 1) := by kernel_rfl
theorem aggN_4 : aggN Tryd.prog 4 = some (false, 1) := by kernel_rfl
theorem x1p : kindOf Tryd.prog 4 = .bool := by kernel_rfl
theorem aggN_5 : aggN Tryd.prog 5 = some (false, 1) := by kernel_rfl
theorem aggN_9 : aggN Tryd.prog 9 = some (false, 1) := by kernel_rfl
theorem xaq : kindOf Tryd.prog 9 = .str := by kernel_rfl
theorem xel : aggN Tryd.prog 23 = some (true, 3) := by kernel_rfl
theorem x0d : xy Tryd.prog 23 0 = some (0, 3) := by kernel_rfl
theorem xsk : xy Tryd.prog 23 1 = some (1, 3) := by kernel_rfl
theorem xyk : xy Tryd.prog 23 2 = some (2, 3) := by kernel_rfl
theorem xwk : xy Tryd.prog 31 0 = some (0, 3) := by kernel_rfl
theorem x0p : xy Tryd.prog 31 1 = some (1, 3) := by kernel_rfl
theorem x8q : xy Tryd.prog 31 2 = some (2, 3) := by kernel_rfl
theorem xrp : xy Tryd.prog 31 3 = some (3, 3) := by kernel_rfl
theorem xon : aggN Tryd.prog 32 = some (false, 1) := by kernel_rfl
theorem x7i : xcb Tryd.prog 32 = some 44 := by kernel_rfl
theorem xoi : aggN Tryd.prog 34 = some (true, 1) := by kernel_rfl
theorem x8f : xy Tryd.prog 34 0 = some (0, 32) := by kernel_rfl
theorem xhs : aggN Tryd.prog 35 = some (false, 1) := by kernel_rfl
theorem xaj : xcb Tryd.prog 35 = some 34 := by kernel_rfl
theorem xis : aggN Tryd.prog 37 = some (true, 6) := by kernel_rfl
theorem xrh : xy Tryd.prog 37 0 = some (0, 31) := by kernel_rfl
theorem xal : xy Tryd.prog 37 1 = some (4, 34) := by kernel_rfl
theorem x6k : xy Tryd.prog 37 2 = some (5, 35) := by kernel_rfl
theorem x9r : aggN Tryd.prog 39 = some (false, 1) := by kernel_rfl
theorem x7m : xcb Tryd.prog 39 = some 5 := by kernel_rfl
theorem x4n : aggN Tryd.prog 40 = some (false, 1) := by kernel_rfl
theorem xah : xcb Tryd.prog 40 = some 51 := by kernel_rfl
theorem xds : aggN Tryd.prog 42 = some (true, 7) := by kernel_rfl
theorem xoh : xy Tryd.prog 42 0 = some (0, 3) := by kernel_rfl
theorem xsq : xy Tryd.prog 42 1 = some (1, 3) := by kernel_rfl
theorem xuk : xy Tryd.prog 42 2 = some (2, 9) := by kernel_rfl
theorem xhq : xy Tryd.prog 42 3 = some (3, 23) := by kernel_rfl
theorem xsp : xy Tryd.prog 42 4 = some (6, 3) := by kernel_rfl
theorem xeh : aggN Tryd.prog 44 = some (true, 13) := by kernel_rfl
theorem xhg : xy Tryd.prog 44 0 = some (0, 3) := by kernel_rfl
theorem xqk : xy Tryd.prog 44 1 = some (1, 3) := by kernel_rfl
theorem xlk : xy Tryd.prog 44 2 = some (2, 3) := by kernel_rfl
theorem xvk : xy Tryd.prog 44 3 = some (3, 3) := by kernel_rfl
theorem x8k : xy Tryd.prog 44 4 = some (4, 39) := by kernel_rfl
theorem xnh : xy Tryd.prog 44 5 = some (5, 40) := by kernel_rfl
theorem xpk : xy Tryd.prog 44 6 = some (6, 42) := by kernel_rfl
theorem xdh : aggN Tryd.prog 51 = some (true, 3) := by kernel_rfl
theorem xfg : xy Tryd.prog 51 0 = some (0, 3) := by kernel_rfl
theorem xph : xy Tryd.prog 51 1 = some (1, 3) := by kernel_rfl
theorem x5k : xy Tryd.prog 51 2 = some (2, 9) := by kernel_rfl
theorem xkb : aggN Tryd.prog 57 = some (true, 4) := by kernel_rfl
theorem x7s : xcb Tryd.prog 57 = none := by kernel_rfl
theorem xjw : arrOfT Tryd.prog 57 = some (4, 3) := by kernel_rfl
theorem xun : aggN Tryd.prog 58 = some (true, 12) := by kernel_rfl
theorem xdb : arrOfT Tryd.prog 58 = some (3, 57) := by kernel_rfl
theorem xe0 : aggN Tryd.prog 63 = some (true, 3) := by kernel_rfl
theorem x9s : xcb Tryd.prog 63 = none := by kernel_rfl
theorem xdu : arrOfT Tryd.prog 63 = some (3, 3) := by kernel_rfl
theorem xvz : aggN Tryd.prog 75 = some (true, 2) := by kernel_rfl
theorem xkq : xy Tryd.prog 75 0 = some (0, 3) := by kernel_rfl
theorem xqq : xy Tryd.prog 75 1 = some (1, 3) := by kernel_rfl
end Go.Proofs.YtefdlpandfhcgaaDoor.AL

