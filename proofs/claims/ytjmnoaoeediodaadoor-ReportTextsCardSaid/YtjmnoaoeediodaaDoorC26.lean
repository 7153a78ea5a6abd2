/- A law of the given program is proved: part 26 of 47. -/
import Derived.Test.YtjmnoaoeediodaaDoorChecked
import Derived.Test.YtjmnoaoeediodaaDoorC25
set_option linter.all false
/- AL: closed facts on the types and functions of this seat's translation, printed by facts.py. -/
namespace Go.Proofs.YtjmnoaoeediodaaDoor.AL
open Go Go.Proofs
set_option maxRecDepth 100000
theorem aggN_1 : aggN Tryd.prog 1 = some (false, 1) := by kernel_rfl
theorem aggN_2 : aggN Tryd.prog 2 = some (false, 1) := by kernel_rfl
theorem aggN_3 : aggN Tryd.prog 3 = some (false, 1) := by kernel_rfl
theorem aggN_4 : aggN Tryd.prog 4 = some (false, 1) := by kernel_rfl
theorem xsr : kindOf Tryd.prog 4 = .bool := by kernel_rfl
theorem aggN_5 : aggN Tryd.prog 5 = some (false, 1) := by kernel_rfl
theorem aggN_9 : aggN Tryd.prog 9 = some (false, 1) := by kernel_rfl
theorem xns : kindOf Tryd.prog 9 = .str := by kernel_rfl
theorem xoi : aggN Tryd.prog 23 = some (true, 4) := by kernel_rfl
theorem xwg : xlb Tryd.prog 23 0 = some (0, 3) := by kernel_rfl
theorem xyl : xlb Tryd.prog 23 1 = some (1, 3) := by kernel_rfl
theorem x3l : xlb Tryd.prog 23 2 = some (2, 3) := by kernel_rfl
theorem xxm : xlb Tryd.prog 23 3 = some (3, 3) := by kernel_rfl
theorem x8m : aggN Tryd.prog 30 = some (false, 1) := by kernel_rfl
theorem xlk : xz Tryd.prog 30 = some 23 := by kernel_rfl
theorem xgu : aggN Tryd.prog 32 = some (true, 8) := by kernel_rfl
theorem xvg : xlb Tryd.prog 32 0 = some (0, 3) := by kernel_rfl
theorem xwl : xlb Tryd.prog 32 1 = some (1, 30) := by kernel_rfl
theorem xnm : xlb Tryd.prog 32 2 = some (2, 30) := by kernel_rfl
theorem x6l : xlb Tryd.prog 32 3 = some (3, 30) := by kernel_rfl
theorem x5l : xlb Tryd.prog 32 4 = some (4, 3) := by kernel_rfl
theorem x1l : xlb Tryd.prog 32 5 = some (5, 3) := by kernel_rfl
theorem x4l : xlb Tryd.prog 32 6 = some (6, 3) := by kernel_rfl
theorem xsm : xlb Tryd.prog 32 7 = some (7, 4) := by kernel_rfl
theorem xah : aggN Tryd.prog 36 = some (true, 4) := by kernel_rfl
theorem xsg : xlb Tryd.prog 36 0 = some (0, 3) := by kernel_rfl
theorem xjm : xlb Tryd.prog 36 1 = some (1, 3) := by kernel_rfl
theorem xbm : xlb Tryd.prog 36 2 = some (2, 3) := by kernel_rfl
theorem xvm : xlb Tryd.prog 36 3 = some (3, 4) := by kernel_rfl
theorem x0t : xjh Tryd.prog 36 = some 32 := by kernel_rfl
theorem xqp : aggN Tryd.prog 37 = some (false, 1) := by kernel_rfl
theorem xfi : xz Tryd.prog 37 = some 36 := by kernel_rfl
theorem xcn : aggN Tryd.prog 39 = some (true, 3) := by kernel_rfl
theorem xhf : xlb Tryd.prog 39 0 = some (0, 3) := by kernel_rfl
theorem xzl : xlb Tryd.prog 39 1 = some (1, 37) := by kernel_rfl
theorem x7l : xlb Tryd.prog 39 2 = some (2, 4) := by kernel_rfl
theorem xtk : xz Tryd.prog 53 = some 9 := by kernel_rfl
theorem xiu : aggN Tryd.prog 55 = some (false, 1) := by kernel_rfl
theorem xfu : aggN Tryd.prog 56 = some (true, 3) := by kernel_rfl
theorem xxv : xz Tryd.prog 56 = none := by kernel_rfl
theorem xpw : arrOfT Tryd.prog 56 = some (3, 55) := by kernel_rfl
theorem x2v : xz Tryd.prog 68 = some 5 := by kernel_rfl
theorem xrk : xz Tryd.prog 92 = some 4 := by kernel_rfl
end Go.Proofs.YtjmnoaoeediodaaDoor.AL

