/- A law of the given program is proved: part 26 of 45. -/
import Derived.Test.YtjmnoaoeediodaaDoorChecked
import Derived.Test.YtjmnoaoeediodaaDoorB25
set_option linter.all false
/- AL: closed facts on the types and functions of this seat's translation, printed by facts.py. -/
namespace Go.Proofs.YtjmnoaoeediodaaDoor.AL
open Go Go.Proofs
set_option maxRecDepth 100000
theorem aggN_1 : aggN Tryd.prog 1 = some (false, 1) := by kernel_rfl
theorem aggN_2 : aggN Tryd.prog 2 = some (false, 1) := by kernel_rfl
theorem aggN_3 : aggN Tryd.prog 3 = some (false, 1) := by kernel_rfl
theorem aggN_4 : aggN Tryd.prog 4 = some (false, 1) := by kernel_rfl
theorem x0p : kindOf Tryd.prog 4 = .bool := by kernel_rfl
theorem aggN_5 : aggN Tryd.prog 5 = some (false, 1) := by kernel_rfl
theorem aggN_9 : aggN Tryd.prog 9 = some (false, 1) := by kernel_rfl
theorem x4p : kindOf Tryd.prog 9 = .str := by kernel_rfl
theorem xal : aggN Tryd.prog 23 = some (true, 4) := by kernel_rfl
theorem x7p : x1b Tryd.prog 23 0 = some (0, 3) := by kernel_rfl
theorem xxp : x1b Tryd.prog 23 1 = some (1, 3) := by kernel_rfl
theorem xup : x1b Tryd.prog 23 2 = some (2, 3) := by kernel_rfl
theorem xfq : x1b Tryd.prog 23 3 = some (3, 3) := by kernel_rfl
theorem x5f : aggN Tryd.prog 36 = some (true, 4) := by kernel_rfl
theorem xlf : x1b Tryd.prog 36 0 = some (0, 3) := by kernel_rfl
theorem xhk : x1b Tryd.prog 36 1 = some (1, 3) := by kernel_rfl
theorem xzk : x1b Tryd.prog 36 2 = some (2, 3) := by kernel_rfl
theorem xsk : x1b Tryd.prog 36 3 = some (3, 4) := by kernel_rfl
theorem xar : x9f Tryd.prog 36 = some 32 := by kernel_rfl
theorem xqn : aggN Tryd.prog 37 = some (false, 1) := by kernel_rfl
theorem xyg : xy Tryd.prog 37 = some 36 := by kernel_rfl
theorem x5k : aggN Tryd.prog 39 = some (true, 3) := by kernel_rfl
theorem xhe : x1b Tryd.prog 39 0 = some (0, 3) := by kernel_rfl
theorem x1k : x1b Tryd.prog 39 1 = some (1, 37) := by kernel_rfl
theorem xmk : x1b Tryd.prog 39 2 = some (2, 4) := by kernel_rfl
theorem xwi : xy Tryd.prog 53 = some 9 := by kernel_rfl
theorem x2r : aggN Tryd.prog 55 = some (false, 1) := by kernel_rfl
theorem x8r : aggN Tryd.prog 56 = some (true, 3) := by kernel_rfl
theorem x4s : xy Tryd.prog 56 = none := by kernel_rfl
theorem xcu : arrOfT Tryd.prog 56 = some (3, 55) := by kernel_rfl
theorem xhs : xy Tryd.prog 68 = some 5 := by kernel_rfl
theorem xzi : xy Tryd.prog 92 = some 4 := by kernel_rfl
end Go.Proofs.YtjmnoaoeediodaaDoor.AL

