/- A law of the given program is proved: part 26 of 40. -/
import Derived.Test.YtjmnoaoeediodaaDoorChecked
import Derived.Test.YtjmnoaoeediodaaDoorA25
set_option linter.all false
/- AL: closed facts on the types and functions of this seat's translation, printed by facts.py. -/
namespace Go.Proofs.YtjmnoaoeediodaaDoor.AL
open Go Go.Proofs
set_option maxRecDepth 100000
theorem aggN_1 : aggN Tryd.prog 1 = some (false, 1) := by kernel_rfl
theorem aggN_2 : aggN Tryd.prog 2 = some (false, 1) := by kernel_rfl
theorem aggN_3 : aggN Tryd.prog 3 = some (false, 1) := by kernel_rfl
theorem aggN_4 : aggN Tryd.prog 4 = some (false, 1) := by kernel_rfl
theorem xgm : kindOf Tryd.prog 4 = .bool := by kernel_rfl
theorem aggN_5 : aggN Tryd.prog 5 = some (false, 1) := by kernel_rfl
theorem aggN_9 : aggN Tryd.prog 9 = some (false, 1) := by kernel_rfl
theorem xam : kindOf Tryd.prog 9 = .str := by kernel_rfl
theorem xjf : aggN Tryd.prog 23 = some (true, 4) := by kernel_rfl
theorem xse : xjb Tryd.prog 23 0 = some (0, 3) := by kernel_rfl
theorem xki : xjb Tryd.prog 23 1 = some (1, 3) := by kernel_rfl
theorem xbi : xjb Tryd.prog 23 2 = some (2, 3) := by kernel_rfl
theorem x6h : xjb Tryd.prog 23 3 = some (3, 3) := by kernel_rfl
theorem xui : aggN Tryd.prog 30 = some (false, 1) := by kernel_rfl
theorem xzg : xu Tryd.prog 30 = some 23 := by kernel_rfl
theorem xho : aggN Tryd.prog 32 = some (true, 8) := by kernel_rfl
theorem xoe : xjb Tryd.prog 32 0 = some (0, 3) := by kernel_rfl
theorem x2h : xjb Tryd.prog 32 1 = some (1, 30) := by kernel_rfl
theorem x7h : xjb Tryd.prog 32 2 = some (2, 30) := by kernel_rfl
theorem xli : xjb Tryd.prog 32 3 = some (3, 30) := by kernel_rfl
theorem xii : xjb Tryd.prog 32 4 = some (4, 3) := by kernel_rfl
theorem xrh : xjb Tryd.prog 32 5 = some (5, 3) := by kernel_rfl
theorem x8h : xjb Tryd.prog 32 6 = some (6, 3) := by kernel_rfl
theorem xvh : xjb Tryd.prog 32 7 = some (7, 4) := by kernel_rfl
theorem xvg : xu Tryd.prog 53 = some 9 := by kernel_rfl
theorem xgo : aggN Tryd.prog 55 = some (false, 1) := by kernel_rfl
theorem xao : aggN Tryd.prog 56 = some (true, 3) := by kernel_rfl
theorem xno : xu Tryd.prog 56 = none := by kernel_rfl
theorem x4p : arrOfT Tryd.prog 56 = some (3, 55) := by kernel_rfl
theorem x2o : xu Tryd.prog 68 = some 5 := by kernel_rfl
end Go.Proofs.YtjmnoaoeediodaaDoor.AL

