/- A law of the given program is proved: part 27 of 51. -/
import Derived.Test.YtefdlpandfhcgaaDoorChecked
import Derived.Test.YtefdlpandfhcgaaDoorB26
set_option linter.all false
/- AL: closed facts on the types and functions of this seat's translation, printed by facts.py. -/
namespace Go.Proofs.YtefdlpandfhcgaaDoor.AL
open Go Go.Proofs
set_option maxRecDepth 100000
theorem aggN_1 : aggN Tryd.prog 1 = some (false, 1) := by kernel_rfl
theorem aggN_2 : aggN Tryd.prog 2 = some (false, 1) := by kernel_rfl
theorem aggN_3 : aggN Tryd.prog 3 = some (false, 1) := by kernel_rfl
theorem aggN_4 : aggN Tryd.prog 4 = some (false, 1) := by kernel_rfl
theorem xcu : kindOf Tryd.prog 4 = .bool := by kernel_rfl
theorem xhw : xod Tryd.prog 4 = some 1 := by kernel_rfl
theorem aggN_5 : aggN Tryd.prog 5 = some (false, 1) := by kernel_rfl
theorem aggN_9 : aggN Tryd.prog 9 = some (false, 1) := by kernel_rfl
theorem xwt : kindOf Tryd.prog 9 = .str := by kernel_rfl
theorem xmk : aggN Tryd.prog 23 = some (true, 3) := by kernel_rfl
theorem xdj : xz Tryd.prog 23 0 = some (0, 3) := by kernel_rfl
theorem xgm : xz Tryd.prog 23 1 = some (1, 3) := by kernel_rfl
theorem x2m : xz Tryd.prog 23 2 = some (2, 3) := by kernel_rfl
theorem x1m : xz Tryd.prog 31 0 = some (0, 3) := by kernel_rfl
theorem x9s : xz Tryd.prog 31 1 = some (1, 3) := by kernel_rfl
theorem x2t : xz Tryd.prog 31 2 = some (2, 3) := by kernel_rfl
theorem xmt : xz Tryd.prog 31 3 = some (3, 3) := by kernel_rfl
theorem xmn : aggN Tryd.prog 32 = some (false, 1) := by kernel_rfl
theorem xeg : xw Tryd.prog 32 = some 44 := by kernel_rfl
theorem xzh : aggN Tryd.prog 34 = some (true, 1) := by kernel_rfl
theorem xch : xz Tryd.prog 34 0 = some (0, 32) := by kernel_rfl
theorem x9v : aggN Tryd.prog 35 = some (false, 1) := by kernel_rfl
theorem xsk : xw Tryd.prog 35 = some 34 := by kernel_rfl
theorem xtq : aggN Tryd.prog 37 = some (true, 6) := by kernel_rfl
theorem xhj : xz Tryd.prog 37 0 = some (0, 31) := by kernel_rfl
theorem xyl : xz Tryd.prog 37 1 = some (4, 34) := by kernel_rfl
theorem x3l : xz Tryd.prog 37 2 = some (5, 35) := by kernel_rfl
theorem x7v : aggN Tryd.prog 39 = some (false, 1) := by kernel_rfl
theorem xwp : xw Tryd.prog 39 = some 5 := by kernel_rfl
theorem xsn : aggN Tryd.prog 40 = some (false, 1) := by kernel_rfl
theorem xri : xw Tryd.prog 40 = some 51 := by kernel_rfl
theorem x1v : aggN Tryd.prog 42 = some (true, 7) := by kernel_rfl
theorem x8i : xz Tryd.prog 42 0 = some (0, 3) := by kernel_rfl
theorem xau : xz Tryd.prog 42 1 = some (1, 3) := by kernel_rfl
theorem x6m : xz Tryd.prog 42 2 = some (2, 9) := by kernel_rfl
theorem xkm : xz Tryd.prog 42 3 = some (3, 23) := by kernel_rfl
theorem xfu : xz Tryd.prog 42 4 = some (6, 3) := by kernel_rfl
theorem xcg : aggN Tryd.prog 44 = some (true, 13) := by kernel_rfl
theorem xag : xz Tryd.prog 44 0 = some (0, 3) := by kernel_rfl
theorem xam : xz Tryd.prog 44 1 = some (1, 3) := by kernel_rfl
theorem xcm : xz Tryd.prog 44 2 = some (2, 3) := by kernel_rfl
theorem xym : xz Tryd.prog 44 3 = some (3, 3) := by kernel_rfl
theorem xfn : xz Tryd.prog 44 4 = some (4, 39) := by kernel_rfl
theorem x6i : xz Tryd.prog 44 5 = some (5, 40) := by kernel_rfl
theorem xzm : xz Tryd.prog 44 6 = some (6, 42) := by kernel_rfl
theorem xbo : xod Tryd.prog 44 = some 144 := by kernel_rfl
theorem xxi : aggN Tryd.prog 51 = some (true, 3) := by kernel_rfl
theorem xzf : xz Tryd.prog 51 0 = some (0, 3) := by kernel_rfl
theorem xej : xz Tryd.prog 51 1 = some (1, 3) := by kernel_rfl
theorem x7l : xz Tryd.prog 51 2 = some (2, 9) := by kernel_rfl
theorem xvi : xw Tryd.prog 54 = some 81 := by kernel_rfl
theorem xvb : aggN Tryd.prog 57 = some (true, 4) := by kernel_rfl
theorem x3x : xw Tryd.prog 57 = none := by kernel_rfl
theorem xez : arrOfT Tryd.prog 57 = some (4, 3) := by kernel_rfl
theorem xcr : aggN Tryd.prog 58 = some (true, 12) := by kernel_rfl
theorem xkb : arrOfT Tryd.prog 58 = some (3, 57) := by kernel_rfl
theorem xf4 : aggN Tryd.prog 63 = some (true, 3) := by kernel_rfl
theorem xax : xw Tryd.prog 63 = none := by kernel_rfl
theorem xlz : arrOfT Tryd.prog 63 = some (3, 3) := by kernel_rfl
theorem xpn : aggN Tryd.prog 81 = some (true, 4) := by kernel_rfl
theorem x1u : xod Tryd.prog 81 = some 32 := by kernel_rfl
theorem xqn : aggN Tryd.prog 82 = some (false, 1) := by kernel_rfl
theorem xsi : xw Tryd.prog 82 = some 4 := by kernel_rfl
theorem xnn : aggN Tryd.prog 84 = some (true, 7) := by kernel_rfl
theorem xbt : xz Tryd.prog 84 0 = some (0, 37) := by kernel_rfl
theorem xot : xz Tryd.prog 84 1 = some (6, 82) := by kernel_rfl
theorem x8n : xw Tryd.prog 128 = some 3 := by kernel_rfl
theorem xjt : aggN Tryd.prog 129 = some (false, 1) := by kernel_rfl
theorem xft : aggN Tryd.prog 146 = some (false, 1) := by kernel_rfl
theorem xyk : aggN Tryd.prog 147 = some (false, 1) := by kernel_rfl
theorem xof : xw Tryd.prog 147 = some 153 := by kernel_rfl
theorem xro : aggN Tryd.prog 148 = some (false, 1) := by kernel_rfl
theorem x9n : xw Tryd.prog 148 = some 162 := by kernel_rfl
theorem xw1 : aggN Tryd.prog 150 = some (true, 4) := by kernel_rfl
theorem xgl : xz Tryd.prog 150 0 = some (0, 34) := by kernel_rfl
theorem xol : xz Tryd.prog 150 1 = some (1, 147) := by kernel_rfl
theorem xps : xz Tryd.prog 150 2 = some (2, 146) := by kernel_rfl
theorem xws : xz Tryd.prog 150 3 = some (3, 148) := by kernel_rfl
theorem x2f : aggN Tryd.prog 153 = some (true, 3) := by kernel_rfl
theorem xss : xz Tryd.prog 153 0 = some (0, 3) := by kernel_rfl
theorem xxt : xod Tryd.prog 153 = some 32 := by kernel_rfl
theorem x7t : aggN Tryd.prog 162 = some (true, 2) := by kernel_rfl
theorem x6t : xod Tryd.prog 162 = some 16 := by kernel_rfl
end Go.Proofs.YtefdlpandfhcgaaDoor.AL

