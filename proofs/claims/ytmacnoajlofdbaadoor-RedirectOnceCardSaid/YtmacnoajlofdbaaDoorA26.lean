/- A law of the given program is proved: part 26 of 49. -/
import Derived.Test.YtmacnoajlofdbaaDoorChecked
import Derived.Test.YtmacnoajlofdbaaDoorA25
set_option linter.all false
/- AL: closed facts on the types and functions of this seat's translation, printed by facts.py. -/
namespace Go.Proofs.YtmacnoajlofdbaaDoor.AL
open Go Go.Proofs
set_option maxRecDepth 100000
theorem aggN_1 : aggN Tryd.prog 1 = some (false, 1) := by kernel_rfl
theorem aggN_2 : aggN Tryd.prog 2 = some (false, 1) := by kernel_rfl
theorem aggN_3 : aggN Tryd.prog 3 = some (false, 1) := by kernel_rfl
theorem xz4 : xyc Tryd.prog 3 = some 8 := by kernel_rfl
theorem aggN_4 : aggN Tryd.prog 4 = some (false, 1) := by kernel_rfl
theorem xp4 : xyc Tryd.prog 4 = some 1 := by kernel_rfl
theorem aggN_9 : aggN Tryd.prog 9 = some (false, 1) := by kernel_rfl
theorem x4y : kindOf Tryd.prog 9 = .str := by kernel_rfl
theorem x04 : xyc Tryd.prog 9 = some 16 := by kernel_rfl
theorem x2p : xv Tryd.prog 23 0 = some (0, 3) := by kernel_rfl
theorem x9z : xv Tryd.prog 23 1 = some (1, 3) := by kernel_rfl
theorem xfz : xv Tryd.prog 23 2 = some (2, 3) := by kernel_rfl
theorem xp0 : xv Tryd.prog 23 3 = some (3, 3) := by kernel_rfl
theorem xds : aggN Tryd.prog 24 = some (false, 1) := by kernel_rfl
theorem xdi : xy Tryd.prog 24 = some 47 := by kernel_rfl
theorem xck : aggN Tryd.prog 26 = some (true, 1) := by kernel_rfl
theorem x2j : xv Tryd.prog 26 0 = some (0, 24) := by kernel_rfl
theorem x32 : aggN Tryd.prog 27 = some (false, 1) := by kernel_rfl
theorem xtu : xy Tryd.prog 27 = some 26 := by kernel_rfl
theorem xel : aggN Tryd.prog 29 = some (true, 6) := by kernel_rfl
theorem x2l : xv Tryd.prog 29 0 = some (0, 23) := by kernel_rfl
theorem xwp : xv Tryd.prog 29 1 = some (4, 26) := by kernel_rfl
theorem xoq : xv Tryd.prog 29 2 = some (5, 27) := by kernel_rfl
theorem xiw : aggN Tryd.prog 32 = some (false, 1) := by kernel_rfl
theorem x8j : xy Tryd.prog 32 = some 4 := by kernel_rfl
theorem xbi : xy Tryd.prog 34 = some 3 := by kernel_rfl
theorem xli : xy Tryd.prog 35 = some 38 := by kernel_rfl
theorem xki : aggN Tryd.prog 38 = some (true, 4) := by kernel_rfl
theorem x6y : xv Tryd.prog 38 0 = some (0, 3) := by kernel_rfl
theorem x0q : xv Tryd.prog 38 2 = some (2, 3) := by kernel_rfl
theorem xy1 : xyc Tryd.prog 38 = some 32 := by kernel_rfl
theorem x02 : aggN Tryd.prog 40 = some (false, 1) := by kernel_rfl
theorem xd3 : xy Tryd.prog 40 = some 5 := by kernel_rfl
theorem xmv : aggN Tryd.prog 41 = some (false, 1) := by kernel_rfl
theorem xbl : xy Tryd.prog 41 = some 74 := by kernel_rfl
theorem xv2 : aggN Tryd.prog 43 = some (true, 3) := by kernel_rfl
theorem xvr : xv Tryd.prog 43 0 = some (0, 3) := by kernel_rfl
theorem xnz : xv Tryd.prog 43 1 = some (1, 3) := by kernel_rfl
theorem xo0 : xv Tryd.prog 43 2 = some (2, 3) := by kernel_rfl
theorem xin : aggN Tryd.prog 45 = some (true, 7) := by kernel_rfl
theorem xkl : xv Tryd.prog 45 0 = some (0, 3) := by kernel_rfl
theorem xnq : xv Tryd.prog 45 1 = some (1, 3) := by kernel_rfl
theorem xgq : xv Tryd.prog 45 2 = some (2, 9) := by kernel_rfl
theorem x5p : xv Tryd.prog 45 3 = some (3, 43) := by kernel_rfl
theorem x8p : xv Tryd.prog 45 4 = some (6, 3) := by kernel_rfl
theorem x7h : aggN Tryd.prog 47 = some (true, 13) := by kernel_rfl
theorem xyj : xv Tryd.prog 47 0 = some (0, 3) := by kernel_rfl
theorem xj0 : xv Tryd.prog 47 1 = some (1, 3) := by kernel_rfl
theorem xtq : xv Tryd.prog 47 2 = some (2, 3) := by kernel_rfl
theorem x7y : xv Tryd.prog 47 3 = some (3, 3) := by kernel_rfl
theorem xwq : xv Tryd.prog 47 4 = some (4, 40) := by kernel_rfl
theorem x3l : xv Tryd.prog 47 5 = some (5, 41) := by kernel_rfl
theorem xyr : xv Tryd.prog 47 6 = some (6, 45) := by kernel_rfl
theorem x0s : xyc Tryd.prog 47 = some 144 := by kernel_rfl
theorem xnf : xy Tryd.prog 61 = some 9 := by kernel_rfl
theorem x4r : aggN Tryd.prog 63 = some (false, 1) := by kernel_rfl
theorem x8h : xy Tryd.prog 63 = some 65 := by kernel_rfl
theorem xkj : aggN Tryd.prog 65 = some (true, 2) := by kernel_rfl
theorem xf1 : xv Tryd.prog 65 0 = some (0, 3) := by kernel_rfl
theorem x40 : xv Tryd.prog 65 1 = some (1, 3) := by kernel_rfl
theorem x4s : xyc Tryd.prog 65 = some 16 := by kernel_rfl
theorem xgn : aggN Tryd.prog 68 = some (false, 1) := by kernel_rfl
theorem xni : xy Tryd.prog 68 = some 71 := by kernel_rfl
theorem xhj : aggN Tryd.prog 71 = some (true, 3) := by kernel_rfl
theorem xfq : xv Tryd.prog 71 0 = some (0, 3) := by kernel_rfl
theorem xyq : xv Tryd.prog 71 1 = some (1, 3) := by kernel_rfl
theorem x5y : xv Tryd.prog 71 2 = some (2, 9) := by kernel_rfl
theorem xh2 : xyc Tryd.prog 71 = some 32 := by kernel_rfl
theorem xfl : aggN Tryd.prog 74 = some (true, 3) := by kernel_rfl
theorem x5j : xv Tryd.prog 74 0 = some (0, 3) := by kernel_rfl
theorem xnl : xv Tryd.prog 74 1 = some (1, 3) := by kernel_rfl
theorem x1l : xv Tryd.prog 74 2 = some (2, 9) := by kernel_rfl
theorem xx2 : aggN Tryd.prog 75 = some (false, 1) := by kernel_rfl
theorem xdl : xy Tryd.prog 75 = some 112 := by kernel_rfl
theorem xas : aggN Tryd.prog 77 = some (true, 8) := by kernel_rfl
theorem x70 : xv Tryd.prog 77 0 = some (0, 29) := by kernel_rfl
theorem x0y : xv Tryd.prog 77 1 = some (6, 68) := by kernel_rfl
theorem xb0 : xv Tryd.prog 77 2 = some (7, 75) := by kernel_rfl
theorem xr2 : aggN Tryd.prog 79 = some (false, 1) := by kernel_rfl
theorem xlv : aggN Tryd.prog 94 = some (false, 1) := by kernel_rfl
theorem xmu : xy Tryd.prog 94 = some 114 := by kernel_rfl
theorem x1y : aggN Tryd.prog 101 = some (false, 1) := by kernel_rfl
theorem xrh : aggN Tryd.prog 112 = some (true, 2) := by kernel_rfl
theorem x7x : xv Tryd.prog 112 0 = some (0, 3) := by kernel_rfl
theorem x2o : xv Tryd.prog 112 1 = some (1, 63) := by kernel_rfl
theorem x3y : xyc Tryd.prog 112 = some 32 := by kernel_rfl
theorem xt0 : aggN Tryd.prog 114 = some (true, 2) := by kernel_rfl
theorem xv0 : xyc Tryd.prog 114 = some 16 := by kernel_rfl
theorem xro : aggN Tryd.prog 116 = some (true, 6) := by kernel_rfl
theorem xsy : xv Tryd.prog 116 0 = some (0, 29) := by kernel_rfl
theorem xj8 : aggN Tryd.prog 122 = some (true, 4) := by kernel_rfl
theorem x5o : xv Tryd.prog 122 0 = some (0, 26) := by kernel_rfl
theorem x3o : xv Tryd.prog 122 1 = some (1, 68) := by kernel_rfl
theorem xcy : xv Tryd.prog 122 2 = some (2, 79) := by kernel_rfl
theorem xmy : xv Tryd.prog 122 3 = some (3, 94) := by kernel_rfl
theorem xxs : xy Tryd.prog 142 = some 26 := by kernel_rfl
end Go.Proofs.YtmacnoajlofdbaaDoor.AL

