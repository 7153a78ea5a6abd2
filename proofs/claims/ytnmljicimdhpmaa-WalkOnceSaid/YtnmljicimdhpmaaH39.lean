/- A law of the given program is proved: part 39 of 49. -/
import Derived.Test.YtnmljicimdhpmaaChecked
import Derived.Test.YtnmljicimdhpmaaH38
set_option linter.all false
/- AL: the functions of this seat's translation in AL's short form, written by gencode.py out of Lean's own print of them; each with the fact that it is so. -/
set_option maxRecDepth 100000
namespace Go.Proofs.Ytnmljicimdhpmaa.AL
open Go Go.Proofs
/-- craquelure/craquelurelaw13.WalkOnce -/
def c_law13_WalkOnce : AC := (.seq (.region [⟨.box 26 (.tmp 0), some 3, none⟩,
  ⟨.assign (.const (Value.bool false)), some 6, none⟩])
 (.seq (.seq (.region [⟨.load 26 (.tmp 3), some 14, none⟩,
  ⟨.call (Go.Call.mk (.value (.func 20)) #[.tmp 14, .const (Value.int .i64 24)] #[26, 3]), some 15, none⟩,
  ⟨.unOp .not 4 (.tmp 15), some 16, none⟩,
  ⟨.move (.tmp 16), some 17, none⟩,
  ⟨.move (.tmp 1), some 18, (some (17, false))⟩,
  ⟨.call (Go.Call.mk (.builtin .len) #[.tmp 18] #[63]), some 19, (some (17, false))⟩,
  ⟨.binOp .gtr 3 (.tmp 19) (.const (Value.int .i64 10)) 3, some 20, (some (17, false))⟩,
  ⟨.pick (.tmp 17) (.const (Value.bool true)) (.tmp 20), some 21, none⟩])
 (.cond (.tmp 21) (.seq (.region [⟨.call (Go.Call.mk (.value (.func 34)) #[] #[]), some 22, none⟩,
  ⟨.assign (.tmp 22), some 6, none⟩])
 .ret)
 .skip))
 (.seq (.region [⟨.load 26 (.tmp 3), some 23, none⟩,
  ⟨.move (.tmp 1), some 24, none⟩,
  ⟨.call (Go.Call.mk (.value (.func 22)) #[.tmp 23, .tmp 24] #[26, 63]), some 25, none⟩,
  ⟨.assign (.tmp 25), some 7, none⟩])
 (.seq (.seq (.region [⟨.move (.tmp 7), some 26, none⟩,
  ⟨.call (Go.Call.mk (.builtin .len) #[.tmp 26] #[49]), some 27, none⟩,
  ⟨.move (.const (Value.int .i64 0)), some 28, none⟩])
 (.block 0 (.loop (.seq (.region [⟨.binOp .lss 3 (.tmp 28) (.tmp 27) 3, some 29, none⟩])
 (.seq (.cond (.tmp 29) .skip
 (.exit 0))
 (.seq (.block 1 (.seq (.region [⟨.move (.tmp 28), some 30, none⟩,
  ⟨.indexAddr 49 (.tmp 26) (.tmp 28), some 31, none⟩,
  ⟨.load 52 (.tmp 31), some 32, none⟩,
  ⟨.alloc 52, some 9, none⟩,
  ⟨.assign (.tmp 30), some 8, none⟩,
  ⟨.store 52 (.tmp 9) (.tmp 32), none, none⟩])
 (.seq (.region [⟨.move (.tmp 7), some 33, none⟩,
  ⟨.move (.tmp 8), some 34, none⟩,
  ⟨.slice 49 (.tmp 33) none (some (.tmp 34)) none, some 35, none⟩,
  ⟨.makeFunc (.func 50) #[] #[.tmp 9], some 36, none⟩,
  ⟨.call (Go.Call.mk (.value (.func 49)) #[.tmp 35, .tmp 36] #[49, 81]), some 37, none⟩,
  ⟨.move (.tmp 37), some 38, none⟩,
  ⟨.fieldAddr 52 (.tmp 9) 1, some 39, (some (38, false))⟩,
  ⟨.load 3 (.tmp 39), some 40, (some (38, false))⟩,
  ⟨.move (.tmp 8), some 41, (some (38, false))⟩,
  ⟨.binOp .geq 3 (.tmp 40) (.tmp 41) 3, some 42, (some (38, false))⟩,
  ⟨.pick (.tmp 38) (.const (Value.bool true)) (.tmp 42), some 43, none⟩,
  ⟨.move (.tmp 43), some 44, none⟩,
  ⟨.fieldAddr 52 (.tmp 9) 0, some 45, (some (44, false))⟩,
  ⟨.load 3 (.tmp 45), some 46, (some (44, false))⟩,
  ⟨.binOp .lss 3 (.tmp 46) (.const (Value.int .i64 1)) 3, some 47, (some (44, false))⟩,
  ⟨.pick (.tmp 44) (.const (Value.bool true)) (.tmp 47), some 48, none⟩,
  ⟨.move (.tmp 48), some 49, none⟩,
  ⟨.fieldAddr 52 (.tmp 9) 0, some 50, (some (49, false))⟩,
  ⟨.load 3 (.tmp 50), some 51, (some (49, false))⟩,
  ⟨.fieldAddr 26 (.tmp 3) 0, some 52, (some (49, false))⟩,
  ⟨.load 24 (.tmp 52), some 53, (some (49, false))⟩,
  ⟨.call (Go.Call.mk (.builtin .len) #[.tmp 53] #[24]), some 54, (some (49, false))⟩,
  ⟨.binOp .gtr 3 (.tmp 51) (.tmp 54) 3, some 55, (some (49, false))⟩,
  ⟨.pick (.tmp 49) (.const (Value.bool true)) (.tmp 55), some 56, none⟩,
  ⟨.move (.tmp 56), some 57, none⟩,
  ⟨.fieldAddr 52 (.tmp 9) 1, some 58, (some (57, false))⟩,
  ⟨.load 3 (.tmp 58), some 59, (some (57, false))⟩,
  ⟨.binOp .lss 3 (.tmp 59) (.const (Value.int .i64 0)) 3, some 60, (some (57, false))⟩,
  ⟨.move (.tmp 60), some 61, (some (57, false))⟩,
  ⟨.move (.tmp 1), some 62, (some (61, true))⟩,
  ⟨.fieldAddr 52 (.tmp 9) 0, some 63, (some (61, true))⟩,
  ⟨.load 3 (.tmp 63), some 64, (some (61, true))⟩,
  ⟨.call (Go.Call.mk (.value (.func 51)) #[.tmp 62, .tmp 64] #[63, 3]), some 65, (some (61, true))⟩,
  ⟨.unOp .not 4 (.tmp 65), some 66, (some (61, true))⟩,
  ⟨.pick (.tmp 61) (.tmp 66) (.const (Value.bool false)), some 67, (some (57, false))⟩,
  ⟨.pick (.tmp 57) (.const (Value.bool true)) (.tmp 67), some 68, none⟩])
 (.cond (.tmp 68) (.seq (.region [⟨.assign (.const (Value.bool false)), some 6, none⟩])
 .ret)
 .skip))))
 (.region [⟨.binOp .add 3 (.tmp 28) (.const (Value.int .i64 1)) 3, some 69, none⟩,
  ⟨.move (.tmp 69), some 28, none⟩])))))))
 (.seq (.draw [⟨.load 26 (.tmp 3), some 70, none⟩,
  ⟨.move (.tmp 1), some 71, none⟩,
  ⟨.call (Go.Call.mk (.value (.func 44)) #[.tmp 70, .tmp 71] #[26, 63]), some 72, none⟩,
  ⟨.load 26 (.tmp 3), some 73, none⟩,
  ⟨.move (.tmp 1), some 74, none⟩,
  ⟨.call (Go.Call.mk (.value (.func 52)) #[.tmp 74] #[63]), some 75, none⟩,
  ⟨.move (.tmp 2), some 76, none⟩,
  ⟨.buildSlice 63 1 #[(0, .tmp 76)], some 77, none⟩,
  ⟨.call (Go.Call.mk (.builtin .append) #[.tmp 75, .tmp 77] #[63, 63]), some 78, none⟩,
  ⟨.call (Go.Call.mk (.value (.func 44)) #[.tmp 73, .tmp 78] #[26, 63]), some 79, none⟩,
  ⟨.assign (.tmp 72), some 10, none⟩,
  ⟨.assign (.tmp 79), some 11, none⟩] [0, 0, 3, 0, 0, 23, 0, 64, 247, 511, 1023, 2047] [])
 (.seq (.seq (.region [⟨.move (.tmp 10), some 80, none⟩,
  ⟨.call (Go.Call.mk (.builtin .len) #[.tmp 80] #[72]), some 81, none⟩,
  ⟨.fieldAddr 26 (.tmp 3) 0, some 82, none⟩,
  ⟨.load 24 (.tmp 82), some 83, none⟩,
  ⟨.call (Go.Call.mk (.builtin .len) #[.tmp 83] #[24]), some 84, none⟩,
  ⟨.binOp .neq 3 (.tmp 81) (.tmp 84) 3, some 85, none⟩,
  ⟨.move (.tmp 85), some 86, none⟩,
  ⟨.move (.tmp 11), some 87, (some (86, false))⟩,
  ⟨.call (Go.Call.mk (.builtin .len) #[.tmp 87] #[72]), some 88, (some (86, false))⟩,
  ⟨.move (.tmp 10), some 89, (some (86, false))⟩,
  ⟨.call (Go.Call.mk (.builtin .len) #[.tmp 89] #[72]), some 90, (some (86, false))⟩,
  ⟨.binOp .neq 3 (.tmp 88) (.tmp 90) 3, some 91, (some (86, false))⟩,
  ⟨.pick (.tmp 86) (.const (Value.bool true)) (.tmp 91), some 92, none⟩])
 (.cond (.tmp 92) (.seq (.region [⟨.assign (.const (Value.bool false)), some 6, none⟩])
 .ret)
 .skip))
 (.seq (.seq (.region [⟨.move (.tmp 10), some 93, none⟩,
  ⟨.call (Go.Call.mk (.builtin .len) #[.tmp 93] #[72]), some 94, none⟩,
  ⟨.move (.const (Value.int .i64 0)), some 95, none⟩])
 (.block 2 (.loop (.seq (.region [⟨.binOp .lss 3 (.tmp 95) (.tmp 94) 3, some 96, none⟩])
 (.seq (.cond (.tmp 96) .skip
 (.exit 2))
 (.seq (.block 3 (.seq (.region [⟨.move (.tmp 95), some 97, none⟩,
  ⟨.assign (.tmp 97), some 12, none⟩])
 (.seq (.region [⟨.move (.tmp 10), some 98, none⟩,
  ⟨.move (.tmp 12), some 99, none⟩,
  ⟨.indexAddr 72 (.tmp 98) (.tmp 99), some 100, none⟩,
  ⟨.load 4 (.tmp 100), some 101, none⟩,
  ⟨.move (.tmp 101), some 102, none⟩,
  ⟨.move (.tmp 11), some 103, (some (102, true))⟩,
  ⟨.move (.tmp 12), some 104, (some (102, true))⟩,
  ⟨.indexAddr 72 (.tmp 103) (.tmp 104), some 105, (some (102, true))⟩,
  ⟨.load 4 (.tmp 105), some 106, (some (102, true))⟩,
  ⟨.unOp .not 4 (.tmp 106), some 107, (some (102, true))⟩,
  ⟨.pick (.tmp 102) (.tmp 107) (.const (Value.bool false)), some 108, none⟩])
 (.cond (.tmp 108) (.seq (.region [⟨.assign (.const (Value.bool false)), some 6, none⟩])
 .ret)
 .skip))))
 (.region [⟨.binOp .add 3 (.tmp 95) (.const (Value.int .i64 1)) 3, some 109, none⟩,
  ⟨.move (.tmp 109), some 95, none⟩])))))))
 (.seq (.draw [⟨.load 26 (.tmp 3), some 110, none⟩,
  ⟨.move (.tmp 1), some 111, none⟩,
  ⟨.call (Go.Call.mk (.value (.func 52)) #[.tmp 111] #[63]), some 112, none⟩,
  ⟨.move (.tmp 2), some 113, none⟩,
  ⟨.buildSlice 63 1 #[(0, .tmp 113)], some 114, none⟩,
  ⟨.call (Go.Call.mk (.builtin .append) #[.tmp 112, .tmp 114] #[63, 63]), some 115, none⟩,
  ⟨.call (Go.Call.mk (.value (.func 22)) #[.tmp 110, .tmp 115] #[26, 63]), some 116, none⟩,
  ⟨.assign (.tmp 116), some 13, none⟩] [0, 0, 2, 0, 8, 30, 63, 127] [])
 (.seq (.region [⟨.move (.tmp 13), some 117, none⟩,
  ⟨.call (Go.Call.mk (.builtin .len) #[.tmp 117] #[49]), some 118, none⟩,
  ⟨.move (.tmp 7), some 119, none⟩,
  ⟨.call (Go.Call.mk (.builtin .len) #[.tmp 119] #[49]), some 120, none⟩,
  ⟨.binOp .geq 3 (.tmp 118) (.tmp 120) 3, some 121, none⟩,
  ⟨.move (.tmp 121), some 122, none⟩,
  ⟨.move (.tmp 13), some 123, (some (122, true))⟩,
  ⟨.move (.tmp 7), some 124, (some (122, true))⟩,
  ⟨.call (Go.Call.mk (.builtin .len) #[.tmp 124] #[49]), some 125, (some (122, true))⟩,
  ⟨.slice 49 (.tmp 123) none (some (.tmp 125)) none, some 126, (some (122, true))⟩,
  ⟨.move (.tmp 7), some 127, (some (122, true))⟩,
  ⟨.call (Go.Call.mk (.value (.func 39)) #[.tmp 126, .tmp 127] #[49, 49]), some 128, (some (122, true))⟩,
  ⟨.pick (.tmp 122) (.tmp 128) (.const (Value.bool false)), some 129, none⟩,
  ⟨.move (.tmp 129), some 130, none⟩,
  ⟨.call (Go.Call.mk (.value (.func 34)) #[] #[]), some 131, (some (130, true))⟩,
  ⟨.pick (.tmp 130) (.tmp 131) (.const (Value.bool false)), some 132, none⟩,
  ⟨.assign (.tmp 132), some 6, none⟩])
 .ret)))))))))
theorem fc_law13_WalkOnce : FnC Try.prog 11 133 [.tmp 6] c_law13_WalkOnce := ⟨by kernel_rfl, Try.f11, _, Try.func11, rfl, rfl, rfl, by kernel_rfl⟩
/-- craquelure/craquelureplain.Branch -/
def c_plain_Branch : AC := (.seq (.region [⟨.box 26 (.tmp 0), some 2, none⟩,
  ⟨.assign (.const (Value.bool false)), some 4, none⟩])
 (.seq (.region [⟨.fieldAddr 26 (.tmp 2) 0, some 5, none⟩,
  ⟨.load 24 (.tmp 5), some 6, none⟩,
  ⟨.call (Go.Call.mk (.builtin .len) #[.tmp 6] #[24]), some 7, none⟩,
  ⟨.move (.tmp 1), some 8, none⟩,
  ⟨.binOp .leq 3 (.tmp 7) (.tmp 8) 3, some 9, none⟩,
  ⟨.move (.tmp 9), some 10, none⟩,
  ⟨.fieldAddr 26 (.tmp 2) 0, some 11, (some (10, true))⟩,
  ⟨.load 24 (.tmp 11), some 12, (some (10, true))⟩,
  ⟨.call (Go.Call.mk (.value (.func 59)) #[.tmp 12, .func 60] #[24, 57]), some 13, (some (10, true))⟩,
  ⟨.unOp .not 4 (.tmp 13), some 14, (some (10, true))⟩,
  ⟨.pick (.tmp 10) (.tmp 14) (.const (Value.bool false)), some 15, none⟩,
  ⟨.assign (.tmp 15), some 4, none⟩])
 .ret))
theorem fc_plain_Branch : FnC Try.prog 20 16 [.tmp 4] c_plain_Branch := ⟨by kernel_rfl, Try.f20, _, Try.func20, rfl, rfl, rfl, by kernel_rfl⟩
/-- craquelure/walk.Dirs -/
def c_walk_Dirs : AC := (.seq (.region [⟨.box 26 (.tmp 0), some 2, none⟩,
  ⟨.assign (.const (Value.slice none 0 0)), some 4, none⟩])
 (.seq (.region [⟨.load 26 (.tmp 2), some 5, none⟩,
  ⟨.move (.tmp 1), some 6, none⟩,
  ⟨.call (Go.Call.mk (.value (.func 64)) #[.tmp 5, .tmp 6] #[26, 63]), some 7, none⟩,
  ⟨.nilCheck (.tmp 7), some 8, none⟩,
  ⟨.fieldAddr 96 (.tmp 8) 1, some 9, none⟩,
  ⟨.load 49 (.tmp 9), some 10, none⟩,
  ⟨.assign (.tmp 10), some 4, none⟩])
 .ret))
theorem fc_walk_Dirs : FnC Try.prog 22 11 [.tmp 4] c_walk_Dirs := ⟨by kernel_rfl, Try.f22, _, Try.func22, rfl, rfl, rfl, by kernel_rfl⟩
/-- craquelure/craquelureplain.Node -/
def c_plain_Node : AC := (.seq (.region [⟨.box 46 (.tmp 0), some 1, none⟩,
  ⟨.assign (.const (Value.bool false)), some 2, none⟩])
 (.seq (.seq (.region [⟨.fieldAddr 46 (.tmp 1) 5, some 5, none⟩,
  ⟨.load 40 (.tmp 5), some 6, none⟩,
  ⟨.call (Go.Call.mk (.builtin .len) #[.tmp 6] #[40]), some 7, none⟩,
  ⟨.move (.const (Value.int .i64 0)), some 8, none⟩])
 (.block 0 (.loop (.seq (.region [⟨.binOp .lss 3 (.tmp 8) (.tmp 7) 3, some 9, none⟩])
 (.seq (.cond (.tmp 9) .skip
 (.exit 0))
 (.seq (.block 1 (.seq (.region [⟨.move (.tmp 8), some 10, none⟩,
  ⟨.indexAddr 40 (.tmp 6) (.tmp 8), some 11, none⟩,
  ⟨.load 54 (.tmp 11), some 12, none⟩,
  ⟨.alloc 54, some 4, none⟩,
  ⟨.assign (.tmp 10), some 3, none⟩,
  ⟨.store 54 (.tmp 4) (.tmp 12), none, none⟩])
 (.seq (.draw [⟨.fieldAddr 54 (.tmp 4) 0, some 13, none⟩,
  ⟨.load 3 (.tmp 13), some 14, none⟩,
  ⟨.binOp .lss 3 (.tmp 14) (.const (Value.int .i64 0)) 3, some 15, none⟩,
  ⟨.move (.tmp 15), some 16, none⟩,
  ⟨.fieldAddr 54 (.tmp 4) 0, some 17, (some (16, false))⟩,
  ⟨.load 3 (.tmp 17), some 18, (some (16, false))⟩,
  ⟨.binOp .geq 3 (.tmp 18) (.const (Value.int .i64 16)) 3, some 19, (some (16, false))⟩,
  ⟨.pick (.tmp 16) (.const (Value.bool true)) (.tmp 19), some 20, none⟩,
  ⟨.move (.tmp 20), some 21, none⟩,
  ⟨.move (.tmp 3), some 22, (some (21, false))⟩,
  ⟨.binOp .gtr 3 (.tmp 22) (.const (Value.int .i64 0)) 3, some 23, (some (21, false))⟩,
  ⟨.move (.tmp 23), some 24, (some (21, false))⟩,
  ⟨.fieldAddr 46 (.tmp 1) 5, some 25, (some (24, true))⟩,
  ⟨.load 40 (.tmp 25), some 26, (some (24, true))⟩,
  ⟨.move (.tmp 3), some 27, (some (24, true))⟩,
  ⟨.binOp .sub 3 (.tmp 27) (.const (Value.int .i64 1)) 3, some 28, (some (24, true))⟩,
  ⟨.indexAddr 40 (.tmp 26) (.tmp 28), some 29, (some (24, true))⟩,
  ⟨.fieldAddr 54 (.tmp 29) 0, some 30, (some (24, true))⟩,
  ⟨.load 3 (.tmp 30), some 31, (some (24, true))⟩,
  ⟨.fieldAddr 54 (.tmp 4) 0, some 32, (some (24, true))⟩,
  ⟨.load 3 (.tmp 32), some 33, (some (24, true))⟩,
  ⟨.binOp .geq 3 (.tmp 31) (.tmp 33) 3, some 34, (some (24, true))⟩,
  ⟨.pick (.tmp 24) (.tmp 34) (.const (Value.bool false)), some 35, (some (21, false))⟩,
  ⟨.pick (.tmp 21) (.const (Value.bool true)) (.tmp 35), some 36, none⟩] [0, 1, 3, 7, 15, 31, 63, 127, 255, 511, 1023, 2047, 4095, 8191, 4095, 20479, 65535, 131071, 262143, 4095, 528383, 2097151, 4194303, 8388607] [false, true, false, false, false, true, false, false, false, false, false, false, false, true, false, false, false, false, true, false, true, false, false, false])
 (.cond (.tmp 36) (.seq (.region [⟨.assign (.const (Value.bool false)), some 2, none⟩])
 .ret)
 .skip))))
 (.region [⟨.binOp .add 3 (.tmp 8) (.const (Value.int .i64 1)) 3, some 37, none⟩,
  ⟨.move (.tmp 37), some 8, none⟩])))))))
 (.seq (.region [⟨.fieldAddr 46 (.tmp 1) 0, some 38, none⟩,
  ⟨.load 3 (.tmp 38), some 39, none⟩,
  ⟨.binOp .geq 3 (.tmp 39) (.const (Value.int .i64 0)) 3, some 40, none⟩,
  ⟨.move (.tmp 40), some 41, none⟩,
  ⟨.fieldAddr 46 (.tmp 1) 0, some 42, (some (41, true))⟩,
  ⟨.load 3 (.tmp 42), some 43, (some (41, true))⟩,
  ⟨.binOp .leq 3 (.tmp 43) (.const (Value.int .i64 4)) 3, some 44, (some (41, true))⟩,
  ⟨.pick (.tmp 41) (.tmp 44) (.const (Value.bool false)), some 45, none⟩,
  ⟨.move (.tmp 45), some 46, none⟩,
  ⟨.fieldAddr 46 (.tmp 1) 2, some 47, (some (46, true))⟩,
  ⟨.load 3 (.tmp 47), some 48, (some (46, true))⟩,
  ⟨.binOp .geq 3 (.tmp 48) (.const (Value.int .i64 (-9007199254740992))) 3, some 49, (some (46, true))⟩,
  ⟨.pick (.tmp 46) (.tmp 49) (.const (Value.bool false)), some 50, none⟩,
  ⟨.move (.tmp 50), some 51, none⟩,
  ⟨.fieldAddr 46 (.tmp 1) 2, some 52, (some (51, true))⟩,
  ⟨.load 3 (.tmp 52), some 53, (some (51, true))⟩,
  ⟨.binOp .leq 3 (.tmp 53) (.const (Value.int .i64 9007199254740992)) 3, some 54, (some (51, true))⟩,
  ⟨.pick (.tmp 51) (.tmp 54) (.const (Value.bool false)), some 55, none⟩,
  ⟨.move (.tmp 55), some 56, none⟩,
  ⟨.fieldAddr 46 (.tmp 1) 6, some 57, (some (56, true))⟩,
  ⟨.fieldAddr 44 (.tmp 57) 0, some 58, (some (56, true))⟩,
  ⟨.load 3 (.tmp 58), some 59, (some (56, true))⟩,
  ⟨.binOp .geq 3 (.tmp 59) (.const (Value.int .i64 0)) 3, some 60, (some (56, true))⟩,
  ⟨.pick (.tmp 56) (.tmp 60) (.const (Value.bool false)), some 61, none⟩,
  ⟨.move (.tmp 61), some 62, none⟩,
  ⟨.fieldAddr 46 (.tmp 1) 6, some 63, (some (62, true))⟩,
  ⟨.fieldAddr 44 (.tmp 63) 0, some 64, (some (62, true))⟩,
  ⟨.load 3 (.tmp 64), some 65, (some (62, true))⟩,
  ⟨.binOp .leq 3 (.tmp 65) (.const (Value.int .i64 31)) 3, some 66, (some (62, true))⟩,
  ⟨.pick (.tmp 62) (.tmp 66) (.const (Value.bool false)), some 67, none⟩,
  ⟨.move (.tmp 67), some 68, none⟩,
  ⟨.fieldAddr 46 (.tmp 1) 4, some 69, (some (68, true))⟩,
  ⟨.load 39 (.tmp 69), some 70, (some (68, true))⟩,
  ⟨.call (Go.Call.mk (.builtin .len) #[.tmp 70] #[39]), some 71, (some (68, true))⟩,
  ⟨.binOp .leq 3 (.tmp 71) (.const (Value.int .i64 300)) 3, some 72, (some (68, true))⟩,
  ⟨.pick (.tmp 68) (.tmp 72) (.const (Value.bool false)), some 73, none⟩,
  ⟨.move (.tmp 73), some 74, none⟩,
  ⟨.fieldAddr 46 (.tmp 1) 5, some 75, (some (74, true))⟩,
  ⟨.load 40 (.tmp 75), some 76, (some (74, true))⟩,
  ⟨.call (Go.Call.mk (.builtin .len) #[.tmp 76] #[40]), some 77, (some (74, true))⟩,
  ⟨.binOp .leq 3 (.tmp 77) (.const (Value.int .i64 16)) 3, some 78, (some (74, true))⟩,
  ⟨.pick (.tmp 74) (.tmp 78) (.const (Value.bool false)), some 79, none⟩,
  ⟨.move (.tmp 79), some 80, none⟩,
  ⟨.fieldAddr 46 (.tmp 1) 6, some 81, (some (80, true))⟩,
  ⟨.fieldAddr 44 (.tmp 81) 2, some 82, (some (80, true))⟩,
  ⟨.load 9 (.tmp 82), some 83, (some (80, true))⟩,
  ⟨.call (Go.Call.mk (.builtin .len) #[.tmp 83] #[9]), some 84, (some (80, true))⟩,
  ⟨.binOp .leq 3 (.tmp 84) (.const (Value.int .i64 40)) 3, some 85, (some (80, true))⟩,
  ⟨.pick (.tmp 80) (.tmp 85) (.const (Value.bool false)), some 86, none⟩,
  ⟨.move (.tmp 86), some 87, none⟩,
  ⟨.fieldAddr 46 (.tmp 1) 5, some 88, (some (87, true))⟩,
  ⟨.load 40 (.tmp 88), some 89, (some (87, true))⟩,
  ⟨.call (Go.Call.mk (.value (.func 65)) #[.tmp 89, .func 66] #[40, 100]), some 90, (some (87, true))⟩,
  ⟨.unOp .not 4 (.tmp 90), some 91, (some (87, true))⟩,
  ⟨.pick (.tmp 87) (.tmp 91) (.const (Value.bool false)), some 92, none⟩,
  ⟨.assign (.tmp 92), some 2, none⟩])
 .ret)))
theorem fc_plain_Node : FnC Try.prog 24 93 [.tmp 2] c_plain_Node := ⟨by kernel_rfl, Try.f24, _, Try.func24, rfl, rfl, rfl, by kernel_rfl⟩
/-- craquelure/craquelurelaw13.awake -/
def c_law13_awake : AC := (.seq (.region [⟨.assign (.const (Value.bool false)), some 0, none⟩])
 (.seq (.region [⟨.build 54 #[(1, .const (Value.int .i64 3)), (2, .const (Value.string (ByteArray.mk #[120])))], some 4, none⟩,
  ⟨.build 54 #[(0, .const (Value.int .i64 1)), (1, .const (Value.int .i64 1)), (2, .const (Value.string (ByteArray.mk #[121])))], some 5, none⟩,
  ⟨.buildSlice 40 2 #[(0, .tmp 4), (1, .tmp 5)], some 6, none⟩,
  ⟨.build 46 #[(0, .const (Value.int .i64 1)), (5, .tmp 6)], some 7, none⟩,
  ⟨.build 46 #[(0, .const (Value.int .i64 2))], some 8, none⟩,
  ⟨.build 54 #[(1, .const (Value.int .i64 2)), (2, .const (Value.string (ByteArray.mk #[122])))], some 9, none⟩,
  ⟨.buildSlice 40 1 #[(0, .tmp 9)], some 10, none⟩,
  ⟨.build 46 #[(0, .const (Value.int .i64 1)), (5, .tmp 10)], some 11, none⟩,
  ⟨.buildSlice 24 3 #[(0, .tmp 7), (1, .tmp 8), (2, .tmp 11)], some 12, none⟩,
  ⟨.build 26 #[(0, .tmp 12)], some 13, none⟩,
  ⟨.alloc 26, some 1, none⟩,
  ⟨.store 26 (.tmp 1) (.tmp 13), none, none⟩])
 (.seq (.draw [⟨.load 26 (.tmp 1), some 14, none⟩,
  ⟨.buildSlice 63 1 #[(0, .const (Value.int .i64 1))], some 15, none⟩,
  ⟨.call (Go.Call.mk (.value (.func 22)) #[.tmp 14, .tmp 15] #[26, 63]), some 16, none⟩,
  ⟨.load 26 (.tmp 1), some 17, none⟩,
  ⟨.buildSlice 63 1 #[(0, .const (Value.int .i64 1))], some 18, none⟩,
  ⟨.call (Go.Call.mk (.value (.func 46)) #[.tmp 17, .tmp 18] #[26, 63]), some 19, none⟩,
  ⟨.alloc 26, some 3, none⟩,
  ⟨.assign (.tmp 16), some 2, none⟩,
  ⟨.store 26 (.tmp 3) (.tmp 19), none, none⟩] [0, 0, 3, 0, 0, 31, 0, 127, 255] [true, false, true, true, false, true, false, false, true])
 (.seq (.region [⟨.fieldAddr 26 (.tmp 3) 0, some 20, none⟩,
  ⟨.load 24 (.tmp 20), some 21, none⟩,
  ⟨.call (Go.Call.mk (.builtin .len) #[.tmp 21] #[24]), some 22, none⟩,
  ⟨.binOp .eql 3 (.tmp 22) (.const (Value.int .i64 3)) 3, some 23, none⟩,
  ⟨.move (.tmp 23), some 24, none⟩,
  ⟨.move (.tmp 2), some 25, (some (24, true))⟩,
  ⟨.call (Go.Call.mk (.builtin .len) #[.tmp 25] #[49]), some 26, (some (24, true))⟩,
  ⟨.binOp .eql 3 (.tmp 26) (.const (Value.int .i64 2)) 3, some 27, (some (24, true))⟩,
  ⟨.pick (.tmp 24) (.tmp 27) (.const (Value.bool false)), some 28, none⟩,
  ⟨.move (.tmp 28), some 29, none⟩,
  ⟨.move (.tmp 2), some 30, (some (29, true))⟩,
  ⟨.indexAddr 49 (.tmp 30) (.const (Value.int .i64 1)), some 31, (some (29, true))⟩,
  ⟨.load 52 (.tmp 31), some 32, (some (29, true))⟩,
  ⟨.build 52 #[(0, .const (Value.int .i64 3)), (2, .const (Value.string (ByteArray.mk #[120])))], some 33, (some (29, true))⟩,
  ⟨.binOp .eql 52 (.tmp 32) (.tmp 33) 52, some 34, (some (29, true))⟩,
  ⟨.pick (.tmp 29) (.tmp 34) (.const (Value.bool false)), some 35, none⟩,
  ⟨.move (.tmp 35), some 36, none⟩,
  ⟨.load 26 (.tmp 1), some 37, (some (36, true))⟩,
  ⟨.buildSlice 63 1 #[(0, .const (Value.int .i64 1))], some 38, (some (36, true))⟩,
  ⟨.call (Go.Call.mk (.value (.func 41)) #[.tmp 37, .tmp 38] #[26, 63]), some 39, (some (36, true))⟩,
  ⟨.build 68 #[(0, .const (Value.int .i64 1)), (1, .const (Value.int .i64 1))], some 40, (some (36, true))⟩,
  ⟨.buildSlice 67 1 #[(0, .tmp 40)], some 41, (some (36, true))⟩,
  ⟨.call (Go.Call.mk (.value (.func 40)) #[.tmp 39, .tmp 41] #[67, 67]), some 42, (some (36, true))⟩,
  ⟨.pick (.tmp 36) (.tmp 42) (.const (Value.bool false)), some 43, none⟩,
  ⟨.move (.tmp 43), some 44, none⟩,
  ⟨.load 26 (.tmp 1), some 45, (some (44, true))⟩,
  ⟨.buildSlice 63 1 #[(0, .const (Value.int .i64 1))], some 46, (some (44, true))⟩,
  ⟨.call (Go.Call.mk (.value (.func 44)) #[.tmp 45, .tmp 46] #[26, 63]), some 47, (some (44, true))⟩,
  ⟨.buildSlice 72 3 #[(0, .const (Value.bool true)), (1, .const (Value.bool true)), (2, .const (Value.bool true))], some 48, (some (44, true))⟩,
  ⟨.call (Go.Call.mk (.value (.func 43)) #[.tmp 47, .tmp 48] #[72, 72]), some 49, (some (44, true))⟩,
  ⟨.pick (.tmp 44) (.tmp 49) (.const (Value.bool false)), some 50, none⟩,
  ⟨.move (.tmp 50), some 51, none⟩,
  ⟨.move (.tmp 2), some 52, (some (51, true))⟩,
  ⟨.call (Go.Call.mk (.value (.func 36)) #[.tmp 52, .const (Value.int .i64 1)] #[49, 3]), some 53, (some (51, true))⟩,
  ⟨.call (Go.Call.mk (.value (.func 72)) #[.tmp 53] #[60]), some 54, (some (51, true))⟩,
  ⟨.binOp .eql 9 (.tmp 54) (.const (Value.string (ByteArray.mk #[47, 120]))) 9, some 55, (some (51, true))⟩,
  ⟨.pick (.tmp 51) (.tmp 55) (.const (Value.bool false)), some 56, none⟩,
  ⟨.move (.tmp 56), some 57, none⟩,
  ⟨.fieldAddr 26 (.tmp 3) 0, some 58, (some (57, true))⟩,
  ⟨.load 24 (.tmp 58), some 59, (some (57, true))⟩,
  ⟨.indexAddr 24 (.tmp 59) (.const (Value.int .i64 0)), some 60, (some (57, true))⟩,
  ⟨.fieldAddr 46 (.tmp 60) 5, some 61, (some (57, true))⟩,
  ⟨.load 40 (.tmp 61), some 62, (some (57, true))⟩,
  ⟨.call (Go.Call.mk (.builtin .len) #[.tmp 62] #[40]), some 63, (some (57, true))⟩,
  ⟨.binOp .eql 3 (.tmp 63) (.const (Value.int .i64 1)) 3, some 64, (some (57, true))⟩,
  ⟨.pick (.tmp 57) (.tmp 64) (.const (Value.bool false)), some 65, none⟩,
  ⟨.assign (.tmp 65), some 0, none⟩])
 .ret))))
theorem fc_law13_awake : FnC Try.prog 34 66 [.tmp 0] c_law13_awake := ⟨by kernel_rfl, Try.f34, _, Try.func34, rfl, rfl, rfl, by kernel_rfl⟩
/-- craquelure/walk.Path -/
def c_walk_Path : AC := (.seq (.region [⟨.assign (.const (Value.slice none 0 0)), some 4, none⟩])
 (.seq (.region [⟨.assign (.const (Value.slice none 0 0)), some 5, none⟩])
 (.seq (.block 0 (.loop (.seq (.seq (.region [⟨.move (.tmp 1), some 7, none⟩,
  ⟨.binOp .geq 3 (.tmp 7) (.const (Value.int .i64 0)) 3, some 8, none⟩,
  ⟨.move (.tmp 8), some 9, none⟩,
  ⟨.move (.tmp 1), some 10, (some (9, true))⟩,
  ⟨.move (.tmp 0), some 11, (some (9, true))⟩,
  ⟨.call (Go.Call.mk (.builtin .len) #[.tmp 11] #[49]), some 12, (some (9, true))⟩,
  ⟨.binOp .lss 3 (.tmp 10) (.tmp 12) 3, some 13, (some (9, true))⟩,
  ⟨.pick (.tmp 9) (.tmp 13) (.const (Value.bool false)), some 14, none⟩])
 (.cond (.tmp 14) .skip
 (.exit 0)))
 (.block 1 (.seq (.region [⟨.move (.tmp 0), some 15, none⟩,
  ⟨.move (.tmp 1), some 16, none⟩,
  ⟨.indexAddr 49 (.tmp 15) (.tmp 16), some 17, none⟩,
  ⟨.load 52 (.tmp 17), some 18, none⟩,
  ⟨.alloc 52, some 6, none⟩,
  ⟨.store 52 (.tmp 6) (.tmp 18), none, none⟩])
 (.seq (.seq (.region [⟨.fieldAddr 52 (.tmp 6) 1, some 19, none⟩,
  ⟨.load 3 (.tmp 19), some 20, none⟩,
  ⟨.binOp .lss 3 (.tmp 20) (.const (Value.int .i64 0)) 3, some 21, none⟩,
  ⟨.move (.tmp 21), some 22, none⟩,
  ⟨.fieldAddr 52 (.tmp 6) 1, some 23, (some (22, false))⟩,
  ⟨.load 3 (.tmp 23), some 24, (some (22, false))⟩,
  ⟨.move (.tmp 1), some 25, (some (22, false))⟩,
  ⟨.binOp .geq 3 (.tmp 24) (.tmp 25) 3, some 26, (some (22, false))⟩,
  ⟨.pick (.tmp 22) (.const (Value.bool true)) (.tmp 26), some 27, none⟩])
 (.cond (.tmp 27) (.exit 0)
 .skip))
 (.seq (.region [⟨.move (.tmp 5), some 28, none⟩,
  ⟨.fieldAddr 52 (.tmp 6) 2, some 29, none⟩,
  ⟨.load 9 (.tmp 29), some 30, none⟩,
  ⟨.buildSlice 60 1 #[(0, .tmp 30)], some 31, none⟩,
  ⟨.call (Go.Call.mk (.builtin .append) #[.tmp 28, .tmp 31] #[60, 60]), some 32, none⟩,
  ⟨.assign (.tmp 32), some 5, none⟩])
 (.region [⟨.fieldAddr 52 (.tmp 6) 1, some 33, none⟩,
  ⟨.load 3 (.tmp 33), some 34, none⟩,
  ⟨.assign (.tmp 34), some 1, none⟩]))))))))
 (.seq (.region [⟨.move (.tmp 5), some 35, none⟩,
  ⟨.call (Go.Call.mk (.value (.func 73)) #[.tmp 35] #[60]), some 36, none⟩])
 (.seq (.region [⟨.move (.tmp 5), some 37, none⟩,
  ⟨.assign (.tmp 37), some 4, none⟩])
 .ret)))))
theorem fc_walk_Path : FnC Try.prog 36 38 [.tmp 4] c_walk_Path := ⟨by kernel_rfl, Try.f36, _, Try.func36, rfl, rfl, rfl, by kernel_rfl⟩
/-- slices.Equal[[]craquelure/api.Way,craquelure/api.Way] -/
def c_slices_Equal_api_Way_api_Way : AC := (.seq (.region [⟨.assign (.const (Value.bool false)), some 4, none⟩])
 (.seq (.seq (.region [⟨.move (.tmp 0), some 6, none⟩,
  ⟨.call (Go.Call.mk (.builtin .len) #[.tmp 6] #[49]), some 7, none⟩,
  ⟨.move (.tmp 1), some 8, none⟩,
  ⟨.call (Go.Call.mk (.builtin .len) #[.tmp 8] #[49]), some 9, none⟩,
  ⟨.binOp .neq 3 (.tmp 7) (.tmp 9) 3, some 10, none⟩])
 (.cond (.tmp 10) (.seq (.region [⟨.assign (.const (Value.bool false)), some 4, none⟩])
 .ret)
 .skip))
 (.seq (.seq (.region [⟨.move (.tmp 0), some 11, none⟩,
  ⟨.call (Go.Call.mk (.builtin .len) #[.tmp 11] #[49]), some 12, none⟩,
  ⟨.move (.const (Value.int .i64 0)), some 13, none⟩])
 (.block 0 (.loop (.seq (.region [⟨.binOp .lss 3 (.tmp 13) (.tmp 12) 3, some 14, none⟩])
 (.seq (.cond (.tmp 14) .skip
 (.exit 0))
 (.seq (.block 1 (.seq (.region [⟨.move (.tmp 13), some 15, none⟩,
  ⟨.assign (.tmp 15), some 5, none⟩])
 (.seq (.draw [⟨.move (.tmp 0), some 16, none⟩,
  ⟨.move (.tmp 5), some 17, none⟩,
  ⟨.indexAddr 49 (.tmp 16) (.tmp 17), some 18, none⟩,
  ⟨.load 52 (.tmp 18), some 19, none⟩,
  ⟨.move (.tmp 1), some 20, none⟩,
  ⟨.move (.tmp 5), some 21, none⟩,
  ⟨.indexAddr 49 (.tmp 20) (.tmp 21), some 22, none⟩,
  ⟨.load 52 (.tmp 22), some 23, none⟩,
  ⟨.binOp .neq 52 (.tmp 19) (.tmp 23) 52, some 24, none⟩] [0, 0, 3, 7, 0, 0, 48, 112, 255] [false, false, false, true, false, false, false, true, false])
 (.cond (.tmp 24) (.seq (.region [⟨.assign (.const (Value.bool false)), some 4, none⟩])
 .ret)
 .skip))))
 (.region [⟨.binOp .add 3 (.tmp 13) (.const (Value.int .i64 1)) 3, some 25, none⟩,
  ⟨.move (.tmp 25), some 13, none⟩])))))))
 (.seq (.region [⟨.assign (.const (Value.bool true)), some 4, none⟩])
 .ret))))
theorem fc_slices_Equal_api_Way_api_Way : FnC Try.prog 39 26 [.tmp 4] c_slices_Equal_api_Way_api_Way := ⟨by kernel_rfl, Try.f39, _, Try.func39, rfl, rfl, rfl, by kernel_rfl⟩
/-- slices.Equal[[][2]int,[2]int] -/
def c_slices_Equal_2_int_2_int : AC := (.seq (.region [⟨.assign (.const (Value.bool false)), some 4, none⟩])
 (.seq (.seq (.region [⟨.move (.tmp 0), some 6, none⟩,
  ⟨.call (Go.Call.mk (.builtin .len) #[.tmp 6] #[67]), some 7, none⟩,
  ⟨.move (.tmp 1), some 8, none⟩,
  ⟨.call (Go.Call.mk (.builtin .len) #[.tmp 8] #[67]), some 9, none⟩,
  ⟨.binOp .neq 3 (.tmp 7) (.tmp 9) 3, some 10, none⟩])
 (.cond (.tmp 10) (.seq (.region [⟨.assign (.const (Value.bool false)), some 4, none⟩])
 .ret)
 .skip))
 (.seq (.seq (.region [⟨.move (.tmp 0), some 11, none⟩,
  ⟨.call (Go.Call.mk (.builtin .len) #[.tmp 11] #[67]), some 12, none⟩,
  ⟨.move (.const (Value.int .i64 0)), some 13, none⟩])
 (.block 0 (.loop (.seq (.region [⟨.binOp .lss 3 (.tmp 13) (.tmp 12) 3, some 14, none⟩])
 (.seq (.cond (.tmp 14) .skip
 (.exit 0))
 (.seq (.block 1 (.seq (.region [⟨.move (.tmp 13), some 15, none⟩,
  ⟨.assign (.tmp 15), some 5, none⟩])
 (.seq (.draw [⟨.move (.tmp 0), some 16, none⟩,
  ⟨.move (.tmp 5), some 17, none⟩,
  ⟨.indexAddr 67 (.tmp 16) (.tmp 17), some 18, none⟩,
  ⟨.load 68 (.tmp 18), some 19, none⟩,
  ⟨.move (.tmp 1), some 20, none⟩,
  ⟨.move (.tmp 5), some 21, none⟩,
  ⟨.indexAddr 67 (.tmp 20) (.tmp 21), some 22, none⟩,
  ⟨.load 68 (.tmp 22), some 23, none⟩,
  ⟨.binOp .neq 68 (.tmp 19) (.tmp 23) 68, some 24, none⟩] [0, 0, 3, 7, 0, 0, 48, 112, 255] [false, false, false, true, false, false, false, true, false])
 (.cond (.tmp 24) (.seq (.region [⟨.assign (.const (Value.bool false)), some 4, none⟩])
 .ret)
 .skip))))
 (.region [⟨.binOp .add 3 (.tmp 13) (.const (Value.int .i64 1)) 3, some 25, none⟩,
  ⟨.move (.tmp 25), some 13, none⟩])))))))
 (.seq (.region [⟨.assign (.const (Value.bool true)), some 4, none⟩])
 .ret))))
theorem fc_slices_Equal_2_int_2_int : FnC Try.prog 40 26 [.tmp 4] c_slices_Equal_2_int_2_int := ⟨by kernel_rfl, Try.f40, _, Try.func40, rfl, rfl, rfl, by kernel_rfl⟩
/-- craquelure/walk.Twice -/
def c_walk_Twice : AC := (.seq (.region [⟨.box 26 (.tmp 0), some 2, none⟩,
  ⟨.assign (.const (Value.slice none 0 0)), some 4, none⟩])
 (.seq (.region [⟨.load 26 (.tmp 2), some 5, none⟩,
  ⟨.move (.tmp 1), some 6, none⟩,
  ⟨.call (Go.Call.mk (.value (.func 64)) #[.tmp 5, .tmp 6] #[26, 63]), some 7, none⟩,
  ⟨.nilCheck (.tmp 7), some 8, none⟩,
  ⟨.fieldAddr 96 (.tmp 8) 3, some 9, none⟩,
  ⟨.load 67 (.tmp 9), some 10, none⟩,
  ⟨.assign (.tmp 10), some 4, none⟩])
 .ret))
theorem fc_walk_Twice : FnC Try.prog 41 11 [.tmp 4] c_walk_Twice := ⟨by kernel_rfl, Try.f41, _, Try.func41, rfl, rfl, rfl, by kernel_rfl⟩
/-- slices.Equal[[]bool,bool] -/
def c_slices_Equal_bool_bool : AC := (.seq (.region [⟨.assign (.const (Value.bool false)), some 4, none⟩])
 (.seq (.seq (.region [⟨.move (.tmp 0), some 6, none⟩,
  ⟨.call (Go.Call.mk (.builtin .len) #[.tmp 6] #[72]), some 7, none⟩,
  ⟨.move (.tmp 1), some 8, none⟩,
  ⟨.call (Go.Call.mk (.builtin .len) #[.tmp 8] #[72]), some 9, none⟩,
  ⟨.binOp .neq 3 (.tmp 7) (.tmp 9) 3, some 10, none⟩])
 (.cond (.tmp 10) (.seq (.region [⟨.assign (.const (Value.bool false)), some 4, none⟩])
 .ret)
 .skip))
 (.seq (.seq (.region [⟨.move (.tmp 0), some 11, none⟩,
  ⟨.call (Go.Call.mk (.builtin .len) #[.tmp 11] #[72]), some 12, none⟩,
  ⟨.move (.const (Value.int .i64 0)), some 13, none⟩])
 (.block 0 (.loop (.seq (.region [⟨.binOp .lss 3 (.tmp 13) (.tmp 12) 3, some 14, none⟩])
 (.seq (.cond (.tmp 14) .skip
 (.exit 0))
 (.seq (.block 1 (.seq (.region [⟨.move (.tmp 13), some 15, none⟩,
  ⟨.assign (.tmp 15), some 5, none⟩])
 (.seq (.draw [⟨.move (.tmp 0), some 16, none⟩,
  ⟨.move (.tmp 5), some 17, none⟩,
  ⟨.indexAddr 72 (.tmp 16) (.tmp 17), some 18, none⟩,
  ⟨.load 4 (.tmp 18), some 19, none⟩,
  ⟨.move (.tmp 1), some 20, none⟩,
  ⟨.move (.tmp 5), some 21, none⟩,
  ⟨.indexAddr 72 (.tmp 20) (.tmp 21), some 22, none⟩,
  ⟨.load 4 (.tmp 22), some 23, none⟩,
  ⟨.binOp .neq 4 (.tmp 19) (.tmp 23) 4, some 24, none⟩] [0, 0, 3, 7, 0, 0, 48, 112, 255] [false, false, false, true, false, false, false, true, false])
 (.cond (.tmp 24) (.seq (.region [⟨.assign (.const (Value.bool false)), some 4, none⟩])
 .ret)
 .skip))))
 (.region [⟨.binOp .add 3 (.tmp 13) (.const (Value.int .i64 1)) 3, some 25, none⟩,
  ⟨.move (.tmp 25), some 13, none⟩])))))))
 (.seq (.region [⟨.assign (.const (Value.bool true)), some 4, none⟩])
 .ret))))
theorem fc_slices_Equal_bool_bool : FnC Try.prog 43 26 [.tmp 4] c_slices_Equal_bool_bool := ⟨by kernel_rfl, Try.f43, _, Try.func43, rfl, rfl, rfl, by kernel_rfl⟩
/-- craquelure/walk.Reach -/
def c_walk_Reach : AC := (.seq (.region [⟨.box 26 (.tmp 0), some 2, none⟩,
  ⟨.assign (.const (Value.slice none 0 0)), some 4, none⟩])
 (.seq (.region [⟨.load 26 (.tmp 2), some 5, none⟩,
  ⟨.move (.tmp 1), some 6, none⟩,
  ⟨.call (Go.Call.mk (.value (.func 64)) #[.tmp 5, .tmp 6] #[26, 63]), some 7, none⟩,
  ⟨.call (Go.Call.mk (.value (.func 75)) #[.tmp 7] #[97]), some 8, none⟩,
  ⟨.assign (.tmp 8), some 4, none⟩])
 .ret))
theorem fc_walk_Reach : FnC Try.prog 44 9 [.tmp 4] c_walk_Reach := ⟨by kernel_rfl, Try.f44, _, Try.func44, rfl, rfl, rfl, by kernel_rfl⟩
/-- craquelure/walk.Prune -/
def c_walk_Prune : AC := (.seq (.region [⟨.box 26 (.tmp 0), some 2, none⟩,
  ⟨.alloc 26, some 4, none⟩])
 (.seq (.region [⟨.load 26 (.tmp 2), some 10, none⟩,
  ⟨.move (.tmp 1), some 11, none⟩,
  ⟨.call (Go.Call.mk (.value (.func 64)) #[.tmp 10, .tmp 11] #[26, 63]), some 12, none⟩,
  ⟨.alloc 97, some 5, none⟩,
  ⟨.store 97 (.tmp 5) (.tmp 12), none, none⟩])
 (.seq (.region [⟨.load 97 (.tmp 5), some 13, none⟩,
  ⟨.call (Go.Call.mk (.value (.func 75)) #[.tmp 13] #[97]), some 14, none⟩,
  ⟨.assign (.tmp 14), some 6, none⟩])
 (.seq (.region [⟨.fieldAddr 26 (.tmp 2) 0, some 15, none⟩,
  ⟨.load 24 (.tmp 15), some 16, none⟩,
  ⟨.call (Go.Call.mk (.builtin .len) #[.tmp 16] #[24]), some 17, none⟩,
  ⟨.makeSlice 24 (.tmp 17) (.tmp 17), some 18, none⟩,
  ⟨.build 26 #[(0, .tmp 18)], some 19, none⟩,
  ⟨.alloc 26, some 7, none⟩,
  ⟨.store 26 (.tmp 7) (.tmp 19), none, none⟩])
 (.seq (.seq (.region [⟨.fieldAddr 26 (.tmp 2) 0, some 20, none⟩,
  ⟨.load 24 (.tmp 20), some 21, none⟩,
  ⟨.call (Go.Call.mk (.builtin .len) #[.tmp 21] #[24]), some 22, none⟩,
  ⟨.move (.const (Value.int .i64 0)), some 23, none⟩])
 (.block 0 (.loop (.seq (.region [⟨.binOp .lss 3 (.tmp 23) (.tmp 22) 3, some 24, none⟩])
 (.seq (.cond (.tmp 24) .skip
 (.exit 0))
 (.seq (.block 1 (.seq (.region [⟨.move (.tmp 23), some 25, none⟩,
  ⟨.indexAddr 24 (.tmp 21) (.tmp 23), some 26, none⟩,
  ⟨.load 46 (.tmp 26), some 27, none⟩,
  ⟨.alloc 3, some 8, none⟩,
  ⟨.alloc 46, some 9, none⟩,
  ⟨.store 3 (.tmp 8) (.tmp 25), none, none⟩,
  ⟨.store 46 (.tmp 9) (.tmp 27), none, none⟩])
 (.seq (.seq (.region [⟨.move (.tmp 6), some 28, none⟩,
  ⟨.load 3 (.tmp 8), some 29, none⟩,
  ⟨.indexAddr 72 (.tmp 28) (.tmp 29), some 30, none⟩,
  ⟨.load 4 (.tmp 30), some 31, none⟩,
  ⟨.unOp .not 4 (.tmp 31), some 32, none⟩])
 (.cond (.tmp 32) (.exit 1)
 .skip))
 (.seq (.region [⟨.fieldAddr 46 (.tmp 9) 4, some 33, none⟩,
  ⟨.load 39 (.tmp 33), some 34, none⟩,
  ⟨.call (Go.Call.mk (.value (.func 76)) #[.tmp 34] #[39]), some 35, none⟩,
  ⟨.fieldAddr 46 (.tmp 9) 4, some 36, none⟩,
  ⟨.store 39 (.tmp 36) (.tmp 35), none, none⟩])
 (.seq (.region [⟨.fieldAddr 46 (.tmp 9) 5, some 37, none⟩,
  ⟨.load 40 (.tmp 37), some 38, none⟩,
  ⟨.call (Go.Call.mk (.value (.func 78)) #[.tmp 38] #[40]), some 39, none⟩,
  ⟨.makeFunc (.func 79) #[] #[.tmp 5, .tmp 8], some 40, none⟩,
  ⟨.call (Go.Call.mk (.value (.func 77)) #[.tmp 39, .tmp 40] #[40, 100]), some 41, none⟩,
  ⟨.fieldAddr 46 (.tmp 9) 5, some 42, none⟩,
  ⟨.store 40 (.tmp 42) (.tmp 41), none, none⟩])
 (.region [⟨.fieldAddr 26 (.tmp 7) 0, some 43, none⟩,
  ⟨.load 24 (.tmp 43), some 44, none⟩,
  ⟨.load 3 (.tmp 8), some 45, none⟩,
  ⟨.load 46 (.tmp 9), some 46, none⟩,
  ⟨.indexAddr 24 (.tmp 44) (.tmp 45), some 47, none⟩,
  ⟨.store 46 (.tmp 47) (.tmp 46), none, none⟩]))))))
 (.region [⟨.binOp .add 3 (.tmp 23) (.const (Value.int .i64 1)) 3, some 48, none⟩,
  ⟨.move (.tmp 48), some 23, none⟩])))))))
 (.seq (.region [⟨.load 26 (.tmp 7), some 49, none⟩,
  ⟨.store 26 (.tmp 4) (.tmp 49), none, none⟩])
 .ret))))))
theorem fc_walk_Prune : FnC Try.prog 46 50 [.cell 4 26] c_walk_Prune := ⟨by kernel_rfl, Try.f46, _, Try.func46, rfl, rfl, rfl, by kernel_rfl⟩
/-- slices.ContainsFunc[[]craquelure/api.Way,craquelure/api.Way] -/
def c_slices_ContainsFunc_api_Way_api_Way : AC := (.seq (.region [⟨.assign (.const (Value.bool false)), some 4, none⟩])
 (.seq (.region [⟨.move (.tmp 0), some 5, none⟩,
  ⟨.move (.tmp 1), some 6, none⟩,
  ⟨.call (Go.Call.mk (.value (.func 83)) #[.tmp 5, .tmp 6] #[49, 81]), some 7, none⟩,
  ⟨.binOp .geq 3 (.tmp 7) (.const (Value.int .i64 0)) 3, some 8, none⟩,
  ⟨.assign (.tmp 8), some 4, none⟩])
 .ret))
theorem fc_slices_ContainsFunc_api_Way_api_Way : FnC Try.prog 49 9 [.tmp 4] c_slices_ContainsFunc_api_Way_api_Way := ⟨by kernel_rfl, Try.f49, _, Try.func49, rfl, rfl, rfl, by kernel_rfl⟩
/-- craquelure/craquelurelaw13.WalkOnce$1 -/
def c_law13_WalkOnce_1 : AC := (.seq (.region [⟨.box 52 (.tmp 0), some 2, none⟩,
  ⟨.assign (.const (Value.bool false)), some 3, none⟩])
 (.seq (.region [⟨.fieldAddr 52 (.tmp 2) 0, some 4, none⟩,
  ⟨.load 3 (.tmp 4), some 5, none⟩,
  ⟨.fieldAddr 52 (.tmp 1) 0, some 6, none⟩,
  ⟨.load 3 (.tmp 6), some 7, none⟩,
  ⟨.binOp .eql 3 (.tmp 5) (.tmp 7) 3, some 8, none⟩,
  ⟨.assign (.tmp 8), some 3, none⟩])
 .ret))
theorem fc_law13_WalkOnce_1 : FnC Try.prog 50 9 [.tmp 3] c_law13_WalkOnce_1 := ⟨by kernel_rfl, Try.f50, _, Try.func50, rfl, rfl, rfl, by kernel_rfl⟩
/-- slices.Contains[[]int,int] -/
def c_slices_Contains_int_int : AC := (.seq (.region [⟨.assign (.const (Value.bool false)), some 4, none⟩])
 (.seq (.region [⟨.move (.tmp 0), some 5, none⟩,
  ⟨.move (.tmp 1), some 6, none⟩,
  ⟨.call (Go.Call.mk (.value (.func 84)) #[.tmp 5, .tmp 6] #[63, 3]), some 7, none⟩,
  ⟨.binOp .geq 3 (.tmp 7) (.const (Value.int .i64 0)) 3, some 8, none⟩,
  ⟨.assign (.tmp 8), some 4, none⟩])
 .ret))
theorem fc_slices_Contains_int_int : FnC Try.prog 51 9 [.tmp 4] c_slices_Contains_int_int := ⟨by kernel_rfl, Try.f51, _, Try.func51, rfl, rfl, rfl, by kernel_rfl⟩
/-- slices.Clone[[]int,int] -/
def c_slices_Clone_int_int : AC := (.seq (.region [⟨.assign (.const (Value.slice none 0 0)), some 2, none⟩])
 (.seq (.seq (.region [⟨.move (.tmp 0), some 3, none⟩,
  ⟨.binOp .eql 63 (.tmp 3) (.const (Value.slice none 0 0)) 63, some 4, none⟩])
 (.cond (.tmp 4) (.seq (.region [⟨.assign (.const (Value.slice none 0 0)), some 2, none⟩])
 .ret)
 .skip))
 (.seq (.region [⟨.buildSlice 63 0 #[], some 5, none⟩,
  ⟨.move (.tmp 0), some 6, none⟩,
  ⟨.call (Go.Call.mk (.builtin .append) #[.tmp 5, .tmp 6] #[63, 63]), some 7, none⟩,
  ⟨.assign (.tmp 7), some 2, none⟩])
 .ret)))
theorem fc_slices_Clone_int_int : FnC Try.prog 52 8 [.tmp 2] c_slices_Clone_int_int := ⟨by kernel_rfl, Try.f52, _, Try.func52, rfl, rfl, rfl, by kernel_rfl⟩
end Go.Proofs.Ytnmljicimdhpmaa.AL

