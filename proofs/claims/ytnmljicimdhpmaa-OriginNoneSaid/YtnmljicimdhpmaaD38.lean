/- A law of the given program is proved: part 38 of 51. -/
import Derived.Test.YtnmljicimdhpmaaChecked
import Derived.Test.YtnmljicimdhpmaaD37
set_option linter.all false
/- AL: the functions of this seat's translation in AL's short form, written by gencode.py out of Lean's own print of them; each with the fact that it is so. -/
set_option maxRecDepth 100000
namespace Go.Proofs.Ytnmljicimdhpmaa.AL
open Go Go.Proofs
/-- craquelure/craquelurelaw22.OriginNone -/
def c_law22_OriginNone : AC := (.seq (.region [⟨.box 29 (.tmp 0), some 1, none⟩,
  ⟨.assign (.const (Value.bool false)), some 2, none⟩])
 (.seq (.seq (.region [⟨.load 29 (.tmp 1), some 5, none⟩,
  ⟨.call (Go.Call.mk (.value (.func 12)) #[.tmp 5, .const (Value.int .i64 24)] #[29, 3]), some 6, none⟩,
  ⟨.unOp .not 4 (.tmp 6), some 7, none⟩])
 (.cond (.tmp 7) (.seq (.region [⟨.call (Go.Call.mk (.value (.func 25)) #[] #[]), some 8, none⟩,
  ⟨.assign (.tmp 8), some 2, none⟩])
 .ret)
 .skip))
 (.seq (.region [⟨.fieldAddr 29 (.tmp 1) 1, some 9, none⟩,
  ⟨.fieldAddr 26 (.tmp 9) 0, some 10, none⟩,
  ⟨.load 24 (.tmp 10), some 11, none⟩,
  ⟨.call (Go.Call.mk (.value (.func 19)) #[.tmp 11] #[24]), some 12, none⟩,
  ⟨.fieldAddr 29 (.tmp 1) 1, some 13, none⟩,
  ⟨.fieldAddr 26 (.tmp 13) 0, some 14, none⟩,
  ⟨.store 24 (.tmp 14) (.tmp 12), none, none⟩])
 (.seq (.seq (.region [⟨.fieldAddr 29 (.tmp 1) 1, some 15, none⟩,
  ⟨.fieldAddr 26 (.tmp 15) 0, some 16, none⟩,
  ⟨.load 24 (.tmp 16), some 17, none⟩,
  ⟨.call (Go.Call.mk (.builtin .len) #[.tmp 17] #[24]), some 18, none⟩,
  ⟨.move (.const (Value.int .i64 0)), some 19, none⟩])
 (.block 0 (.loop (.seq (.region [⟨.binOp .lss 3 (.tmp 19) (.tmp 18) 3, some 20, none⟩])
 (.seq (.cond (.tmp 20) .skip
 (.exit 0))
 (.seq (.block 1 (.seq (.region [⟨.move (.tmp 19), some 21, none⟩,
  ⟨.indexAddr 24 (.tmp 17) (.tmp 19), some 22, none⟩,
  ⟨.load 46 (.tmp 22), some 23, none⟩,
  ⟨.alloc 46, some 4, none⟩,
  ⟨.assign (.tmp 21), some 3, none⟩,
  ⟨.store 46 (.tmp 4) (.tmp 23), none, none⟩])
 (.seq (.region [⟨.fieldAddr 29 (.tmp 1) 1, some 24, none⟩,
  ⟨.fieldAddr 26 (.tmp 24) 0, some 25, none⟩,
  ⟨.load 24 (.tmp 25), some 26, none⟩,
  ⟨.move (.tmp 3), some 27, none⟩,
  ⟨.build 44 #[], some 28, none⟩,
  ⟨.indexAddr 24 (.tmp 26) (.tmp 27), some 29, none⟩,
  ⟨.fieldAddr 46 (.tmp 29) 6, some 30, none⟩,
  ⟨.store 44 (.tmp 30) (.tmp 28), none, none⟩])
 (.seq (.region [⟨.fieldAddr 46 (.tmp 4) 6, some 31, none⟩,
  ⟨.load 44 (.tmp 31), some 32, none⟩,
  ⟨.build 44 #[], some 33, none⟩,
  ⟨.binOp .eql 44 (.tmp 32) (.tmp 33) 44, some 34, none⟩,
  ⟨.move (.tmp 34), some 35, none⟩,
  ⟨.load 46 (.tmp 4), some 36, (some (35, true))⟩,
  ⟨.call (Go.Call.mk (.value (.func 28)) #[.tmp 36] #[46]), some 37, (some (35, true))⟩,
  ⟨.move (.tmp 37), some 38, (some (35, true))⟩,
  ⟨.load 29 (.tmp 1), some 39, (some (38, false))⟩,
  ⟨.load 46 (.tmp 4), some 40, (some (38, false))⟩,
  ⟨.call (Go.Call.mk (.value (.func 30)) #[.tmp 39, .tmp 40] #[29, 46]), some 41, (some (38, false))⟩,
  ⟨.pick (.tmp 38) (.const (Value.bool true)) (.tmp 41), some 42, (some (35, true))⟩,
  ⟨.move (.tmp 42), some 43, (some (35, true))⟩,
  ⟨.load 29 (.tmp 1), some 44, (some (43, false))⟩,
  ⟨.load 46 (.tmp 4), some 45, (some (43, false))⟩,
  ⟨.call (Go.Call.mk (.value (.func 32)) #[.tmp 44, .tmp 45] #[29, 46]), some 46, (some (43, false))⟩,
  ⟨.pick (.tmp 43) (.const (Value.bool true)) (.tmp 46), some 47, (some (35, true))⟩,
  ⟨.pick (.tmp 35) (.tmp 47) (.const (Value.bool false)), some 48, none⟩])
 (.cond (.tmp 48) (.seq (.region [⟨.assign (.const (Value.bool false)), some 2, none⟩])
 .ret)
 .skip)))))
 (.region [⟨.binOp .add 3 (.tmp 19) (.const (Value.int .i64 1)) 3, some 49, none⟩,
  ⟨.move (.tmp 49), some 19, none⟩])))))))
 (.seq (.region [⟨.load 29 (.tmp 1), some 50, none⟩,
  ⟨.call (Go.Call.mk (.value (.func 26)) #[.tmp 50] #[29]), some 51, none⟩,
  ⟨.call (Go.Call.mk (.builtin .len) #[.tmp 51] #[33]), some 52, none⟩,
  ⟨.binOp .eql 3 (.tmp 52) (.const (Value.int .i64 0)) 3, some 53, none⟩,
  ⟨.move (.tmp 53), some 54, none⟩,
  ⟨.call (Go.Call.mk (.value (.func 25)) #[] #[]), some 55, (some (54, true))⟩,
  ⟨.pick (.tmp 54) (.tmp 55) (.const (Value.bool false)), some 56, none⟩,
  ⟨.assign (.tmp 56), some 2, none⟩])
 .ret)))))
theorem fc_law22_OriginNone : FnC Try.prog 7 57 [.tmp 2] c_law22_OriginNone := ⟨by kernel_rfl, Try.f7, _, Try.func7, rfl, rfl, rfl, by kernel_rfl⟩
/-- craquelure/craquelureplain.Stack -/
def c_plain_Stack : AC := (.seq (.region [⟨.box 29 (.tmp 0), some 2, none⟩,
  ⟨.box 3 (.tmp 1), some 3, none⟩,
  ⟨.assign (.const (Value.bool false)), some 4, none⟩])
 (.seq (.region [⟨.fieldAddr 29 (.tmp 2) 2, some 5, none⟩,
  ⟨.load 27 (.tmp 5), some 6, none⟩,
  ⟨.call (Go.Call.mk (.builtin .len) #[.tmp 6] #[27]), some 7, none⟩,
  ⟨.binOp .leq 3 (.tmp 7) (.const (Value.int .i64 3)) 3, some 8, none⟩,
  ⟨.move (.tmp 8), some 9, none⟩,
  ⟨.fieldAddr 29 (.tmp 2) 1, some 10, (some (9, true))⟩,
  ⟨.load 26 (.tmp 10), some 11, (some (9, true))⟩,
  ⟨.load 3 (.tmp 3), some 12, (some (9, true))⟩,
  ⟨.call (Go.Call.mk (.value (.func 20)) #[.tmp 11, .tmp 12] #[26, 3]), some 13, (some (9, true))⟩,
  ⟨.pick (.tmp 9) (.tmp 13) (.const (Value.bool false)), some 14, none⟩,
  ⟨.move (.tmp 14), some 15, none⟩,
  ⟨.fieldAddr 29 (.tmp 2) 2, some 16, (some (15, true))⟩,
  ⟨.load 27 (.tmp 16), some 17, (some (15, true))⟩,
  ⟨.makeFunc (.func 54) #[] #[.tmp 3], some 18, (some (15, true))⟩,
  ⟨.call (Go.Call.mk (.value (.func 53)) #[.tmp 17, .tmp 18] #[27, 56]), some 19, (some (15, true))⟩,
  ⟨.unOp .not 4 (.tmp 19), some 20, (some (15, true))⟩,
  ⟨.pick (.tmp 15) (.tmp 20) (.const (Value.bool false)), some 21, none⟩,
  ⟨.assign (.tmp 21), some 4, none⟩])
 .ret))
theorem fc_plain_Stack : FnC Try.prog 12 22 [.tmp 4] c_plain_Stack := ⟨by kernel_rfl, Try.f12, _, Try.func12, rfl, rfl, rfl, by kernel_rfl⟩
/-- slices.Equal[[]craquelure/api.Finding,craquelure/api.Finding] -/
def c_slices_Equal_api_Finding_api_Finding : AC := (.seq (.region [⟨.assign (.const (Value.bool false)), some 4, none⟩])
 (.seq (.seq (.region [⟨.move (.tmp 0), some 6, none⟩,
  ⟨.call (Go.Call.mk (.builtin .len) #[.tmp 6] #[33]), some 7, none⟩,
  ⟨.move (.tmp 1), some 8, none⟩,
  ⟨.call (Go.Call.mk (.builtin .len) #[.tmp 8] #[33]), some 9, none⟩,
  ⟨.binOp .neq 3 (.tmp 7) (.tmp 9) 3, some 10, none⟩])
 (.cond (.tmp 10) (.seq (.region [⟨.assign (.const (Value.bool false)), some 4, none⟩])
 .ret)
 .skip))
 (.seq (.seq (.region [⟨.move (.tmp 0), some 11, none⟩,
  ⟨.call (Go.Call.mk (.builtin .len) #[.tmp 11] #[33]), some 12, none⟩,
  ⟨.move (.const (Value.int .i64 0)), some 13, none⟩])
 (.block 0 (.loop (.seq (.region [⟨.binOp .lss 3 (.tmp 13) (.tmp 12) 3, some 14, none⟩])
 (.seq (.cond (.tmp 14) .skip
 (.exit 0))
 (.seq (.block 1 (.seq (.region [⟨.move (.tmp 13), some 15, none⟩,
  ⟨.assign (.tmp 15), some 5, none⟩])
 (.seq (.draw [⟨.move (.tmp 0), some 16, none⟩,
  ⟨.move (.tmp 5), some 17, none⟩,
  ⟨.indexAddr 33 (.tmp 16) (.tmp 17), some 18, none⟩,
  ⟨.load 35 (.tmp 18), some 19, none⟩,
  ⟨.move (.tmp 1), some 20, none⟩,
  ⟨.move (.tmp 5), some 21, none⟩,
  ⟨.indexAddr 33 (.tmp 20) (.tmp 21), some 22, none⟩,
  ⟨.load 35 (.tmp 22), some 23, none⟩,
  ⟨.binOp .neq 35 (.tmp 19) (.tmp 23) 35, some 24, none⟩] [0, 0, 3, 7, 0, 0, 48, 112, 255] [false, false, false, true, false, false, false, true, false])
 (.cond (.tmp 24) (.seq (.region [⟨.assign (.const (Value.bool false)), some 4, none⟩])
 .ret)
 .skip))))
 (.region [⟨.binOp .add 3 (.tmp 13) (.const (Value.int .i64 1)) 3, some 25, none⟩,
  ⟨.move (.tmp 25), some 13, none⟩])))))))
 (.seq (.region [⟨.assign (.const (Value.bool true)), some 4, none⟩])
 .ret))))
theorem fc_slices_Equal_api_Finding_api_Finding : FnC Try.prog 14 26 [.tmp 4] c_slices_Equal_api_Finding_api_Finding := ⟨by kernel_rfl, Try.f14, _, Try.func14, rfl, rfl, rfl, by kernel_rfl⟩
/-- slices.Clone[[]craquelure/api.Node,craquelure/api.Node] -/
def c_slices_Clone_api_Node_api_Node : AC := (.seq (.region [⟨.assign (.const (Value.slice none 0 0)), some 2, none⟩])
 (.seq (.seq (.region [⟨.move (.tmp 0), some 3, none⟩,
  ⟨.binOp .eql 24 (.tmp 3) (.const (Value.slice none 0 0)) 24, some 4, none⟩])
 (.cond (.tmp 4) (.seq (.region [⟨.assign (.const (Value.slice none 0 0)), some 2, none⟩])
 .ret)
 .skip))
 (.seq (.region [⟨.buildSlice 24 0 #[], some 5, none⟩,
  ⟨.move (.tmp 0), some 6, none⟩,
  ⟨.call (Go.Call.mk (.builtin .append) #[.tmp 5, .tmp 6] #[24, 24]), some 7, none⟩,
  ⟨.assign (.tmp 7), some 2, none⟩])
 .ret)))
theorem fc_slices_Clone_api_Node_api_Node : FnC Try.prog 19 8 [.tmp 2] c_slices_Clone_api_Node_api_Node := ⟨by kernel_rfl, Try.f19, _, Try.func19, rfl, rfl, rfl, by kernel_rfl⟩
/-- craquelure/craquelureplain.Branch -/
def c_plain_Branch : AC := (.seq (.region [⟨.box 26 (.tmp 0), some 2, none⟩,
  ⟨.assign (.const (Value.bool false)), some 4, none⟩])
 (.seq (.region [⟨.fieldAddr 26 (.tmp 2) 0, some 5, none⟩,
  ⟨.load 24 (.tmp 5), some 6, none⟩,
  ⟨.call (Go.Call.mk (.builtin .len) #[.tmp 6] #[24]), some 7, none⟩,
  ⟨.move (.tmp 1), some 8, none⟩,
  ⟨.binOp .leq 3 (.tmp 7) (.tmp 8) 3, some 9, none⟩,
  ⟨.move (.tmp 9), some 10, none⟩,
  ⟨.fieldAddr 26 (.tmp 2) 0, some 11, (some (10, true))⟩,
  ⟨.load 24 (.tmp 11), some 12, (some (10, true))⟩,
  ⟨.call (Go.Call.mk (.value (.func 59)) #[.tmp 12, .func 60] #[24, 57]), some 13, (some (10, true))⟩,
  ⟨.unOp .not 4 (.tmp 13), some 14, (some (10, true))⟩,
  ⟨.pick (.tmp 10) (.tmp 14) (.const (Value.bool false)), some 15, none⟩,
  ⟨.assign (.tmp 15), some 4, none⟩])
 .ret))
theorem fc_plain_Branch : FnC Try.prog 20 16 [.tmp 4] c_plain_Branch := ⟨by kernel_rfl, Try.f20, _, Try.func20, rfl, rfl, rfl, by kernel_rfl⟩
/-- craquelure/craquelureplain.Node -/
def c_plain_Node : AC := (.seq (.region [⟨.box 46 (.tmp 0), some 1, none⟩,
  ⟨.assign (.const (Value.bool false)), some 2, none⟩])
 (.seq (.seq (.region [⟨.fieldAddr 46 (.tmp 1) 5, some 5, none⟩,
  ⟨.load 40 (.tmp 5), some 6, none⟩,
  ⟨.call (Go.Call.mk (.builtin .len) #[.tmp 6] #[40]), some 7, none⟩,
  ⟨.move (.const (Value.int .i64 0)), some 8, none⟩])
 (.block 0 (.loop (.seq (.region [⟨.binOp .lss 3 (.tmp 8) (.tmp 7) 3, some 9, none⟩])
 (.seq (.cond (.tmp 9) .skip
 (.exit 0))
 (.seq (.block 1 (.seq (.region [⟨.move (.tmp 8), some 10, none⟩,
  ⟨.indexAddr 40 (.tmp 6) (.tmp 8), some 11, none⟩,
  ⟨.load 54 (.tmp 11), some 12, none⟩,
  ⟨.alloc 54, some 4, none⟩,
  ⟨.assign (.tmp 10), some 3, none⟩,
  ⟨.store 54 (.tmp 4) (.tmp 12), none, none⟩])
 (.seq (.draw [⟨.fieldAddr 54 (.tmp 4) 0, some 13, none⟩,
  ⟨.load 3 (.tmp 13), some 14, none⟩,
  ⟨.binOp .lss 3 (.tmp 14) (.const (Value.int .i64 0)) 3, some 15, none⟩,
  ⟨.move (.tmp 15), some 16, none⟩,
  ⟨.fieldAddr 54 (.tmp 4) 0, some 17, (some (16, false))⟩,
  ⟨.load 3 (.tmp 17), some 18, (some (16, false))⟩,
  ⟨.binOp .geq 3 (.tmp 18) (.const (Value.int .i64 16)) 3, some 19, (some (16, false))⟩,
  ⟨.pick (.tmp 16) (.const (Value.bool true)) (.tmp 19), some 20, none⟩,
  ⟨.move (.tmp 20), some 21, none⟩,
  ⟨.move (.tmp 3), some 22, (some (21, false))⟩,
  ⟨.binOp .gtr 3 (.tmp 22) (.const (Value.int .i64 0)) 3, some 23, (some (21, false))⟩,
  ⟨.move (.tmp 23), some 24, (some (21, false))⟩,
  ⟨.fieldAddr 46 (.tmp 1) 5, some 25, (some (24, true))⟩,
  ⟨.load 40 (.tmp 25), some 26, (some (24, true))⟩,
  ⟨.move (.tmp 3), some 27, (some (24, true))⟩,
  ⟨.binOp .sub 3 (.tmp 27) (.const (Value.int .i64 1)) 3, some 28, (some (24, true))⟩,
  ⟨.indexAddr 40 (.tmp 26) (.tmp 28), some 29, (some (24, true))⟩,
  ⟨.fieldAddr 54 (.tmp 29) 0, some 30, (some (24, true))⟩,
  ⟨.load 3 (.tmp 30), some 31, (some (24, true))⟩,
  ⟨.fieldAddr 54 (.tmp 4) 0, some 32, (some (24, true))⟩,
  ⟨.load 3 (.tmp 32), some 33, (some (24, true))⟩,
  ⟨.binOp .geq 3 (.tmp 31) (.tmp 33) 3, some 34, (some (24, true))⟩,
  ⟨.pick (.tmp 24) (.tmp 34) (.const (Value.bool false)), some 35, (some (21, false))⟩,
  ⟨.pick (.tmp 21) (.const (Value.bool true)) (.tmp 35), some 36, none⟩] [0, 1, 3, 7, 15, 31, 63, 127, 255, 511, 1023, 2047, 4095, 8191, 4095, 20479, 65535, 131071, 262143, 4095, 528383, 2097151, 4194303, 8388607] [false, true, false, false, false, true, false, false, false, false, false, false, false, true, false, false, false, false, true, false, true, false, false, false])
 (.cond (.tmp 36) (.seq (.region [⟨.assign (.const (Value.bool false)), some 2, none⟩])
 .ret)
 .skip))))
 (.region [⟨.binOp .add 3 (.tmp 8) (.const (Value.int .i64 1)) 3, some 37, none⟩,
  ⟨.move (.tmp 37), some 8, none⟩])))))))
 (.seq (.region [⟨.fieldAddr 46 (.tmp 1) 0, some 38, none⟩,
  ⟨.load 3 (.tmp 38), some 39, none⟩,
  ⟨.binOp .geq 3 (.tmp 39) (.const (Value.int .i64 0)) 3, some 40, none⟩,
  ⟨.move (.tmp 40), some 41, none⟩,
  ⟨.fieldAddr 46 (.tmp 1) 0, some 42, (some (41, true))⟩,
  ⟨.load 3 (.tmp 42), some 43, (some (41, true))⟩,
  ⟨.binOp .leq 3 (.tmp 43) (.const (Value.int .i64 4)) 3, some 44, (some (41, true))⟩,
  ⟨.pick (.tmp 41) (.tmp 44) (.const (Value.bool false)), some 45, none⟩,
  ⟨.move (.tmp 45), some 46, none⟩,
  ⟨.fieldAddr 46 (.tmp 1) 2, some 47, (some (46, true))⟩,
  ⟨.load 3 (.tmp 47), some 48, (some (46, true))⟩,
  ⟨.binOp .geq 3 (.tmp 48) (.const (Value.int .i64 (-9007199254740992))) 3, some 49, (some (46, true))⟩,
  ⟨.pick (.tmp 46) (.tmp 49) (.const (Value.bool false)), some 50, none⟩,
  ⟨.move (.tmp 50), some 51, none⟩,
  ⟨.fieldAddr 46 (.tmp 1) 2, some 52, (some (51, true))⟩,
  ⟨.load 3 (.tmp 52), some 53, (some (51, true))⟩,
  ⟨.binOp .leq 3 (.tmp 53) (.const (Value.int .i64 9007199254740992)) 3, some 54, (some (51, true))⟩,
  ⟨.pick (.tmp 51) (.tmp 54) (.const (Value.bool false)), some 55, none⟩,
  ⟨.move (.tmp 55), some 56, none⟩,
  ⟨.fieldAddr 46 (.tmp 1) 6, some 57, (some (56, true))⟩,
  ⟨.fieldAddr 44 (.tmp 57) 0, some 58, (some (56, true))⟩,
  ⟨.load 3 (.tmp 58), some 59, (some (56, true))⟩,
  ⟨.binOp .geq 3 (.tmp 59) (.const (Value.int .i64 0)) 3, some 60, (some (56, true))⟩,
  ⟨.pick (.tmp 56) (.tmp 60) (.const (Value.bool false)), some 61, none⟩,
  ⟨.move (.tmp 61), some 62, none⟩,
  ⟨.fieldAddr 46 (.tmp 1) 6, some 63, (some (62, true))⟩,
  ⟨.fieldAddr 44 (.tmp 63) 0, some 64, (some (62, true))⟩,
  ⟨.load 3 (.tmp 64), some 65, (some (62, true))⟩,
  ⟨.binOp .leq 3 (.tmp 65) (.const (Value.int .i64 31)) 3, some 66, (some (62, true))⟩,
  ⟨.pick (.tmp 62) (.tmp 66) (.const (Value.bool false)), some 67, none⟩,
  ⟨.move (.tmp 67), some 68, none⟩,
  ⟨.fieldAddr 46 (.tmp 1) 4, some 69, (some (68, true))⟩,
  ⟨.load 39 (.tmp 69), some 70, (some (68, true))⟩,
  ⟨.call (Go.Call.mk (.builtin .len) #[.tmp 70] #[39]), some 71, (some (68, true))⟩,
  ⟨.binOp .leq 3 (.tmp 71) (.const (Value.int .i64 300)) 3, some 72, (some (68, true))⟩,
  ⟨.pick (.tmp 68) (.tmp 72) (.const (Value.bool false)), some 73, none⟩,
  ⟨.move (.tmp 73), some 74, none⟩,
  ⟨.fieldAddr 46 (.tmp 1) 5, some 75, (some (74, true))⟩,
  ⟨.load 40 (.tmp 75), some 76, (some (74, true))⟩,
  ⟨.call (Go.Call.mk (.builtin .len) #[.tmp 76] #[40]), some 77, (some (74, true))⟩,
  ⟨.binOp .leq 3 (.tmp 77) (.const (Value.int .i64 16)) 3, some 78, (some (74, true))⟩,
  ⟨.pick (.tmp 74) (.tmp 78) (.const (Value.bool false)), some 79, none⟩,
  ⟨.move (.tmp 79), some 80, none⟩,
  ⟨.fieldAddr 46 (.tmp 1) 6, some 81, (some (80, true))⟩,
  ⟨.fieldAddr 44 (.tmp 81) 2, some 82, (some (80, true))⟩,
  ⟨.load 9 (.tmp 82), some 83, (some (80, true))⟩,
  ⟨.call (Go.Call.mk (.builtin .len) #[.tmp 83] #[9]), some 84, (some (80, true))⟩,
  ⟨.binOp .leq 3 (.tmp 84) (.const (Value.int .i64 40)) 3, some 85, (some (80, true))⟩,
  ⟨.pick (.tmp 80) (.tmp 85) (.const (Value.bool false)), some 86, none⟩,
  ⟨.move (.tmp 86), some 87, none⟩,
  ⟨.fieldAddr 46 (.tmp 1) 5, some 88, (some (87, true))⟩,
  ⟨.load 40 (.tmp 88), some 89, (some (87, true))⟩,
  ⟨.call (Go.Call.mk (.value (.func 65)) #[.tmp 89, .func 66] #[40, 100]), some 90, (some (87, true))⟩,
  ⟨.unOp .not 4 (.tmp 90), some 91, (some (87, true))⟩,
  ⟨.pick (.tmp 87) (.tmp 91) (.const (Value.bool false)), some 92, none⟩,
  ⟨.assign (.tmp 92), some 2, none⟩])
 .ret)))
theorem fc_plain_Node : FnC Try.prog 24 93 [.tmp 2] c_plain_Node := ⟨by kernel_rfl, Try.f24, _, Try.func24, rfl, rfl, rfl, by kernel_rfl⟩
/-- craquelure/craquelurelaw22.awake -/
def c_law22_awake : AC := (.seq (.region [⟨.assign (.const (Value.bool false)), some 0, none⟩])
 (.seq (.region [⟨.build 42 #[(0, .const (Value.int .i64 1)), (1, .const (Value.int .i64 2)), (2, .const (Value.int .i64 3))], some 5, none⟩,
  ⟨.build 44 #[(0, .const (Value.int .i64 20)), (3, .tmp 5)], some 6, none⟩,
  ⟨.alloc 44, some 1, none⟩,
  ⟨.store 44 (.tmp 1) (.tmp 6), none, none⟩])
 (.seq (.region [⟨.load 44 (.tmp 1), some 7, none⟩,
  ⟨.build 44 #[(0, .const (Value.int .i64 1)), (1, .const (Value.int .i64 121))], some 8, none⟩,
  ⟨.alloc 44, some 2, none⟩,
  ⟨.alloc 44, some 3, none⟩,
  ⟨.store 44 (.tmp 2) (.tmp 7), none, none⟩,
  ⟨.store 44 (.tmp 3) (.tmp 8), none, none⟩])
 (.seq (.region [⟨.fieldAddr 44 (.tmp 2) 3, some 9, none⟩,
  ⟨.fieldAddr 42 (.tmp 9) 2, some 10, none⟩,
  ⟨.store 3 (.tmp 10) (.const (Value.int .i64 4)), none, none⟩])
 (.seq (.region [⟨.load 44 (.tmp 2), some 11, none⟩,
  ⟨.call (Go.Call.mk (.value (.func 67)) #[.tmp 11] #[44]), some 12, none⟩,
  ⟨.call (Go.Call.mk (.value (.func 26)) #[.tmp 12] #[29]), some 13, none⟩,
  ⟨.assign (.tmp 13), some 4, none⟩])
 (.seq (.draw [⟨.load 44 (.tmp 1), some 14, none⟩,
  ⟨.call (Go.Call.mk (.value (.func 67)) #[.tmp 14] #[44]), some 15, none⟩,
  ⟨.call (Go.Call.mk (.value (.func 26)) #[.tmp 15] #[29]), some 16, none⟩,
  ⟨.call (Go.Call.mk (.builtin .len) #[.tmp 16] #[33]), some 17, none⟩,
  ⟨.binOp .eql 3 (.tmp 17) (.const (Value.int .i64 0)) 3, some 18, none⟩,
  ⟨.move (.tmp 18), some 19, none⟩,
  ⟨.move (.tmp 4), some 20, (some (19, true))⟩,
  ⟨.build 35 #[(0, .const (Value.int .i64 13)), (2, .const (Value.int .i64 5)), (3, .const (Value.int .i64 (-1)))], some 21, (some (19, true))⟩,
  ⟨.build 35 #[(0, .const (Value.int .i64 14)), (2, .const (Value.int .i64 5)), (3, .const (Value.int .i64 (-1)))], some 22, (some (19, true))⟩,
  ⟨.buildSlice 33 2 #[(0, .tmp 21), (1, .tmp 22)], some 23, (some (19, true))⟩,
  ⟨.call (Go.Call.mk (.value (.func 14)) #[.tmp 20, .tmp 23] #[33, 33]), some 24, (some (19, true))⟩,
  ⟨.pick (.tmp 19) (.tmp 24) (.const (Value.bool false)), some 25, none⟩,
  ⟨.move (.tmp 25), some 26, none⟩,
  ⟨.load 44 (.tmp 3), some 27, (some (26, true))⟩,
  ⟨.call (Go.Call.mk (.value (.func 67)) #[.tmp 27] #[44]), some 28, (some (26, true))⟩,
  ⟨.field 29 (.tmp 28) 1, some 29, (some (26, true))⟩,
  ⟨.field 26 (.tmp 29) 0, some 30, (some (26, true))⟩,
  ⟨.indexAddr 24 (.tmp 30) (.const (Value.int .i64 4)), some 31, (some (26, true))⟩,
  ⟨.load 46 (.tmp 31), some 32, (some (26, true))⟩,
  ⟨.call (Go.Call.mk (.value (.func 28)) #[.tmp 32] #[46]), some 33, (some (26, true))⟩,
  ⟨.pick (.tmp 26) (.tmp 33) (.const (Value.bool false)), some 34, none⟩,
  ⟨.move (.tmp 34), some 35, none⟩,
  ⟨.load 44 (.tmp 2), some 36, (some (35, true))⟩,
  ⟨.call (Go.Call.mk (.value (.func 67)) #[.tmp 36] #[44]), some 37, (some (35, true))⟩,
  ⟨.load 44 (.tmp 2), some 38, (some (35, true))⟩,
  ⟨.call (Go.Call.mk (.value (.func 67)) #[.tmp 38] #[44]), some 39, (some (35, true))⟩,
  ⟨.field 29 (.tmp 39) 1, some 40, (some (35, true))⟩,
  ⟨.field 26 (.tmp 40) 0, some 41, (some (35, true))⟩,
  ⟨.indexAddr 24 (.tmp 41) (.const (Value.int .i64 4)), some 42, (some (35, true))⟩,
  ⟨.load 46 (.tmp 42), some 43, (some (35, true))⟩,
  ⟨.call (Go.Call.mk (.value (.func 32)) #[.tmp 37, .tmp 43] #[29, 46]), some 44, (some (35, true))⟩,
  ⟨.pick (.tmp 35) (.tmp 44) (.const (Value.bool false)), some 45, none⟩,
  ⟨.assign (.tmp 45), some 0, none⟩] [0, 1, 3, 7, 15, 31, 63, 63, 63, 447, 1023, 2047, 4095, 8191, 16383, 32767, 65535, 131071, 262143, 524287, 1048575, 2097151, 4194303, 8388607, 4194303, 33554431, 67108863, 134217727, 268435455, 536870911, 1073741823, 2147483647, 4294967295] [true, true, true, false, false, false, false, false, false, false, true, false, false, true, true, false, false, false, true, true, false, false, true, true, true, true, false, false, false, true, true, false, false])
 .ret))))))
theorem fc_law22_awake : FnC Try.prog 25 46 [.tmp 0] c_law22_awake := ⟨by kernel_rfl, Try.f25, _, Try.func25, rfl, rfl, rfl, by kernel_rfl⟩
/-- craquelure/origin.Findings -/
def c_origin_Findings : AC := (.seq (.region [⟨.box 29 (.tmp 0), some 1, none⟩,
  ⟨.assign (.const (Value.slice none 0 0)), some 2, none⟩])
 (.seq (.region [⟨.fieldAddr 29 (.tmp 1) 1, some 9, none⟩,
  ⟨.load 26 (.tmp 9), some 10, none⟩,
  ⟨.buildSlice 63 1 #[(0, .const (Value.int .i64 1))], some 11, none⟩,
  ⟨.call (Go.Call.mk (.value (.func 44)) #[.tmp 10, .tmp 11] #[26, 63]), some 12, none⟩,
  ⟨.assign (.tmp 12), some 3, none⟩])
 (.seq (.region [⟨.assign (.const (Value.slice none 0 0)), some 4, none⟩])
 (.seq (.seq (.region [⟨.build 102 #[(0, .const (Value.int .i64 8)), (1, .const (Value.int .i64 13)), (2, .const (Value.int .i64 14))], some 13, none⟩,
  ⟨.move (.const (Value.int .i64 0)), some 14, none⟩])
 (.block 0 (.loop (.seq (.region [⟨.binOp .lss 3 (.tmp 14) (.const (Value.int .i64 3)) 3, some 15, none⟩])
 (.seq (.cond (.tmp 15) .skip
 (.exit 0))
 (.seq (.block 1 (.seq (.region [⟨.index 102 (.tmp 13) (.tmp 14), some 16, none⟩,
  ⟨.assign (.tmp 16), some 6, none⟩])
 (.scope (.seq (.label 0)
 (.seq (.region [⟨.move (.tmp 3), some 17, none⟩,
  ⟨.call (Go.Call.mk (.builtin .len) #[.tmp 17] #[72]), some 18, none⟩,
  ⟨.move (.const (Value.int .i64 0)), some 19, none⟩])
 (.block 2 (.loop (.seq (.region [⟨.binOp .lss 3 (.tmp 19) (.tmp 18) 3, some 20, none⟩])
 (.seq (.cond (.tmp 20) .skip
 (.exit 2))
 (.seq (.block 3 (.seq (.region [⟨.move (.tmp 19), some 21, none⟩,
  ⟨.indexAddr 72 (.tmp 17) (.tmp 19), some 22, none⟩,
  ⟨.load 4 (.tmp 22), some 23, none⟩,
  ⟨.assign (.tmp 21), some 7, none⟩,
  ⟨.assign (.tmp 23), some 8, none⟩])
 (.seq (.seq (.draw [⟨.move (.tmp 8), some 24, none⟩,
  ⟨.unOp .not 4 (.tmp 24), some 25, none⟩,
  ⟨.move (.tmp 25), some 26, none⟩,
  ⟨.load 29 (.tmp 1), some 27, (some (26, false))⟩,
  ⟨.move (.tmp 6), some 28, (some (26, false))⟩,
  ⟨.fieldAddr 29 (.tmp 1) 1, some 29, (some (26, false))⟩,
  ⟨.fieldAddr 26 (.tmp 29) 0, some 30, (some (26, false))⟩,
  ⟨.load 24 (.tmp 30), some 31, (some (26, false))⟩,
  ⟨.move (.tmp 7), some 32, (some (26, false))⟩,
  ⟨.indexAddr 24 (.tmp 31) (.tmp 32), some 33, (some (26, false))⟩,
  ⟨.load 46 (.tmp 33), some 34, (some (26, false))⟩,
  ⟨.call (Go.Call.mk (.value (.func 68)) #[.tmp 27, .tmp 28, .tmp 34] #[29, 3, 46]), some 35, (some (26, false))⟩,
  ⟨.unOp .not 4 (.tmp 35), some 36, (some (26, false))⟩,
  ⟨.pick (.tmp 26) (.const (Value.bool true)) (.tmp 36), some 37, none⟩] [0, 1, 3, 7, 7, 7, 39, 103, 7, 487, 999, 2047, 4095, 8191] [false, false, false, true, false, false, false, true, false, false, true, true, false, false])
 (.cond (.tmp 37) (.exit 3)
 .skip))
 (.region [⟨.move (.tmp 4), some 38, none⟩,
  ⟨.move (.tmp 6), some 39, none⟩,
  ⟨.move (.tmp 7), some 40, none⟩,
  ⟨.binOp .add 3 (.tmp 40) (.const (Value.int .i64 1)) 3, some 41, none⟩,
  ⟨.build 35 #[(0, .tmp 39), (2, .tmp 41), (3, .const (Value.int .i64 (-1)))], some 42, none⟩,
  ⟨.buildSlice 33 1 #[(0, .tmp 42)], some 43, none⟩,
  ⟨.call (Go.Call.mk (.builtin .append) #[.tmp 38, .tmp 43] #[33, 33]), some 44, none⟩,
  ⟨.assign (.tmp 44), some 4, none⟩]))))
 (.region [⟨.binOp .add 3 (.tmp 19) (.const (Value.int .i64 1)) 3, some 45, none⟩,
  ⟨.move (.tmp 45), some 19, none⟩])))))))))))
 (.region [⟨.binOp .add 3 (.tmp 14) (.const (Value.int .i64 1)) 3, some 46, none⟩,
  ⟨.move (.tmp 46), some 14, none⟩])))))))
 (.seq (.region [⟨.move (.tmp 4), some 47, none⟩,
  ⟨.assign (.tmp 47), some 2, none⟩])
 .ret)))))
theorem fc_origin_Findings : FnC Try.prog 26 48 [.tmp 2] c_origin_Findings := ⟨by kernel_rfl, Try.f26, _, Try.func26, rfl, rfl, rfl, by kernel_rfl⟩
/-- craquelure/origin.Odd -/
def c_origin_Odd : AC := (.seq (.region [⟨.box 46 (.tmp 0), some 1, none⟩,
  ⟨.assign (.const (Value.bool false)), some 2, none⟩])
 (.seq (.region [⟨.load 46 (.tmp 1), some 3, none⟩,
  ⟨.call (Go.Call.mk (.value (.func 69)) #[.tmp 3, .const (Value.int .i64 1)] #[46, 3]), some 4, none⟩,
  ⟨.move (.tmp 4), some 5, none⟩,
  ⟨.fieldAddr 46 (.tmp 1) 0, some 6, (some (5, true))⟩,
  ⟨.load 3 (.tmp 6), some 7, (some (5, true))⟩,
  ⟨.binOp .neq 3 (.tmp 7) (.const (Value.int .i64 1)) 3, some 8, (some (5, true))⟩,
  ⟨.move (.tmp 8), some 9, (some (5, true))⟩,
  ⟨.fieldAddr 46 (.tmp 1) 6, some 10, (some (9, false))⟩,
  ⟨.fieldAddr 44 (.tmp 10) 1, some 11, (some (9, false))⟩,
  ⟨.load 3 (.tmp 11), some 12, (some (9, false))⟩,
  ⟨.binOp .neq 3 (.tmp 12) (.const (Value.int .i64 121)) 3, some 13, (some (9, false))⟩,
  ⟨.pick (.tmp 9) (.const (Value.bool true)) (.tmp 13), some 14, (some (5, true))⟩,
  ⟨.pick (.tmp 5) (.tmp 14) (.const (Value.bool false)), some 15, none⟩,
  ⟨.assign (.tmp 15), some 2, none⟩])
 .ret))
theorem fc_origin_Odd : FnC Try.prog 28 16 [.tmp 2] c_origin_Odd := ⟨by kernel_rfl, Try.f28, _, Try.func28, rfl, rfl, rfl, by kernel_rfl⟩
/-- craquelure/origin.Stale -/
def c_origin_Stale : AC := (.seq (.region [⟨.box 29 (.tmp 0), some 2, none⟩,
  ⟨.box 46 (.tmp 1), some 3, none⟩,
  ⟨.assign (.const (Value.bool false)), some 4, none⟩])
 (.seq (.seq (.region [⟨.load 46 (.tmp 3), some 6, none⟩,
  ⟨.call (Go.Call.mk (.value (.func 69)) #[.tmp 6, .const (Value.int .i64 4)] #[46, 3]), some 7, none⟩,
  ⟨.unOp .not 4 (.tmp 7), some 8, none⟩])
 (.cond (.tmp 8) (.seq (.region [⟨.assign (.const (Value.bool false)), some 4, none⟩])
 .ret)
 .skip))
 (.seq (.region [⟨.load 29 (.tmp 2), some 9, none⟩,
  ⟨.load 46 (.tmp 3), some 10, none⟩,
  ⟨.call (Go.Call.mk (.value (.func 70)) #[.tmp 9, .tmp 10] #[29, 46]), some 11, none⟩,
  ⟨.assign (.tmp 11), some 5, none⟩])
 (.seq (.seq (.region [⟨.fieldAddr 46 (.tmp 3) 0, some 12, none⟩,
  ⟨.load 3 (.tmp 12), some 13, none⟩])
 (.block 0 (.seq (.region [⟨.binOp .eql 3 (.tmp 13) (.const (Value.int .i64 1)) 3, some 15, none⟩,
  ⟨.assign (.tmp 15), some 14, none⟩])
 (.cond (.tmp 14) (.seq (.region [⟨.move (.tmp 5), some 16, none⟩,
  ⟨.binOp .neq 3 (.tmp 16) (.const (Value.int .i64 1)) 3, some 17, none⟩,
  ⟨.assign (.tmp 17), some 4, none⟩])
 .ret)
 (.seq (.seq (.region [⟨.binOp .eql 3 (.tmp 13) (.const (Value.int .i64 2)) 3, some 19, none⟩,
  ⟨.assign (.tmp 19), some 18, none⟩])
 (.cond (.tmp 18) .skip
 (.region [⟨.binOp .eql 3 (.tmp 13) (.const (Value.int .i64 3)) 3, some 20, none⟩,
  ⟨.assign (.tmp 20), some 18, none⟩])))
 (.cond (.tmp 18) (.seq (.region [⟨.move (.tmp 5), some 21, none⟩,
  ⟨.binOp .eql 3 (.tmp 21) (.const (Value.int .i64 0)) 3, some 22, none⟩,
  ⟨.move (.tmp 22), some 23, none⟩,
  ⟨.move (.tmp 5), some 24, (some (23, false))⟩,
  ⟨.binOp .eql 3 (.tmp 24) (.const (Value.int .i64 1)) 3, some 25, (some (23, false))⟩,
  ⟨.pick (.tmp 23) (.const (Value.bool true)) (.tmp 25), some 26, none⟩,
  ⟨.assign (.tmp 26), some 4, none⟩])
 .ret)
 .skip))))))
 (.seq (.region [⟨.assign (.const (Value.bool true)), some 4, none⟩])
 .ret)))))
theorem fc_origin_Stale : FnC Try.prog 30 27 [.tmp 4] c_origin_Stale := ⟨by kernel_rfl, Try.f30, _, Try.func30, rfl, rfl, rfl, by kernel_rfl⟩
/-- craquelure/origin.Lacks -/
def c_origin_Lacks : AC := (.seq (.region [⟨.box 29 (.tmp 0), some 2, none⟩,
  ⟨.box 46 (.tmp 1), some 3, none⟩,
  ⟨.assign (.const (Value.bool false)), some 4, none⟩])
 (.seq (.region [⟨.load 46 (.tmp 3), some 5, none⟩,
  ⟨.call (Go.Call.mk (.value (.func 69)) #[.tmp 5, .const (Value.int .i64 16)] #[46, 3]), some 6, none⟩,
  ⟨.move (.tmp 6), some 7, none⟩,
  ⟨.fieldAddr 46 (.tmp 3) 0, some 8, (some (7, true))⟩,
  ⟨.load 3 (.tmp 8), some 9, (some (7, true))⟩,
  ⟨.binOp .neq 3 (.tmp 9) (.const (Value.int .i64 2)) 3, some 10, (some (7, true))⟩,
  ⟨.move (.tmp 10), some 11, (some (7, true))⟩,
  ⟨.load 29 (.tmp 2), some 12, (some (11, false))⟩,
  ⟨.load 46 (.tmp 3), some 13, (some (11, false))⟩,
  ⟨.call (Go.Call.mk (.value (.func 70)) #[.tmp 12, .tmp 13] #[29, 46]), some 14, (some (11, false))⟩,
  ⟨.binOp .neq 3 (.tmp 14) (.const (Value.int .i64 2)) 3, some 15, (some (11, false))⟩,
  ⟨.pick (.tmp 11) (.const (Value.bool true)) (.tmp 15), some 16, (some (7, true))⟩,
  ⟨.pick (.tmp 7) (.tmp 16) (.const (Value.bool false)), some 17, none⟩,
  ⟨.assign (.tmp 17), some 4, none⟩])
 .ret))
theorem fc_origin_Lacks : FnC Try.prog 32 18 [.tmp 4] c_origin_Lacks := ⟨by kernel_rfl, Try.f32, _, Try.func32, rfl, rfl, rfl, by kernel_rfl⟩
/-- craquelure/walk.Reach -/
def c_walk_Reach : AC := (.seq (.region [⟨.box 26 (.tmp 0), some 2, none⟩,
  ⟨.assign (.const (Value.slice none 0 0)), some 4, none⟩])
 (.seq (.region [⟨.load 26 (.tmp 2), some 5, none⟩,
  ⟨.move (.tmp 1), some 6, none⟩,
  ⟨.call (Go.Call.mk (.value (.func 64)) #[.tmp 5, .tmp 6] #[26, 63]), some 7, none⟩,
  ⟨.call (Go.Call.mk (.value (.func 75)) #[.tmp 7] #[97]), some 8, none⟩,
  ⟨.assign (.tmp 8), some 4, none⟩])
 .ret))
theorem fc_walk_Reach : FnC Try.prog 44 9 [.tmp 4] c_walk_Reach := ⟨by kernel_rfl, Try.f44, _, Try.func44, rfl, rfl, rfl, by kernel_rfl⟩
end Go.Proofs.Ytnmljicimdhpmaa.AL

