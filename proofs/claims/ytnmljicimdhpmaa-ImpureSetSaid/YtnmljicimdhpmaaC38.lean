/- A law of the given program is proved: part 38 of 51. -/
import Derived.Test.YtnmljicimdhpmaaChecked
import Derived.Test.YtnmljicimdhpmaaC37
set_option linter.all false
/- AL: the functions of this seat's translation in AL's short form, written by gencode.py out of Lean's own print of them; each with the fact that it is so. -/
set_option maxRecDepth 100000
namespace Go.Proofs.Ytnmljicimdhpmaa.AL
open Go Go.Proofs
/-- craquelure/craquelurelaw24.ImpureSet -/
def c_law24_ImpureSet : AC := (.seq (.region [⟨.box 29 (.tmp 0), some 1, none⟩,
  ⟨.assign (.const (Value.bool false)), some 2, none⟩])
 (.seq (.seq (.region [⟨.load 29 (.tmp 1), some 5, none⟩,
  ⟨.call (Go.Call.mk (.value (.func 12)) #[.tmp 5, .const (Value.int .i64 24)] #[29, 3]), some 6, none⟩,
  ⟨.unOp .not 4 (.tmp 6), some 7, none⟩])
 (.cond (.tmp 7) (.seq (.region [⟨.call (Go.Call.mk (.value (.func 13)) #[] #[]), some 8, none⟩,
  ⟨.assign (.tmp 8), some 2, none⟩])
 .ret)
 .skip))
 (.seq (.region [⟨.load 29 (.tmp 1), some 9, none⟩,
  ⟨.alloc 29, some 3, none⟩,
  ⟨.store 29 (.tmp 3) (.tmp 9), none, none⟩])
 (.seq (.region [⟨.fieldAddr 29 (.tmp 1) 1, some 10, none⟩,
  ⟨.fieldAddr 26 (.tmp 10) 0, some 11, none⟩,
  ⟨.load 24 (.tmp 11), some 12, none⟩,
  ⟨.call (Go.Call.mk (.value (.func 19)) #[.tmp 12] #[24]), some 13, none⟩,
  ⟨.fieldAddr 29 (.tmp 1) 1, some 14, none⟩,
  ⟨.fieldAddr 26 (.tmp 14) 0, some 15, none⟩,
  ⟨.store 24 (.tmp 15) (.tmp 13), none, none⟩])
 (.seq (.seq (.region [⟨.fieldAddr 29 (.tmp 1) 1, some 16, none⟩,
  ⟨.fieldAddr 26 (.tmp 16) 0, some 17, none⟩,
  ⟨.load 24 (.tmp 17), some 18, none⟩,
  ⟨.call (Go.Call.mk (.builtin .len) #[.tmp 18] #[24]), some 19, none⟩,
  ⟨.move (.const (Value.int .i64 0)), some 20, none⟩])
 (.block 0 (.loop (.seq (.region [⟨.binOp .lss 3 (.tmp 20) (.tmp 19) 3, some 21, none⟩])
 (.seq (.cond (.tmp 21) .skip
 (.exit 0))
 (.seq (.block 1 (.seq (.region [⟨.move (.tmp 20), some 22, none⟩,
  ⟨.assign (.tmp 22), some 4, none⟩])
 (.draw [⟨.fieldAddr 29 (.tmp 1) 1, some 23, none⟩,
  ⟨.fieldAddr 26 (.tmp 23) 0, some 24, none⟩,
  ⟨.load 24 (.tmp 24), some 25, none⟩,
  ⟨.move (.tmp 4), some 26, none⟩,
  ⟨.load 29 (.tmp 3), some 27, none⟩,
  ⟨.move (.tmp 4), some 28, none⟩,
  ⟨.binOp .add 3 (.tmp 28) (.const (Value.int .i64 1)) 3, some 29, none⟩,
  ⟨.call (Go.Call.mk (.value (.func 17)) #[.tmp 27, .tmp 29] #[29, 3]), some 30, none⟩,
  ⟨.indexAddr 24 (.tmp 25) (.tmp 26), some 31, none⟩,
  ⟨.fieldAddr 46 (.tmp 31) 1, some 32, none⟩,
  ⟨.store 3 (.tmp 32) (.tmp 30), none, none⟩] [0, 1, 3, 0, 0, 0, 32, 112, 255, 511, 1023] [false, false, true, false, true, false, false, true, false, false, true])))
 (.region [⟨.binOp .add 3 (.tmp 20) (.const (Value.int .i64 1)) 3, some 33, none⟩,
  ⟨.move (.tmp 33), some 20, none⟩])))))))
 (.seq (.region [⟨.load 29 (.tmp 1), some 34, none⟩,
  ⟨.call (Go.Call.mk (.value (.func 15)) #[.tmp 34] #[29]), some 35, none⟩,
  ⟨.call (Go.Call.mk (.builtin .len) #[.tmp 35] #[33]), some 36, none⟩,
  ⟨.binOp .eql 3 (.tmp 36) (.const (Value.int .i64 0)) 3, some 37, none⟩,
  ⟨.move (.tmp 37), some 38, none⟩,
  ⟨.call (Go.Call.mk (.value (.func 13)) #[] #[]), some 39, (some (38, true))⟩,
  ⟨.pick (.tmp 38) (.tmp 39) (.const (Value.bool false)), some 40, none⟩,
  ⟨.assign (.tmp 40), some 2, none⟩])
 .ret))))))
theorem fc_law24_ImpureSet : FnC Try.prog 4 41 [.tmp 2] c_law24_ImpureSet := ⟨by kernel_rfl, Try.f4, _, Try.func4, rfl, rfl, rfl, by kernel_rfl⟩
/-- craquelure/craquelureplain.Stack -/
def c_plain_Stack : AC := (.seq (.region [⟨.box 29 (.tmp 0), some 2, none⟩,
  ⟨.box 3 (.tmp 1), some 3, none⟩,
  ⟨.assign (.const (Value.bool false)), some 4, none⟩])
 (.seq (.region [⟨.fieldAddr 29 (.tmp 2) 2, some 5, none⟩,
  ⟨.load 27 (.tmp 5), some 6, none⟩,
  ⟨.call (Go.Call.mk (.builtin .len) #[.tmp 6] #[27]), some 7, none⟩,
  ⟨.binOp .leq 3 (.tmp 7) (.const (Value.int .i64 3)) 3, some 8, none⟩,
  ⟨.move (.tmp 8), some 9, none⟩,
  ⟨.fieldAddr 29 (.tmp 2) 1, some 10, (some (9, true))⟩,
  ⟨.load 26 (.tmp 10), some 11, (some (9, true))⟩,
  ⟨.load 3 (.tmp 3), some 12, (some (9, true))⟩,
  ⟨.call (Go.Call.mk (.value (.func 20)) #[.tmp 11, .tmp 12] #[26, 3]), some 13, (some (9, true))⟩,
  ⟨.pick (.tmp 9) (.tmp 13) (.const (Value.bool false)), some 14, none⟩,
  ⟨.move (.tmp 14), some 15, none⟩,
  ⟨.fieldAddr 29 (.tmp 2) 2, some 16, (some (15, true))⟩,
  ⟨.load 27 (.tmp 16), some 17, (some (15, true))⟩,
  ⟨.makeFunc (.func 54) #[] #[.tmp 3], some 18, (some (15, true))⟩,
  ⟨.call (Go.Call.mk (.value (.func 53)) #[.tmp 17, .tmp 18] #[27, 56]), some 19, (some (15, true))⟩,
  ⟨.unOp .not 4 (.tmp 19), some 20, (some (15, true))⟩,
  ⟨.pick (.tmp 15) (.tmp 20) (.const (Value.bool false)), some 21, none⟩,
  ⟨.assign (.tmp 21), some 4, none⟩])
 .ret))
theorem fc_plain_Stack : FnC Try.prog 12 22 [.tmp 4] c_plain_Stack := ⟨by kernel_rfl, Try.f12, _, Try.func12, rfl, rfl, rfl, by kernel_rfl⟩
/-- craquelure/craquelurelaw24.awake -/
def c_law24_awake : AC := (.seq (.region [⟨.assign (.const (Value.bool false)), some 0, none⟩])
 (.seq (.region [⟨.call (Go.Call.mk (.value (.func 55)) #[] #[]), some 2, none⟩,
  ⟨.alloc 29, some 1, none⟩,
  ⟨.store 29 (.tmp 1) (.tmp 2), none, none⟩])
 (.seq (.region [⟨.fieldAddr 29 (.tmp 1) 1, some 3, none⟩,
  ⟨.fieldAddr 26 (.tmp 3) 0, some 4, none⟩,
  ⟨.load 24 (.tmp 4), some 5, none⟩,
  ⟨.build 54 #[(1, .const (Value.int .i64 4)), (2, .const (Value.string (ByteArray.mk #[99])))], some 6, none⟩,
  ⟨.buildSlice 40 1 #[(0, .tmp 6)], some 7, none⟩,
  ⟨.indexAddr 24 (.tmp 5) (.const (Value.int .i64 0)), some 8, none⟩,
  ⟨.fieldAddr 46 (.tmp 8) 5, some 9, none⟩,
  ⟨.store 40 (.tmp 9) (.tmp 7), none, none⟩])
 (.seq (.region [⟨.fieldAddr 29 (.tmp 1) 1, some 10, none⟩,
  ⟨.fieldAddr 26 (.tmp 10) 0, some 11, none⟩,
  ⟨.load 24 (.tmp 11), some 12, none⟩,
  ⟨.build 44 #[(0, .const (Value.int .i64 4))], some 13, none⟩,
  ⟨.build 46 #[(0, .const (Value.int .i64 2)), (6, .tmp 13)], some 14, none⟩,
  ⟨.indexAddr 24 (.tmp 12) (.const (Value.int .i64 3)), some 15, none⟩,
  ⟨.store 46 (.tmp 15) (.tmp 14), none, none⟩])
 (.seq (.region [⟨.load 29 (.tmp 1), some 16, none⟩,
  ⟨.call (Go.Call.mk (.value (.func 17)) #[.tmp 16, .const (Value.int .i64 1)] #[29, 3]), some 17, none⟩,
  ⟨.binOp .eql 3 (.tmp 17) (.const (Value.int .i64 121)) 3, some 18, none⟩,
  ⟨.move (.tmp 18), some 19, none⟩,
  ⟨.load 29 (.tmp 1), some 20, (some (19, true))⟩,
  ⟨.call (Go.Call.mk (.value (.func 17)) #[.tmp 20, .const (Value.int .i64 2)] #[29, 3]), some 21, (some (19, true))⟩,
  ⟨.binOp .eql 3 (.tmp 21) (.const (Value.int .i64 0)) 3, some 22, (some (19, true))⟩,
  ⟨.pick (.tmp 19) (.tmp 22) (.const (Value.bool false)), some 23, none⟩,
  ⟨.move (.tmp 23), some 24, none⟩,
  ⟨.load 29 (.tmp 1), some 25, (some (24, true))⟩,
  ⟨.call (Go.Call.mk (.value (.func 15)) #[.tmp 25] #[29]), some 26, (some (24, true))⟩,
  ⟨.build 35 #[(0, .const (Value.int .i64 18)), (2, .const (Value.int .i64 1)), (3, .const (Value.int .i64 (-1)))], some 27, (some (24, true))⟩,
  ⟨.buildSlice 33 1 #[(0, .tmp 27)], some 28, (some (24, true))⟩,
  ⟨.call (Go.Call.mk (.value (.func 14)) #[.tmp 26, .tmp 28] #[33, 33]), some 29, (some (24, true))⟩,
  ⟨.pick (.tmp 24) (.tmp 29) (.const (Value.bool false)), some 30, none⟩,
  ⟨.move (.tmp 30), some 31, none⟩,
  ⟨.call (Go.Call.mk (.value (.func 55)) #[] #[]), some 32, (some (31, true))⟩,
  ⟨.call (Go.Call.mk (.value (.func 15)) #[.tmp 32] #[29]), some 33, (some (31, true))⟩,
  ⟨.call (Go.Call.mk (.builtin .len) #[.tmp 33] #[33]), some 34, (some (31, true))⟩,
  ⟨.binOp .eql 3 (.tmp 34) (.const (Value.int .i64 0)) 3, some 35, (some (31, true))⟩,
  ⟨.pick (.tmp 31) (.tmp 35) (.const (Value.bool false)), some 36, none⟩,
  ⟨.assign (.tmp 36), some 0, none⟩])
 .ret)))))
theorem fc_law24_awake : FnC Try.prog 13 37 [.tmp 0] c_law24_awake := ⟨by kernel_rfl, Try.f13, _, Try.func13, rfl, rfl, rfl, by kernel_rfl⟩
/-- slices.Equal[[]craquelure/api.Finding,craquelure/api.Finding] -/
def c_slices_Equal_api_Finding_api_Finding : AC := (.seq (.region [⟨.assign (.const (Value.bool false)), some 4, none⟩])
 (.seq (.seq (.region [⟨.move (.tmp 0), some 6, none⟩,
  ⟨.call (Go.Call.mk (.builtin .len) #[.tmp 6] #[33]), some 7, none⟩,
  ⟨.move (.tmp 1), some 8, none⟩,
  ⟨.call (Go.Call.mk (.builtin .len) #[.tmp 8] #[33]), some 9, none⟩,
  ⟨.binOp .neq 3 (.tmp 7) (.tmp 9) 3, some 10, none⟩])
 (.cond (.tmp 10) (.seq (.region [⟨.assign (.const (Value.bool false)), some 4, none⟩])
 .ret)
 .skip))
 (.seq (.seq (.region [⟨.move (.tmp 0), some 11, none⟩,
  ⟨.call (Go.Call.mk (.builtin .len) #[.tmp 11] #[33]), some 12, none⟩,
  ⟨.move (.const (Value.int .i64 0)), some 13, none⟩])
 (.block 0 (.loop (.seq (.region [⟨.binOp .lss 3 (.tmp 13) (.tmp 12) 3, some 14, none⟩])
 (.seq (.cond (.tmp 14) .skip
 (.exit 0))
 (.seq (.block 1 (.seq (.region [⟨.move (.tmp 13), some 15, none⟩,
  ⟨.assign (.tmp 15), some 5, none⟩])
 (.seq (.draw [⟨.move (.tmp 0), some 16, none⟩,
  ⟨.move (.tmp 5), some 17, none⟩,
  ⟨.indexAddr 33 (.tmp 16) (.tmp 17), some 18, none⟩,
  ⟨.load 35 (.tmp 18), some 19, none⟩,
  ⟨.move (.tmp 1), some 20, none⟩,
  ⟨.move (.tmp 5), some 21, none⟩,
  ⟨.indexAddr 33 (.tmp 20) (.tmp 21), some 22, none⟩,
  ⟨.load 35 (.tmp 22), some 23, none⟩,
  ⟨.binOp .neq 35 (.tmp 19) (.tmp 23) 35, some 24, none⟩] [0, 0, 3, 7, 0, 0, 48, 112, 255] [false, false, false, true, false, false, false, true, false])
 (.cond (.tmp 24) (.seq (.region [⟨.assign (.const (Value.bool false)), some 4, none⟩])
 .ret)
 .skip))))
 (.region [⟨.binOp .add 3 (.tmp 13) (.const (Value.int .i64 1)) 3, some 25, none⟩,
  ⟨.move (.tmp 25), some 13, none⟩])))))))
 (.seq (.region [⟨.assign (.const (Value.bool true)), some 4, none⟩])
 .ret))))
theorem fc_slices_Equal_api_Finding_api_Finding : FnC Try.prog 14 26 [.tmp 4] c_slices_Equal_api_Finding_api_Finding := ⟨by kernel_rfl, Try.f14, _, Try.func14, rfl, rfl, rfl, by kernel_rfl⟩
/-- craquelure/impure.Findings -/
def c_impure_Findings : AC := (.seq (.region [⟨.box 29 (.tmp 0), some 1, none⟩,
  ⟨.assign (.const (Value.slice none 0 0)), some 2, none⟩])
 (.seq (.region [⟨.assign (.const (Value.slice none 0 0)), some 3, none⟩])
 (.seq (.seq (.region [⟨.fieldAddr 29 (.tmp 1) 1, some 8, none⟩,
  ⟨.load 26 (.tmp 8), some 9, none⟩,
  ⟨.buildSlice 63 1 #[(0, .const (Value.int .i64 1))], some 10, none⟩,
  ⟨.call (Go.Call.mk (.value (.func 44)) #[.tmp 9, .tmp 10] #[26, 63]), some 11, none⟩,
  ⟨.call (Go.Call.mk (.builtin .len) #[.tmp 11] #[72]), some 12, none⟩,
  ⟨.move (.const (Value.int .i64 0)), some 13, none⟩])
 (.block 0 (.loop (.seq (.region [⟨.binOp .lss 3 (.tmp 13) (.tmp 12) 3, some 14, none⟩])
 (.seq (.cond (.tmp 14) .skip
 (.exit 0))
 (.seq (.block 1 (.seq (.region [⟨.move (.tmp 13), some 15, none⟩,
  ⟨.indexAddr 72 (.tmp 11) (.tmp 13), some 16, none⟩,
  ⟨.load 4 (.tmp 16), some 17, none⟩,
  ⟨.assign (.tmp 15), some 4, none⟩,
  ⟨.assign (.tmp 17), some 5, none⟩])
 (.seq (.region [⟨.fieldAddr 29 (.tmp 1) 1, some 18, none⟩,
  ⟨.fieldAddr 26 (.tmp 18) 0, some 19, none⟩,
  ⟨.load 24 (.tmp 19), some 20, none⟩,
  ⟨.move (.tmp 4), some 21, none⟩,
  ⟨.indexAddr 24 (.tmp 20) (.tmp 21), some 22, none⟩,
  ⟨.load 46 (.tmp 22), some 23, none⟩,
  ⟨.alloc 46, some 6, none⟩,
  ⟨.store 46 (.tmp 6) (.tmp 23), none, none⟩])
 (.seq (.region [⟨.assign (.const (Value.int .i64 0)), some 7, none⟩])
 (.seq (.block 2 (.seq (.region [⟨.move (.tmp 5), some 25, none⟩,
  ⟨.assign (.tmp 25), some 24, none⟩])
 (.cond (.tmp 24) (.region [⟨.fieldAddr 29 (.tmp 1) 1, some 26, none⟩,
  ⟨.load 26 (.tmp 26), some 27, none⟩,
  ⟨.load 46 (.tmp 6), some 28, none⟩,
  ⟨.call (Go.Call.mk (.value (.func 56)) #[.tmp 27, .tmp 28] #[26, 46]), some 29, none⟩,
  ⟨.assign (.tmp 29), some 7, none⟩])
 (.seq (.region [⟨.fieldAddr 46 (.tmp 6) 0, some 31, none⟩,
  ⟨.load 3 (.tmp 31), some 32, none⟩,
  ⟨.binOp .neq 3 (.tmp 32) (.const (Value.int .i64 1)) 3, some 33, none⟩,
  ⟨.move (.tmp 33), some 34, none⟩,
  ⟨.move (.tmp 4), some 35, (some (34, false))⟩,
  ⟨.binOp .add 3 (.tmp 35) (.const (Value.int .i64 1)) 3, some 36, (some (34, false))⟩,
  ⟨.binOp .neq 3 (.tmp 36) (.const (Value.int .i64 2)) 3, some 37, (some (34, false))⟩,
  ⟨.move (.tmp 37), some 38, (some (34, false))⟩,
  ⟨.move (.tmp 4), some 39, (some (38, true))⟩,
  ⟨.binOp .add 3 (.tmp 39) (.const (Value.int .i64 1)) 3, some 40, (some (38, true))⟩,
  ⟨.binOp .neq 3 (.tmp 40) (.const (Value.int .i64 3)) 3, some 41, (some (38, true))⟩,
  ⟨.pick (.tmp 38) (.tmp 41) (.const (Value.bool false)), some 42, (some (34, false))⟩,
  ⟨.pick (.tmp 34) (.const (Value.bool true)) (.tmp 42), some 43, none⟩,
  ⟨.assign (.tmp 43), some 30, none⟩])
 (.cond (.tmp 30) (.exit 1)
 .skip)))))
 (.seq (.region [⟨.fieldAddr 46 (.tmp 6) 1, some 44, none⟩,
  ⟨.load 3 (.tmp 44), some 45, none⟩,
  ⟨.move (.tmp 7), some 46, none⟩,
  ⟨.binOp .neq 3 (.tmp 45) (.tmp 46) 3, some 47, none⟩])
 (.cond (.tmp 47) (.region [⟨.move (.tmp 3), some 48, none⟩,
  ⟨.move (.tmp 4), some 49, none⟩,
  ⟨.binOp .add 3 (.tmp 49) (.const (Value.int .i64 1)) 3, some 50, none⟩,
  ⟨.build 35 #[(0, .const (Value.int .i64 18)), (2, .tmp 50), (3, .const (Value.int .i64 (-1)))], some 51, none⟩,
  ⟨.buildSlice 33 1 #[(0, .tmp 51)], some 52, none⟩,
  ⟨.call (Go.Call.mk (.builtin .append) #[.tmp 48, .tmp 52] #[33, 33]), some 53, none⟩,
  ⟨.assign (.tmp 53), some 3, none⟩])
 .skip)))))))
 (.region [⟨.binOp .add 3 (.tmp 13) (.const (Value.int .i64 1)) 3, some 54, none⟩,
  ⟨.move (.tmp 54), some 13, none⟩])))))))
 (.seq (.region [⟨.move (.tmp 3), some 55, none⟩,
  ⟨.assign (.tmp 55), some 2, none⟩])
 .ret))))
theorem fc_impure_Findings : FnC Try.prog 15 56 [.tmp 2] c_impure_Findings := ⟨by kernel_rfl, Try.f15, _, Try.func15, rfl, rfl, rfl, by kernel_rfl⟩
/-- craquelure/impure.Want -/
def c_impure_Want : AC := (.seq (.region [⟨.box 29 (.tmp 0), some 2, none⟩,
  ⟨.assign (.const (Value.int .i64 0)), some 4, none⟩])
 (.seq (.region [⟨.fieldAddr 29 (.tmp 2) 1, some 6, none⟩,
  ⟨.load 26 (.tmp 6), some 7, none⟩,
  ⟨.buildSlice 63 1 #[(0, .const (Value.int .i64 1))], some 8, none⟩,
  ⟨.call (Go.Call.mk (.value (.func 44)) #[.tmp 7, .tmp 8] #[26, 63]), some 9, none⟩,
  ⟨.assign (.tmp 9), some 5, none⟩])
 (.seq (.seq (.region [⟨.move (.tmp 1), some 10, none⟩,
  ⟨.binOp .lss 3 (.tmp 10) (.const (Value.int .i64 1)) 3, some 11, none⟩,
  ⟨.move (.tmp 11), some 12, none⟩,
  ⟨.move (.tmp 1), some 13, (some (12, false))⟩,
  ⟨.move (.tmp 5), some 14, (some (12, false))⟩,
  ⟨.call (Go.Call.mk (.builtin .len) #[.tmp 14] #[72]), some 15, (some (12, false))⟩,
  ⟨.binOp .gtr 3 (.tmp 13) (.tmp 15) 3, some 16, (some (12, false))⟩,
  ⟨.pick (.tmp 12) (.const (Value.bool true)) (.tmp 16), some 17, none⟩,
  ⟨.move (.tmp 17), some 18, none⟩,
  ⟨.move (.tmp 5), some 19, (some (18, false))⟩,
  ⟨.move (.tmp 1), some 20, (some (18, false))⟩,
  ⟨.binOp .sub 3 (.tmp 20) (.const (Value.int .i64 1)) 3, some 21, (some (18, false))⟩,
  ⟨.indexAddr 72 (.tmp 19) (.tmp 21), some 22, (some (18, false))⟩,
  ⟨.load 4 (.tmp 22), some 23, (some (18, false))⟩,
  ⟨.unOp .not 4 (.tmp 23), some 24, (some (18, false))⟩,
  ⟨.pick (.tmp 18) (.const (Value.bool true)) (.tmp 24), some 25, none⟩])
 (.cond (.tmp 25) (.seq (.region [⟨.assign (.const (Value.int .i64 0)), some 4, none⟩])
 .ret)
 .skip))
 (.seq (.draw [⟨.fieldAddr 29 (.tmp 2) 1, some 26, none⟩,
  ⟨.load 26 (.tmp 26), some 27, none⟩,
  ⟨.fieldAddr 29 (.tmp 2) 1, some 28, none⟩,
  ⟨.fieldAddr 26 (.tmp 28) 0, some 29, none⟩,
  ⟨.load 24 (.tmp 29), some 30, none⟩,
  ⟨.move (.tmp 1), some 31, none⟩,
  ⟨.binOp .sub 3 (.tmp 31) (.const (Value.int .i64 1)) 3, some 32, none⟩,
  ⟨.indexAddr 24 (.tmp 30) (.tmp 32), some 33, none⟩,
  ⟨.load 46 (.tmp 33), some 34, none⟩,
  ⟨.call (Go.Call.mk (.value (.func 56)) #[.tmp 27, .tmp 34] #[26, 46]), some 35, none⟩,
  ⟨.assign (.tmp 35), some 4, none⟩] [0, 1, 0, 4, 12, 0, 32, 124, 252, 511, 1023] [false, true, false, false, true, false, false, false, true, true, false])
 .ret))))
theorem fc_impure_Want : FnC Try.prog 17 36 [.tmp 4] c_impure_Want := ⟨by kernel_rfl, Try.f17, _, Try.func17, rfl, rfl, rfl, by kernel_rfl⟩
/-- slices.Clone[[]craquelure/api.Node,craquelure/api.Node] -/
def c_slices_Clone_api_Node_api_Node : AC := (.seq (.region [⟨.assign (.const (Value.slice none 0 0)), some 2, none⟩])
 (.seq (.seq (.region [⟨.move (.tmp 0), some 3, none⟩,
  ⟨.binOp .eql 24 (.tmp 3) (.const (Value.slice none 0 0)) 24, some 4, none⟩])
 (.cond (.tmp 4) (.seq (.region [⟨.assign (.const (Value.slice none 0 0)), some 2, none⟩])
 .ret)
 .skip))
 (.seq (.region [⟨.buildSlice 24 0 #[], some 5, none⟩,
  ⟨.move (.tmp 0), some 6, none⟩,
  ⟨.call (Go.Call.mk (.builtin .append) #[.tmp 5, .tmp 6] #[24, 24]), some 7, none⟩,
  ⟨.assign (.tmp 7), some 2, none⟩])
 .ret)))
theorem fc_slices_Clone_api_Node_api_Node : FnC Try.prog 19 8 [.tmp 2] c_slices_Clone_api_Node_api_Node := ⟨by kernel_rfl, Try.f19, _, Try.func19, rfl, rfl, rfl, by kernel_rfl⟩
/-- craquelure/craquelureplain.Branch -/
def c_plain_Branch : AC := (.seq (.region [⟨.box 26 (.tmp 0), some 2, none⟩,
  ⟨.assign (.const (Value.bool false)), some 4, none⟩])
 (.seq (.region [⟨.fieldAddr 26 (.tmp 2) 0, some 5, none⟩,
  ⟨.load 24 (.tmp 5), some 6, none⟩,
  ⟨.call (Go.Call.mk (.builtin .len) #[.tmp 6] #[24]), some 7, none⟩,
  ⟨.move (.tmp 1), some 8, none⟩,
  ⟨.binOp .leq 3 (.tmp 7) (.tmp 8) 3, some 9, none⟩,
  ⟨.move (.tmp 9), some 10, none⟩,
  ⟨.fieldAddr 26 (.tmp 2) 0, some 11, (some (10, true))⟩,
  ⟨.load 24 (.tmp 11), some 12, (some (10, true))⟩,
  ⟨.call (Go.Call.mk (.value (.func 59)) #[.tmp 12, .func 60] #[24, 57]), some 13, (some (10, true))⟩,
  ⟨.unOp .not 4 (.tmp 13), some 14, (some (10, true))⟩,
  ⟨.pick (.tmp 10) (.tmp 14) (.const (Value.bool false)), some 15, none⟩,
  ⟨.assign (.tmp 15), some 4, none⟩])
 .ret))
theorem fc_plain_Branch : FnC Try.prog 20 16 [.tmp 4] c_plain_Branch := ⟨by kernel_rfl, Try.f20, _, Try.func20, rfl, rfl, rfl, by kernel_rfl⟩
/-- craquelure/craquelureplain.Node -/
def c_plain_Node : AC := (.seq (.region [⟨.box 46 (.tmp 0), some 1, none⟩,
  ⟨.assign (.const (Value.bool false)), some 2, none⟩])
 (.seq (.seq (.region [⟨.fieldAddr 46 (.tmp 1) 5, some 5, none⟩,
  ⟨.load 40 (.tmp 5), some 6, none⟩,
  ⟨.call (Go.Call.mk (.builtin .len) #[.tmp 6] #[40]), some 7, none⟩,
  ⟨.move (.const (Value.int .i64 0)), some 8, none⟩])
 (.block 0 (.loop (.seq (.region [⟨.binOp .lss 3 (.tmp 8) (.tmp 7) 3, some 9, none⟩])
 (.seq (.cond (.tmp 9) .skip
 (.exit 0))
 (.seq (.block 1 (.seq (.region [⟨.move (.tmp 8), some 10, none⟩,
  ⟨.indexAddr 40 (.tmp 6) (.tmp 8), some 11, none⟩,
  ⟨.load 54 (.tmp 11), some 12, none⟩,
  ⟨.alloc 54, some 4, none⟩,
  ⟨.assign (.tmp 10), some 3, none⟩,
  ⟨.store 54 (.tmp 4) (.tmp 12), none, none⟩])
 (.seq (.draw [⟨.fieldAddr 54 (.tmp 4) 0, some 13, none⟩,
  ⟨.load 3 (.tmp 13), some 14, none⟩,
  ⟨.binOp .lss 3 (.tmp 14) (.const (Value.int .i64 0)) 3, some 15, none⟩,
  ⟨.move (.tmp 15), some 16, none⟩,
  ⟨.fieldAddr 54 (.tmp 4) 0, some 17, (some (16, false))⟩,
  ⟨.load 3 (.tmp 17), some 18, (some (16, false))⟩,
  ⟨.binOp .geq 3 (.tmp 18) (.const (Value.int .i64 16)) 3, some 19, (some (16, false))⟩,
  ⟨.pick (.tmp 16) (.const (Value.bool true)) (.tmp 19), some 20, none⟩,
  ⟨.move (.tmp 20), some 21, none⟩,
  ⟨.move (.tmp 3), some 22, (some (21, false))⟩,
  ⟨.binOp .gtr 3 (.tmp 22) (.const (Value.int .i64 0)) 3, some 23, (some (21, false))⟩,
  ⟨.move (.tmp 23), some 24, (some (21, false))⟩,
  ⟨.fieldAddr 46 (.tmp 1) 5, some 25, (some (24, true))⟩,
  ⟨.load 40 (.tmp 25), some 26, (some (24, true))⟩,
  ⟨.move (.tmp 3), some 27, (some (24, true))⟩,
  ⟨.binOp .sub 3 (.tmp 27) (.const (Value.int .i64 1)) 3, some 28, (some (24, true))⟩,
  ⟨.indexAddr 40 (.tmp 26) (.tmp 28), some 29, (some (24, true))⟩,
  ⟨.fieldAddr 54 (.tmp 29) 0, some 30, (some (24, true))⟩,
  ⟨.load 3 (.tmp 30), some 31, (some (24, true))⟩,
  ⟨.fieldAddr 54 (.tmp 4) 0, some 32, (some (24, true))⟩,
  ⟨.load 3 (.tmp 32), some 33, (some (24, true))⟩,
  ⟨.binOp .geq 3 (.tmp 31) (.tmp 33) 3, some 34, (some (24, true))⟩,
  ⟨.pick (.tmp 24) (.tmp 34) (.const (Value.bool false)), some 35, (some (21, false))⟩,
  ⟨.pick (.tmp 21) (.const (Value.bool true)) (.tmp 35), some 36, none⟩] [0, 1, 3, 7, 15, 31, 63, 127, 255, 511, 1023, 2047, 4095, 8191, 4095, 20479, 65535, 131071, 262143, 4095, 528383, 2097151, 4194303, 8388607] [false, true, false, false, false, true, false, false, false, false, false, false, false, true, false, false, false, false, true, false, true, false, false, false])
 (.cond (.tmp 36) (.seq (.region [⟨.assign (.const (Value.bool false)), some 2, none⟩])
 .ret)
 .skip))))
 (.region [⟨.binOp .add 3 (.tmp 8) (.const (Value.int .i64 1)) 3, some 37, none⟩,
  ⟨.move (.tmp 37), some 8, none⟩])))))))
 (.seq (.region [⟨.fieldAddr 46 (.tmp 1) 0, some 38, none⟩,
  ⟨.load 3 (.tmp 38), some 39, none⟩,
  ⟨.binOp .geq 3 (.tmp 39) (.const (Value.int .i64 0)) 3, some 40, none⟩,
  ⟨.move (.tmp 40), some 41, none⟩,
  ⟨.fieldAddr 46 (.tmp 1) 0, some 42, (some (41, true))⟩,
  ⟨.load 3 (.tmp 42), some 43, (some (41, true))⟩,
  ⟨.binOp .leq 3 (.tmp 43) (.const (Value.int .i64 4)) 3, some 44, (some (41, true))⟩,
  ⟨.pick (.tmp 41) (.tmp 44) (.const (Value.bool false)), some 45, none⟩,
  ⟨.move (.tmp 45), some 46, none⟩,
  ⟨.fieldAddr 46 (.tmp 1) 2, some 47, (some (46, true))⟩,
  ⟨.load 3 (.tmp 47), some 48, (some (46, true))⟩,
  ⟨.binOp .geq 3 (.tmp 48) (.const (Value.int .i64 (-9007199254740992))) 3, some 49, (some (46, true))⟩,
  ⟨.pick (.tmp 46) (.tmp 49) (.const (Value.bool false)), some 50, none⟩,
  ⟨.move (.tmp 50), some 51, none⟩,
  ⟨.fieldAddr 46 (.tmp 1) 2, some 52, (some (51, true))⟩,
  ⟨.load 3 (.tmp 52), some 53, (some (51, true))⟩,
  ⟨.binOp .leq 3 (.tmp 53) (.const (Value.int .i64 9007199254740992)) 3, some 54, (some (51, true))⟩,
  ⟨.pick (.tmp 51) (.tmp 54) (.const (Value.bool false)), some 55, none⟩,
  ⟨.move (.tmp 55), some 56, none⟩,
  ⟨.fieldAddr 46 (.tmp 1) 6, some 57, (some (56, true))⟩,
  ⟨.fieldAddr 44 (.tmp 57) 0, some 58, (some (56, true))⟩,
  ⟨.load 3 (.tmp 58), some 59, (some (56, true))⟩,
  ⟨.binOp .geq 3 (.tmp 59) (.const (Value.int .i64 0)) 3, some 60, (some (56, true))⟩,
  ⟨.pick (.tmp 56) (.tmp 60) (.const (Value.bool false)), some 61, none⟩,
  ⟨.move (.tmp 61), some 62, none⟩,
  ⟨.fieldAddr 46 (.tmp 1) 6, some 63, (some (62, true))⟩,
  ⟨.fieldAddr 44 (.tmp 63) 0, some 64, (some (62, true))⟩,
  ⟨.load 3 (.tmp 64), some 65, (some (62, true))⟩,
  ⟨.binOp .leq 3 (.tmp 65) (.const (Value.int .i64 31)) 3, some 66, (some (62, true))⟩,
  ⟨.pick (.tmp 62) (.tmp 66) (.const (Value.bool false)), some 67, none⟩,
  ⟨.move (.tmp 67), some 68, none⟩,
  ⟨.fieldAddr 46 (.tmp 1) 4, some 69, (some (68, true))⟩,
  ⟨.load 39 (.tmp 69), some 70, (some (68, true))⟩,
  ⟨.call (Go.Call.mk (.builtin .len) #[.tmp 70] #[39]), some 71, (some (68, true))⟩,
  ⟨.binOp .leq 3 (.tmp 71) (.const (Value.int .i64 300)) 3, some 72, (some (68, true))⟩,
  ⟨.pick (.tmp 68) (.tmp 72) (.const (Value.bool false)), some 73, none⟩,
  ⟨.move (.tmp 73), some 74, none⟩,
  ⟨.fieldAddr 46 (.tmp 1) 5, some 75, (some (74, true))⟩,
  ⟨.load 40 (.tmp 75), some 76, (some (74, true))⟩,
  ⟨.call (Go.Call.mk (.builtin .len) #[.tmp 76] #[40]), some 77, (some (74, true))⟩,
  ⟨.binOp .leq 3 (.tmp 77) (.const (Value.int .i64 16)) 3, some 78, (some (74, true))⟩,
  ⟨.pick (.tmp 74) (.tmp 78) (.const (Value.bool false)), some 79, none⟩,
  ⟨.move (.tmp 79), some 80, none⟩,
  ⟨.fieldAddr 46 (.tmp 1) 6, some 81, (some (80, true))⟩,
  ⟨.fieldAddr 44 (.tmp 81) 2, some 82, (some (80, true))⟩,
  ⟨.load 9 (.tmp 82), some 83, (some (80, true))⟩,
  ⟨.call (Go.Call.mk (.builtin .len) #[.tmp 83] #[9]), some 84, (some (80, true))⟩,
  ⟨.binOp .leq 3 (.tmp 84) (.const (Value.int .i64 40)) 3, some 85, (some (80, true))⟩,
  ⟨.pick (.tmp 80) (.tmp 85) (.const (Value.bool false)), some 86, none⟩,
  ⟨.move (.tmp 86), some 87, none⟩,
  ⟨.fieldAddr 46 (.tmp 1) 5, some 88, (some (87, true))⟩,
  ⟨.load 40 (.tmp 88), some 89, (some (87, true))⟩,
  ⟨.call (Go.Call.mk (.value (.func 65)) #[.tmp 89, .func 66] #[40, 100]), some 90, (some (87, true))⟩,
  ⟨.unOp .not 4 (.tmp 90), some 91, (some (87, true))⟩,
  ⟨.pick (.tmp 87) (.tmp 91) (.const (Value.bool false)), some 92, none⟩,
  ⟨.assign (.tmp 92), some 2, none⟩])
 .ret)))
theorem fc_plain_Node : FnC Try.prog 24 93 [.tmp 2] c_plain_Node := ⟨by kernel_rfl, Try.f24, _, Try.func24, rfl, rfl, rfl, by kernel_rfl⟩
/-- craquelure/walk.Reach -/
def c_walk_Reach : AC := (.seq (.region [⟨.box 26 (.tmp 0), some 2, none⟩,
  ⟨.assign (.const (Value.slice none 0 0)), some 4, none⟩])
 (.seq (.region [⟨.load 26 (.tmp 2), some 5, none⟩,
  ⟨.move (.tmp 1), some 6, none⟩,
  ⟨.call (Go.Call.mk (.value (.func 64)) #[.tmp 5, .tmp 6] #[26, 63]), some 7, none⟩,
  ⟨.call (Go.Call.mk (.value (.func 75)) #[.tmp 7] #[97]), some 8, none⟩,
  ⟨.assign (.tmp 8), some 4, none⟩])
 .ret))
theorem fc_walk_Reach : FnC Try.prog 44 9 [.tmp 4] c_walk_Reach := ⟨by kernel_rfl, Try.f44, _, Try.func44, rfl, rfl, rfl, by kernel_rfl⟩
end Go.Proofs.Ytnmljicimdhpmaa.AL

