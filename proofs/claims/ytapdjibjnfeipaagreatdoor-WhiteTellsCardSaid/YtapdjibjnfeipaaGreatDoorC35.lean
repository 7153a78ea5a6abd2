/- A law of the given program is proved: part 35 of 50. -/
import Derived.Test.YtapdjibjnfeipaaGreatDoorChecked
import Derived.Test.YtapdjibjnfeipaaGreatDoorC34
set_option linter.all false
/- AL: the functions of this seat's translation in AL's short form, written by gencode.py out of Lean's own print of them; each with the fact that it is so. -/
set_option maxRecDepth 100000
namespace Go.Proofs.YtapdjibjnfeipaaGreatDoor.AL
open Go Go.Proofs
def c_view_stack_node : AC := (.seq (.region [⟨.box 92 (.tmp 0), some 2, none⟩,
  ⟨.alloc 68, some 4, none⟩])
 (.seq (.seq (.region [⟨.move (.tmp 1), some 5, none⟩,
  ⟨.binOp .lss 3 (.tmp 5) (.const (Value.int .i64 1)) 3, some 6, none⟩,
  ⟨.move (.tmp 6), some 7, none⟩,
  ⟨.move (.tmp 1), some 8, (some (7, false))⟩,
  ⟨.fieldAddr 92 (.tmp 2) 0, some 9, (some (7, false))⟩,
  ⟨.fieldAddr 29 (.tmp 9) 1, some 10, (some (7, false))⟩,
  ⟨.fieldAddr 26 (.tmp 10) 0, some 11, (some (7, false))⟩,
  ⟨.load 24 (.tmp 11), some 12, (some (7, false))⟩,
  ⟨.call (Go.Call.mk (.builtin .len) #[.tmp 12] #[24]), some 13, (some (7, false))⟩,
  ⟨.binOp .gtr 3 (.tmp 8) (.tmp 13) 3, some 14, (some (7, false))⟩,
  ⟨.pick (.tmp 7) (.const (Value.bool true)) (.tmp 14), some 15, none⟩])
 (.cond (.tmp 15) (.seq (.region [⟨.build 68 #[], some 16, none⟩,
  ⟨.store 68 (.tmp 4) (.tmp 16), none, none⟩])
 .ret)
 .skip))
 (.seq (.region [⟨.fieldAddr 92 (.tmp 2) 0, some 17, none⟩,
  ⟨.fieldAddr 29 (.tmp 17) 1, some 18, none⟩,
  ⟨.fieldAddr 26 (.tmp 18) 0, some 19, none⟩,
  ⟨.load 24 (.tmp 19), some 20, none⟩,
  ⟨.move (.tmp 1), some 21, none⟩,
  ⟨.binOp .sub 3 (.tmp 21) (.const (Value.int .i64 1)) 3, some 22, none⟩,
  ⟨.indexAddr 24 (.tmp 20) (.tmp 22), some 23, none⟩,
  ⟨.load 68 (.tmp 23), some 24, none⟩,
  ⟨.store 68 (.tmp 4) (.tmp 24), none, none⟩])
 .ret)))
theorem fc_view_stack_node : FnC Tryz.prog 53 25 [.cell 4 68] c_view_stack_node := ⟨by kernel_rfl, Tryz.f53, _, Tryz.func53, rfl, rfl, rfl, by kernel_rfl⟩
def c_view_stack_part : AC := (.seq (.region [⟨.box 92 (.tmp 0), some 4, none⟩,
  ⟨.box 32 (.tmp 1), some 5, none⟩,
  ⟨.box 68 (.tmp 2), some 6, none⟩,
  ⟨.assign (.const (Value.slice none 0 0)), some 8, none⟩])
 (.seq (.block 0 (.seq (.region [⟨.fieldAddr 68 (.tmp 6) 0, some 15, none⟩,
  ⟨.load 3 (.tmp 15), some 16, none⟩,
  ⟨.binOp .neq 3 (.tmp 16) (.const (Value.int .i64 1)) 3, some 17, none⟩,
  ⟨.move (.tmp 17), some 18, none⟩,
  ⟨.load 68 (.tmp 6), some 19, (some (18, false))⟩,
  ⟨.call (Go.Call.mk (.value (.func 40)) #[.tmp 19] #[68]), some 20, (some (18, false))⟩,
  ⟨.pick (.tmp 18) (.const (Value.bool true)) (.tmp 20), some 21, none⟩,
  ⟨.assign (.tmp 21), some 14, none⟩])
 (.cond (.tmp 14) (.seq (.region [⟨.assign (.const (Value.slice none 0 0)), some 8, none⟩])
 .ret)
 (.seq (.region [⟨.fieldAddr 68 (.tmp 6) 6, some 23, none⟩,
  ⟨.fieldAddr 66 (.tmp 23) 0, some 24, none⟩,
  ⟨.load 3 (.tmp 24), some 25, none⟩,
  ⟨.binOp .lss 3 (.tmp 25) (.const (Value.int .i64 0)) 3, some 26, none⟩,
  ⟨.move (.tmp 26), some 27, none⟩,
  ⟨.fieldAddr 68 (.tmp 6) 6, some 28, (some (27, false))⟩,
  ⟨.fieldAddr 66 (.tmp 28) 0, some 29, (some (27, false))⟩,
  ⟨.load 3 (.tmp 29), some 30, (some (27, false))⟩,
  ⟨.binOp .and 3 (.tmp 30) (.const (Value.int .i64 2)) 3, some 31, (some (27, false))⟩,
  ⟨.binOp .eql 3 (.tmp 31) (.const (Value.int .i64 0)) 3, some 32, (some (27, false))⟩,
  ⟨.pick (.tmp 27) (.const (Value.bool true)) (.tmp 32), some 33, none⟩,
  ⟨.assign (.tmp 33), some 22, none⟩])
 (.cond (.tmp 22) (.seq (.region [⟨.load 92 (.tmp 4), some 34, none⟩,
  ⟨.fieldAddr 32 (.tmp 5) 1, some 35, none⟩,
  ⟨.load 30 (.tmp 35), some 36, none⟩,
  ⟨.move (.tmp 3), some 37, none⟩,
  ⟨.call (Go.Call.mk (.value (.func 83)) #[.tmp 34, .tmp 36, .tmp 37] #[92, 30, 9]), some 38, none⟩,
  ⟨.assign (.tmp 38), some 8, none⟩])
 .ret)
 .skip)))))
 (.seq (.region [⟨.fieldAddr 68 (.tmp 6) 6, some 40, none⟩,
  ⟨.fieldAddr 66 (.tmp 40) 2, some 41, none⟩,
  ⟨.load 9 (.tmp 41), some 42, none⟩,
  ⟨.call (Go.Call.mk (.value (.func 84)) #[.tmp 42] #[9]), some 43, none⟩,
  ⟨.move (.tmp 43), some 39, none⟩,
  ⟨.extract (.tmp 39) 0, some 44, none⟩,
  ⟨.extract (.tmp 39) 1, some 45, none⟩,
  ⟨.extract (.tmp 39) 2, some 46, none⟩,
  ⟨.assign (.tmp 44), some 9, none⟩,
  ⟨.assign (.tmp 45), some 10, none⟩,
  ⟨.assign (.tmp 46), some 11, none⟩])
 (.seq (.block 1 (.seq (.region [⟨.move (.tmp 11), some 48, none⟩,
  ⟨.unOp .not 4 (.tmp 48), some 49, none⟩,
  ⟨.assign (.tmp 49), some 47, none⟩])
 (.cond (.tmp 47) (.seq (.region [⟨.assign (.const (Value.slice none 0 0)), some 8, none⟩])
 .ret)
 (.seq (.region [⟨.move (.tmp 10), some 51, none⟩,
  ⟨.assign (.tmp 51), some 50, none⟩])
 (.cond (.tmp 50) (.seq (.draw [⟨.fieldAddr 92 (.tmp 4) 0, some 53, none⟩,
  ⟨.load 29 (.tmp 53), some 54, none⟩,
  ⟨.fieldAddr 92 (.tmp 4) 0, some 55, none⟩,
  ⟨.load 29 (.tmp 55), some 56, none⟩,
  ⟨.call (Go.Call.mk (.value (.func 56)) #[.tmp 56] #[29]), some 57, none⟩,
  ⟨.move (.tmp 9), some 58, none⟩,
  ⟨.call (Go.Call.mk (.value (.func 85)) #[.tmp 54, .tmp 57, .tmp 58] #[29, 30, 42]), some 59, none⟩,
  ⟨.move (.tmp 59), some 52, none⟩,
  ⟨.extract (.tmp 52) 0, some 60, none⟩,
  ⟨.extract (.tmp 52) 1, some 61, none⟩,
  ⟨.assign (.tmp 60), some 12, none⟩,
  ⟨.assign (.tmp 61), some 13, none⟩] [0, 1, 0, 4, 12, 0, 63, 127, 255, 255, 511, 2047] [false, true, false, true, true, false, true, false, false, false, false, false])
 (.seq (.region [⟨.move (.tmp 12), some 62, none⟩,
  ⟨.assign (.tmp 62), some 8, none⟩])
 .ret))
 .skip)))))
 (.seq (.draw [⟨.load 92 (.tmp 4), some 63, none⟩,
  ⟨.fieldAddr 32 (.tmp 5) 1, some 64, none⟩,
  ⟨.load 30 (.tmp 64), some 65, none⟩,
  ⟨.move (.tmp 9), some 66, none⟩,
  ⟨.indexAddr 42 (.tmp 66) (.const (Value.int .i64 0)), some 67, none⟩,
  ⟨.load 9 (.tmp 67), some 68, none⟩,
  ⟨.call (Go.Call.mk (.value (.func 83)) #[.tmp 63, .tmp 65, .tmp 68] #[92, 30, 9]), some 69, none⟩,
  ⟨.assign (.tmp 69), some 8, none⟩] [0, 0, 2, 0, 8, 24, 63, 127] [true, false, true, false, false, true, true, false])
 .ret)))))
theorem fc_view_stack_part : FnC Tryz.prog 54 70 [.tmp 8] c_view_stack_part := ⟨by kernel_rfl, Tryz.f54, _, Tryz.func54, rfl, rfl, rfl, by kernel_rfl⟩
def c_lower_Roots : AC := (.seq (.region [⟨.box 29 (.tmp 0), some 1, none⟩,
  ⟨.assign (.const (Value.slice none 0 0)), some 2, none⟩])
 (.seq (.region [⟨.fieldAddr 29 (.tmp 1) 2, some 8, none⟩,
  ⟨.load 27 (.tmp 8), some 9, none⟩,
  ⟨.assign (.tmp 9), some 3, none⟩])
 (.seq (.region [⟨.assign (.const (Value.slice none 0 0)), some 4, none⟩])
 (.seq (.seq (.region [⟨.move (.tmp 3), some 10, none⟩,
  ⟨.call (Go.Call.mk (.builtin .len) #[.tmp 10] #[106]), some 11, none⟩,
  ⟨.move (.const (Value.int .i64 0)), some 12, none⟩])
 (.block 0 (.loop (.seq (.region [⟨.binOp .lss 3 (.tmp 12) (.tmp 11) 3, some 13, none⟩])
 (.seq (.cond (.tmp 13) .skip
 (.exit 0))
 (.seq (.block 1 (.seq (.region [⟨.move (.tmp 12), some 14, none⟩,
  ⟨.assign (.tmp 14), some 5, none⟩])
 (.seq (.region [⟨.move (.tmp 5), some 15, none⟩,
  ⟨.binOp .add 3 (.tmp 15) (.const (Value.int .i64 1)) 3, some 16, none⟩,
  ⟨.build 45 #[(0, .tmp 16), (1, .const (Value.int .i64 1))], some 17, none⟩,
  ⟨.alloc 45, some 6, none⟩,
  ⟨.store 45 (.tmp 6) (.tmp 17), none, none⟩])
 (.seq (.region [⟨.move (.tmp 3), some 18, none⟩,
  ⟨.load 45 (.tmp 6), some 19, none⟩,
  ⟨.call (Go.Call.mk (.value (.func 86)) #[.tmp 18, .tmp 19] #[106, 45]), some 20, none⟩,
  ⟨.alloc 68, some 7, none⟩,
  ⟨.store 68 (.tmp 7) (.tmp 20), none, none⟩])
 (.seq (.seq (.region [⟨.fieldAddr 68 (.tmp 7) 0, some 21, none⟩,
  ⟨.load 3 (.tmp 21), some 22, none⟩,
  ⟨.binOp .neq 3 (.tmp 22) (.const (Value.int .i64 1)) 3, some 23, none⟩])
 (.cond (.tmp 23) (.exit 1)
 .skip))
 (.seq (.region [⟨.move (.tmp 4), some 24, none⟩,
  ⟨.load 45 (.tmp 6), some 25, none⟩,
  ⟨.buildSlice 30 1 #[(0, .tmp 25)], some 26, none⟩,
  ⟨.call (Go.Call.mk (.builtin .append) #[.tmp 24, .tmp 26] #[30, 30]), some 27, none⟩,
  ⟨.assign (.tmp 27), some 4, none⟩])
 (.seq (.region [⟨.load 68 (.tmp 7), some 28, none⟩,
  ⟨.call (Go.Call.mk (.value (.func 67)) #[.tmp 28] #[68]), some 29, none⟩])
 (.cond (.tmp 29) (.exit 0)
 .skip))))))))
 (.region [⟨.binOp .add 3 (.tmp 12) (.const (Value.int .i64 1)) 3, some 30, none⟩,
  ⟨.move (.tmp 30), some 12, none⟩])))))))
 (.seq (.region [⟨.move (.tmp 4), some 31, none⟩,
  ⟨.assign (.tmp 31), some 2, none⟩])
 .ret)))))
theorem fc_lower_Roots : FnC Tryz.prog 56 32 [.tmp 2] c_lower_Roots := ⟨by kernel_rfl, Tryz.f56, _, Tryz.func56, rfl, rfl, rfl, by kernel_rfl⟩
def c_ref16_Roots : AC := (.seq (.region [⟨.box 29 (.tmp 0), some 1, none⟩,
  ⟨.assign (.const (Value.slice none 0 0)), some 2, none⟩])
 (.seq (.region [⟨.buildSlice 30 0 #[], some 7, none⟩,
  ⟨.assign (.tmp 7), some 3, none⟩])
 (.seq (.seq (.region [⟨.assign (.const (Value.int .i64 1)), some 4, none⟩])
 (.block 0 (.loop (.seq (.seq (.region [⟨.move (.tmp 4), some 8, none⟩,
  ⟨.fieldAddr 29 (.tmp 1) 2, some 9, none⟩,
  ⟨.load 27 (.tmp 9), some 10, none⟩,
  ⟨.call (Go.Call.mk (.builtin .len) #[.tmp 10] #[27]), some 11, none⟩,
  ⟨.binOp .leq 3 (.tmp 8) (.tmp 11) 3, some 12, none⟩])
 (.cond (.tmp 12) .skip
 (.exit 0)))
 (.seq (.block 1 (.seq (.region [⟨.move (.tmp 4), some 15, none⟩,
  ⟨.build 45 #[(0, .tmp 15), (1, .const (Value.int .i64 1))], some 16, none⟩,
  ⟨.alloc 45, some 5, none⟩,
  ⟨.store 45 (.tmp 5) (.tmp 16), none, none⟩])
 (.seq (.region [⟨.load 29 (.tmp 1), some 17, none⟩,
  ⟨.load 45 (.tmp 5), some 18, none⟩,
  ⟨.call (Go.Call.mk (.value (.func 78)) #[.tmp 17, .tmp 18] #[29, 45]), some 19, none⟩,
  ⟨.alloc 68, some 6, none⟩,
  ⟨.store 68 (.tmp 6) (.tmp 19), none, none⟩])
 (.seq (.region [⟨.fieldAddr 68 (.tmp 6) 0, some 20, none⟩,
  ⟨.load 3 (.tmp 20), some 21, none⟩,
  ⟨.binOp .eql 3 (.tmp 21) (.const (Value.int .i64 1)) 3, some 22, none⟩])
 (.cond (.tmp 22) (.seq (.region [⟨.move (.tmp 3), some 23, none⟩,
  ⟨.load 45 (.tmp 5), some 24, none⟩,
  ⟨.buildSlice 30 1 #[(0, .tmp 24)], some 25, none⟩,
  ⟨.call (Go.Call.mk (.builtin .append) #[.tmp 23, .tmp 25] #[30, 30]), some 26, none⟩,
  ⟨.assign (.tmp 26), some 3, none⟩])
 (.seq (.region [⟨.load 68 (.tmp 6), some 27, none⟩,
  ⟨.call (Go.Call.mk (.value (.func 71)) #[.tmp 27] #[68]), some 28, none⟩])
 (.cond (.tmp 28) (.seq (.region [⟨.move (.tmp 3), some 29, none⟩,
  ⟨.assign (.tmp 29), some 2, none⟩])
 .ret)
 .skip)))
 .skip)))))
 (.region [⟨.move (.tmp 4), some 13, none⟩,
  ⟨.binOp .add 3 (.tmp 13) (.const (Value.int .i64 1)) 3, some 14, none⟩,
  ⟨.assign (.tmp 14), some 4, none⟩]))))))
 (.seq (.region [⟨.move (.tmp 3), some 30, none⟩,
  ⟨.assign (.tmp 30), some 2, none⟩])
 .ret))))
theorem fc_ref16_Roots : FnC Tryz.prog 57 31 [.tmp 2] c_ref16_Roots := ⟨by kernel_rfl, Tryz.f57, _, Tryz.func57, rfl, rfl, rfl, by kernel_rfl⟩
def c_ref09_Has : AC := (.seq (.region [⟨.box 66 (.tmp 0), some 2, none⟩,
  ⟨.assign (.const (Value.bool false)), some 4, none⟩])
 (.seq (.region [⟨.fieldAddr 66 (.tmp 2) 0, some 5, none⟩,
  ⟨.load 3 (.tmp 5), some 6, none⟩,
  ⟨.binOp .geq 3 (.tmp 6) (.const (Value.int .i64 0)) 3, some 7, none⟩,
  ⟨.move (.tmp 7), some 8, none⟩,
  ⟨.fieldAddr 66 (.tmp 2) 0, some 9, (some (8, true))⟩,
  ⟨.load 3 (.tmp 9), some 10, (some (8, true))⟩,
  ⟨.move (.tmp 1), some 11, (some (8, true))⟩,
  ⟨.call (Go.Call.mk (.value (.func 87)) #[.tmp 10, .tmp 11] #[3, 3]), some 12, (some (8, true))⟩,
  ⟨.pick (.tmp 8) (.tmp 12) (.const (Value.bool false)), some 13, none⟩,
  ⟨.assign (.tmp 13), some 4, none⟩])
 .ret))
theorem fc_ref09_Has : FnC Tryz.prog 58 14 [.tmp 4] c_ref09_Has := ⟨by kernel_rfl, Tryz.f58, _, Tryz.func58, rfl, rfl, rfl, by kernel_rfl⟩
def c_ref04_Redirect : AC := (.seq (.region [⟨.assign (.const (Value.slice none 0 0)), some 2, none⟩,
  ⟨.assign (.const (Value.bool false)), some 3, none⟩,
  ⟨.assign (.const (Value.bool false)), some 4, none⟩])
 (.seq (.seq (.region [⟨.move (.tmp 0), some 7, none⟩,
  ⟨.call (Go.Call.mk (.builtin .len) #[.tmp 7] #[9]), some 8, none⟩,
  ⟨.binOp .gtr 3 (.tmp 8) (.const (Value.int .i64 24)) 3, some 9, none⟩])
 (.cond (.tmp 9) (.seq (.region [⟨.assign (.const (Value.slice none 0 0)), some 2, none⟩,
  ⟨.assign (.const (Value.bool false)), some 3, none⟩,
  ⟨.assign (.const (Value.bool false)), some 4, none⟩])
 .ret)
 .skip))
 (.seq (.seq (.region [⟨.move (.tmp 0), some 10, none⟩,
  ⟨.call (Go.Call.mk (.builtin .len) #[.tmp 10] #[9]), some 11, none⟩,
  ⟨.binOp .gtr 3 (.tmp 11) (.const (Value.int .i64 0)) 3, some 12, none⟩,
  ⟨.move (.tmp 12), some 13, none⟩,
  ⟨.move (.tmp 0), some 14, (some (13, true))⟩,
  ⟨.index 9 (.tmp 14) (.const (Value.int .i64 0)), some 15, (some (13, true))⟩,
  ⟨.binOp .eql 5 (.tmp 15) (.const (Value.int .u8 47)) 5, some 16, (some (13, true))⟩,
  ⟨.pick (.tmp 13) (.tmp 16) (.const (Value.bool false)), some 17, none⟩])
 (.cond (.tmp 17) (.seq (.region [⟨.move (.tmp 0), some 19, none⟩,
  ⟨.call (Go.Call.mk (.value (.func 88)) #[.tmp 19] #[9]), some 20, none⟩,
  ⟨.move (.tmp 20), some 18, none⟩,
  ⟨.extract (.tmp 18) 0, some 21, none⟩,
  ⟨.extract (.tmp 18) 1, some 22, none⟩,
  ⟨.assign (.tmp 21), some 5, none⟩,
  ⟨.assign (.tmp 22), some 6, none⟩])
 (.seq (.region [⟨.move (.tmp 5), some 23, none⟩,
  ⟨.move (.tmp 6), some 24, none⟩,
  ⟨.move (.tmp 6), some 25, none⟩,
  ⟨.assign (.tmp 23), some 2, none⟩,
  ⟨.assign (.tmp 24), some 3, none⟩,
  ⟨.assign (.tmp 25), some 4, none⟩])
 .ret))
 .skip))
 (.seq (.seq (.region [⟨.move (.tmp 0), some 26, none⟩,
  ⟨.call (Go.Call.mk (.value (.func 89)) #[.tmp 26] #[9]), some 27, none⟩])
 (.cond (.tmp 27) (.seq (.region [⟨.move (.tmp 0), some 28, none⟩,
  ⟨.buildSlice 42 1 #[(0, .tmp 28)], some 29, none⟩,
  ⟨.assign (.tmp 29), some 2, none⟩,
  ⟨.assign (.const (Value.bool false)), some 3, none⟩,
  ⟨.assign (.const (Value.bool true)), some 4, none⟩])
 .ret)
 .skip))
 (.seq (.region [⟨.assign (.const (Value.slice none 0 0)), some 2, none⟩,
  ⟨.assign (.const (Value.bool false)), some 3, none⟩,
  ⟨.assign (.const (Value.bool false)), some 4, none⟩])
 .ret)))))
theorem fc_ref04_Redirect : FnC Tryz.prog 59 30 [.tmp 2, .tmp 3, .tmp 4] c_ref04_Redirect := ⟨by kernel_rfl, Tryz.f59, _, Tryz.func59, rfl, rfl, rfl, by kernel_rfl⟩
def c_ref16_Look : AC := (.seq (.region [⟨.box 29 (.tmp 0), some 3, none⟩,
  ⟨.assign (.const (Value.slice none 0 0)), some 6, none⟩,
  ⟨.assign (.const (Value.bool false)), some 7, none⟩])
 (.seq (.region [⟨.move (.tmp 1), some 12, none⟩,
  ⟨.assign (.tmp 12), some 8, none⟩])
 (.seq (.seq (.region [⟨.assign (.const (Value.int .i64 0)), some 9, none⟩])
 (.block 0 (.loop (.seq (.seq (.region [⟨.move (.tmp 9), some 13, none⟩,
  ⟨.move (.tmp 2), some 14, none⟩,
  ⟨.call (Go.Call.mk (.builtin .len) #[.tmp 14] #[42]), some 15, none⟩,
  ⟨.binOp .lss 3 (.tmp 13) (.tmp 15) 3, some 16, none⟩])
 (.cond (.tmp 16) .skip
 (.exit 0)))
 (.seq (.block 1 (.seq (.draw [⟨.load 29 (.tmp 3), some 20, none⟩,
  ⟨.move (.tmp 8), some 21, none⟩,
  ⟨.move (.tmp 2), some 22, none⟩,
  ⟨.move (.tmp 9), some 23, none⟩,
  ⟨.indexAddr 42 (.tmp 22) (.tmp 23), some 24, none⟩,
  ⟨.load 9 (.tmp 24), some 25, none⟩,
  ⟨.call (Go.Call.mk (.value (.func 49)) #[.tmp 20, .tmp 21, .tmp 25] #[29, 30, 9]), some 26, none⟩,
  ⟨.move (.tmp 26), some 19, none⟩,
  ⟨.extract (.tmp 19) 0, some 27, none⟩,
  ⟨.extract (.tmp 19) 1, some 28, none⟩,
  ⟨.assign (.tmp 27), some 10, none⟩,
  ⟨.assign (.tmp 28), some 11, none⟩] [0, 0, 0, 0, 12, 28, 63, 127, 255, 255, 511, 2047] [true, false, false, false, false, true, true, false, false, false, false, false])
 (.seq (.seq (.region [⟨.move (.tmp 10), some 29, none⟩,
  ⟨.binOp .neq 3 (.tmp 29) (.const (Value.int .i64 1)) 3, some 30, none⟩])
 (.cond (.tmp 30) (.seq (.region [⟨.assign (.const (Value.slice none 0 0)), some 6, none⟩,
  ⟨.assign (.const (Value.bool false)), some 7, none⟩])
 .ret)
 .skip))
 (.region [⟨.move (.tmp 11), some 31, none⟩,
  ⟨.assign (.tmp 31), some 8, none⟩]))))
 (.region [⟨.move (.tmp 9), some 17, none⟩,
  ⟨.binOp .add 3 (.tmp 17) (.const (Value.int .i64 1)) 3, some 18, none⟩,
  ⟨.assign (.tmp 18), some 9, none⟩]))))))
 (.seq (.region [⟨.move (.tmp 8), some 32, none⟩,
  ⟨.assign (.tmp 32), some 6, none⟩,
  ⟨.assign (.const (Value.bool true)), some 7, none⟩])
 .ret))))
theorem fc_ref16_Look : FnC Tryz.prog 60 33 [.tmp 6, .tmp 7] c_ref16_Look := ⟨by kernel_rfl, Tryz.f60, _, Tryz.func60, rfl, rfl, rfl, by kernel_rfl⟩
def c_lower_pile_entry : AC := (.seq (.region [⟨.box 45 (.tmp 1), some 4, none⟩,
  ⟨.alloc 45, some 6, none⟩,
  ⟨.alloc 68, some 7, none⟩])
 (.seq (.region [⟨.move (.tmp 0), some 13, none⟩,
  ⟨.load 45 (.tmp 4), some 14, none⟩,
  ⟨.call (Go.Call.mk (.value (.func 86)) #[.tmp 13, .tmp 14] #[106, 45]), some 15, none⟩,
  ⟨.alloc 68, some 8, none⟩,
  ⟨.store 68 (.tmp 8) (.tmp 15), none, none⟩])
 (.seq (.seq (.region [⟨.fieldAddr 68 (.tmp 8) 0, some 16, none⟩,
  ⟨.load 3 (.tmp 16), some 17, none⟩,
  ⟨.binOp .neq 3 (.tmp 17) (.const (Value.int .i64 1)) 3, some 18, none⟩])
 (.cond (.tmp 18) (.seq (.region [⟨.build 45 #[], some 19, none⟩,
  ⟨.build 68 #[], some 20, none⟩,
  ⟨.store 45 (.tmp 6) (.tmp 19), none, none⟩,
  ⟨.store 68 (.tmp 7) (.tmp 20), none, none⟩])
 .ret)
 .skip))
 (.seq (.seq (.region [⟨.fieldAddr 68 (.tmp 8) 5, some 21, none⟩,
  ⟨.load 62 (.tmp 21), some 22, none⟩,
  ⟨.call (Go.Call.mk (.builtin .len) #[.tmp 22] #[62]), some 23, none⟩,
  ⟨.move (.const (Value.int .i64 0)), some 24, none⟩])
 (.block 0 (.loop (.seq (.region [⟨.binOp .lss 3 (.tmp 24) (.tmp 23) 3, some 25, none⟩])
 (.seq (.cond (.tmp 25) .skip
 (.exit 0))
 (.seq (.block 1 (.seq (.region [⟨.indexAddr 62 (.tmp 22) (.tmp 24), some 26, none⟩,
  ⟨.load 55 (.tmp 26), some 27, none⟩,
  ⟨.alloc 55, some 10, none⟩,
  ⟨.store 55 (.tmp 10) (.tmp 27), none, none⟩])
 (.seq (.region [⟨.fieldAddr 45 (.tmp 4) 0, some 28, none⟩,
  ⟨.load 3 (.tmp 28), some 29, none⟩,
  ⟨.fieldAddr 55 (.tmp 10) 1, some 30, none⟩,
  ⟨.load 3 (.tmp 30), some 31, none⟩,
  ⟨.build 45 #[(0, .tmp 29), (1, .tmp 31)], some 32, none⟩,
  ⟨.alloc 45, some 11, none⟩,
  ⟨.store 45 (.tmp 11) (.tmp 32), none, none⟩])
 (.seq (.region [⟨.move (.tmp 0), some 33, none⟩,
  ⟨.load 45 (.tmp 11), some 34, none⟩,
  ⟨.call (Go.Call.mk (.value (.func 86)) #[.tmp 33, .tmp 34] #[106, 45]), some 35, none⟩,
  ⟨.alloc 68, some 12, none⟩,
  ⟨.store 68 (.tmp 12) (.tmp 35), none, none⟩])
 (.seq (.region [⟨.fieldAddr 55 (.tmp 10) 2, some 36, none⟩,
  ⟨.load 9 (.tmp 36), some 37, none⟩,
  ⟨.move (.tmp 2), some 38, none⟩,
  ⟨.binOp .eql 9 (.tmp 37) (.tmp 38) 9, some 39, none⟩,
  ⟨.move (.tmp 39), some 40, none⟩,
  ⟨.fieldAddr 68 (.tmp 12) 0, some 41, (some (40, true))⟩,
  ⟨.load 3 (.tmp 41), some 42, (some (40, true))⟩,
  ⟨.binOp .neq 3 (.tmp 42) (.const (Value.int .i64 0)) 3, some 43, (some (40, true))⟩,
  ⟨.pick (.tmp 40) (.tmp 43) (.const (Value.bool false)), some 44, none⟩])
 (.cond (.tmp 44) (.seq (.draw [⟨.load 45 (.tmp 11), some 45, none⟩,
  ⟨.load 68 (.tmp 12), some 46, none⟩,
  ⟨.store 45 (.tmp 6) (.tmp 45), none, none⟩,
  ⟨.store 68 (.tmp 7) (.tmp 46), none, none⟩] [0, 0, 1, 7] [])
 .ret)
 .skip))))))
 (.region [⟨.binOp .add 3 (.tmp 24) (.const (Value.int .i64 1)) 3, some 47, none⟩,
  ⟨.move (.tmp 47), some 24, none⟩])))))))
 (.seq (.region [⟨.build 45 #[], some 48, none⟩,
  ⟨.build 68 #[], some 49, none⟩,
  ⟨.store 45 (.tmp 6) (.tmp 48), none, none⟩,
  ⟨.store 68 (.tmp 7) (.tmp 49), none, none⟩])
 .ret)))))
theorem fc_lower_pile_entry : FnC Tryz.prog 66 50 [.cell 6 45, .cell 7 68] c_lower_pile_entry := ⟨by kernel_rfl, Tryz.f66, _, Tryz.func66, rfl, rfl, rfl, by kernel_rfl⟩
def c_lower_opaque : AC := (.seq (.region [⟨.box 68 (.tmp 0), some 1, none⟩,
  ⟨.assign (.const (Value.bool false)), some 2, none⟩])
 (.seq (.region [⟨.fieldAddr 68 (.tmp 1) 6, some 3, none⟩,
  ⟨.fieldAddr 66 (.tmp 3) 0, some 4, none⟩,
  ⟨.load 3 (.tmp 4), some 5, none⟩,
  ⟨.binOp .geq 3 (.tmp 5) (.const (Value.int .i64 0)) 3, some 6, none⟩,
  ⟨.move (.tmp 6), some 7, none⟩,
  ⟨.fieldAddr 68 (.tmp 1) 6, some 8, (some (7, true))⟩,
  ⟨.fieldAddr 66 (.tmp 8) 0, some 9, (some (7, true))⟩,
  ⟨.load 3 (.tmp 9), some 10, (some (7, true))⟩,
  ⟨.binOp .and 3 (.tmp 10) (.const (Value.int .i64 1)) 3, some 11, (some (7, true))⟩,
  ⟨.binOp .neq 3 (.tmp 11) (.const (Value.int .i64 0)) 3, some 12, (some (7, true))⟩,
  ⟨.pick (.tmp 7) (.tmp 12) (.const (Value.bool false)), some 13, none⟩,
  ⟨.move (.tmp 13), some 14, none⟩,
  ⟨.fieldAddr 68 (.tmp 1) 6, some 15, (some (14, true))⟩,
  ⟨.fieldAddr 66 (.tmp 15) 1, some 16, (some (14, true))⟩,
  ⟨.load 3 (.tmp 16), some 17, (some (14, true))⟩,
  ⟨.binOp .eql 3 (.tmp 17) (.const (Value.int .i64 121)) 3, some 18, (some (14, true))⟩,
  ⟨.pick (.tmp 14) (.tmp 18) (.const (Value.bool false)), some 19, none⟩,
  ⟨.assign (.tmp 19), some 2, none⟩])
 .ret))
theorem fc_lower_opaque : FnC Tryz.prog 67 20 [.tmp 2] c_lower_opaque := ⟨by kernel_rfl, Tryz.f67, _, Tryz.func67, rfl, rfl, rfl, by kernel_rfl⟩
def c_slices_IndexFunc_api_Entry_api_Entry : AC := (.seq (.region [⟨.assign (.const (Value.int .i64 0)), some 4, none⟩])
 (.seq (.seq (.region [⟨.move (.tmp 0), some 6, none⟩,
  ⟨.call (Go.Call.mk (.builtin .len) #[.tmp 6] #[62]), some 7, none⟩,
  ⟨.move (.const (Value.int .i64 0)), some 8, none⟩])
 (.block 0 (.loop (.seq (.region [⟨.binOp .lss 3 (.tmp 8) (.tmp 7) 3, some 9, none⟩])
 (.seq (.cond (.tmp 9) .skip
 (.exit 0))
 (.seq (.block 1 (.seq (.region [⟨.move (.tmp 8), some 10, none⟩,
  ⟨.assign (.tmp 10), some 5, none⟩])
 (.seq (.region [⟨.move (.tmp 1), some 11, none⟩,
  ⟨.move (.tmp 0), some 12, none⟩,
  ⟨.move (.tmp 5), some 13, none⟩,
  ⟨.indexAddr 62 (.tmp 12) (.tmp 13), some 14, none⟩,
  ⟨.load 55 (.tmp 14), some 15, none⟩,
  ⟨.call (Go.Call.mk (.value (.tmp 11)) #[.tmp 15] #[55]), some 16, none⟩])
 (.cond (.tmp 16) (.seq (.region [⟨.move (.tmp 5), some 17, none⟩,
  ⟨.assign (.tmp 17), some 4, none⟩])
 .ret)
 .skip))))
 (.region [⟨.binOp .add 3 (.tmp 8) (.const (Value.int .i64 1)) 3, some 18, none⟩,
  ⟨.move (.tmp 18), some 8, none⟩])))))))
 (.seq (.region [⟨.assign (.const (Value.int .i64 (-1))), some 4, none⟩])
 .ret)))
theorem fc_slices_IndexFunc_api_Entry_api_Entry : FnC Tryz.prog 68 19 [.tmp 4] c_slices_IndexFunc_api_Entry_api_Entry := ⟨by kernel_rfl, Tryz.f68, _, Tryz.func68, rfl, rfl, rfl, by kernel_rfl⟩
def c_ref13_Dirs : AC := (.seq (.region [⟨.box 26 (.tmp 0), some 2, none⟩,
  ⟨.assign (.const (Value.slice none 0 0)), some 4, none⟩])
 (.seq (.region [⟨.load 26 (.tmp 2), some 8, none⟩,
  ⟨.move (.tmp 1), some 9, none⟩,
  ⟨.call (Go.Call.mk (.value (.func 92)) #[.tmp 8, .tmp 9] #[26, 111]), some 10, none⟩,
  ⟨.move (.tmp 10), some 7, none⟩,
  ⟨.extract (.tmp 7) 0, some 11, none⟩,
  ⟨.extract (.tmp 7) 1, some 12, none⟩,
  ⟨.assign (.tmp 11), some 5, none⟩,
  ⟨.assign (.tmp 12), some 6, none⟩])
 (.seq (.region [⟨.move (.tmp 5), some 13, none⟩,
  ⟨.assign (.tmp 13), some 4, none⟩])
 .ret)))
theorem fc_ref13_Dirs : FnC Tryz.prog 69 14 [.tmp 4] c_ref13_Dirs := ⟨by kernel_rfl, Tryz.f69, _, Tryz.func69, rfl, rfl, rfl, by kernel_rfl⟩
def c_walk_walk : AC := (.seq (.region [⟨.box 26 (.tmp 0), some 2, none⟩,
  ⟨.assign (.const (Value.pointer none)), some 4, none⟩])
 (.seq (.region [⟨.load 26 (.tmp 2), some 9, none⟩,
  ⟨.makeMap 112 none, some 10, none⟩,
  ⟨.build 115 #[(0, .tmp 9), (2, .tmp 10)], some 11, none⟩,
  ⟨.box 115 (.tmp 11), some 12, none⟩,
  ⟨.assign (.tmp 12), some 5, none⟩])
 (.seq (.region [⟨.assign (.const (Value.int .i64 0)), some 6, none⟩])
 (.seq (.seq (.region [⟨.move (.tmp 1), some 13, none⟩,
  ⟨.call (Go.Call.mk (.builtin .len) #[.tmp 13] #[111]), some 14, none⟩,
  ⟨.move (.const (Value.int .i64 0)), some 15, none⟩])
 (.block 0 (.loop (.seq (.region [⟨.binOp .lss 3 (.tmp 15) (.tmp 14) 3, some 16, none⟩])
 (.seq (.cond (.tmp 16) .skip
 (.exit 0))
 (.seq (.block 1 (.seq (.region [⟨.indexAddr 111 (.tmp 13) (.tmp 15), some 17, none⟩,
  ⟨.load 3 (.tmp 17), some 18, none⟩,
  ⟨.assign (.tmp 18), some 8, none⟩])
 (.scope (.seq (.seq (.region [⟨.move (.tmp 5), some 19, none⟩,
  ⟨.move (.tmp 8), some 20, none⟩,
  ⟨.call (Go.Call.mk (.value (.func 93)) #[.tmp 19, .tmp 20] #[116, 3]), some 21, none⟩,
  ⟨.field 68 (.tmp 21) 0, some 22, none⟩,
  ⟨.binOp .eql 3 (.tmp 22) (.const (Value.int .i64 1)) 3, some 23, none⟩])
 (.cond (.tmp 23) (.region [⟨.move (.tmp 5), some 24, none⟩,
  ⟨.move (.tmp 8), some 25, none⟩,
  ⟨.build 79 #[(0, .tmp 25), (1, .const (Value.int .i64 (-1)))], some 26, none⟩,
  ⟨.call (Go.Call.mk (.value (.func 94)) #[.tmp 24, .tmp 26] #[116, 79]), some 27, none⟩])
 .skip))
 (.seq (.label 0)
 (.seq (.region [⟨.move (.tmp 6), some 28, none⟩,
  ⟨.move (.tmp 5), some 29, none⟩,
  ⟨.nilCheck (.tmp 29), some 30, none⟩,
  ⟨.fieldAddr 115 (.tmp 30) 1, some 31, none⟩,
  ⟨.load 73 (.tmp 31), some 32, none⟩,
  ⟨.call (Go.Call.mk (.builtin .len) #[.tmp 32] #[73]), some 33, none⟩,
  ⟨.binOp .lss 3 (.tmp 28) (.tmp 33) 3, some 34, none⟩])
 (.cond (.tmp 34) (.seq (.region [⟨.move (.tmp 5), some 35, none⟩,
  ⟨.move (.tmp 6), some 36, none⟩,
  ⟨.call (Go.Call.mk (.value (.func 95)) #[.tmp 35, .tmp 36] #[116, 3]), some 37, none⟩])
 (.seq (.region [⟨.move (.tmp 6), some 38, none⟩,
  ⟨.binOp .add 3 (.tmp 38) (.const (Value.int .i64 1)) 3, some 39, none⟩,
  ⟨.assign (.tmp 39), some 6, none⟩])
 (.goto 0)))
 .skip)))))))
 (.region [⟨.binOp .add 3 (.tmp 15) (.const (Value.int .i64 1)) 3, some 40, none⟩,
  ⟨.move (.tmp 40), some 15, none⟩])))))))
 (.seq (.region [⟨.move (.tmp 5), some 41, none⟩,
  ⟨.assign (.tmp 41), some 4, none⟩])
 .ret)))))
theorem fc_walk_walk : FnC Tryz.prog 70 42 [.tmp 4] c_walk_walk := ⟨by kernel_rfl, Tryz.f70, _, Tryz.func70, rfl, rfl, rfl, by kernel_rfl⟩
def c_ref16_Opaque : AC := (.seq (.region [⟨.box 68 (.tmp 0), some 1, none⟩,
  ⟨.assign (.const (Value.bool false)), some 2, none⟩])
 (.seq (.region [⟨.fieldAddr 68 (.tmp 1) 6, some 3, none⟩,
  ⟨.load 66 (.tmp 3), some 4, none⟩,
  ⟨.call (Go.Call.mk (.value (.func 58)) #[.tmp 4, .const (Value.int .i64 1)] #[66, 3]), some 5, none⟩,
  ⟨.move (.tmp 5), some 6, none⟩,
  ⟨.fieldAddr 68 (.tmp 1) 6, some 7, (some (6, true))⟩,
  ⟨.fieldAddr 66 (.tmp 7) 1, some 8, (some (6, true))⟩,
  ⟨.load 3 (.tmp 8), some 9, (some (6, true))⟩,
  ⟨.binOp .eql 3 (.tmp 9) (.const (Value.int .i64 121)) 3, some 10, (some (6, true))⟩,
  ⟨.pick (.tmp 6) (.tmp 10) (.const (Value.bool false)), some 11, none⟩,
  ⟨.assign (.tmp 11), some 2, none⟩])
 .ret))
theorem fc_ref16_Opaque : FnC Tryz.prog 71 12 [.tmp 2] c_ref16_Opaque := ⟨by kernel_rfl, Tryz.f71, _, Tryz.func71, rfl, rfl, rfl, by kernel_rfl⟩
def c_slices_ContainsFunc_api_Node_api_Node : AC := (.seq (.region [⟨.assign (.const (Value.bool false)), some 4, none⟩])
 (.seq (.region [⟨.move (.tmp 0), some 5, none⟩,
  ⟨.move (.tmp 1), some 6, none⟩,
  ⟨.call (Go.Call.mk (.value (.func 96)) #[.tmp 5, .tmp 6] #[24, 82]), some 7, none⟩,
  ⟨.binOp .geq 3 (.tmp 7) (.const (Value.int .i64 0)) 3, some 8, none⟩,
  ⟨.assign (.tmp 8), some 4, none⟩])
 .ret))
theorem fc_slices_ContainsFunc_api_Node_api_Node : FnC Tryz.prog 72 9 [.tmp 4] c_slices_ContainsFunc_api_Node_api_Node := ⟨by kernel_rfl, Tryz.f72, _, Tryz.func72, rfl, rfl, rfl, by kernel_rfl⟩
def c_plain_Branch_1 : AC := (.seq (.region [⟨.box 68 (.tmp 0), some 1, none⟩,
  ⟨.assign (.const (Value.bool false)), some 2, none⟩])
 (.seq (.region [⟨.load 68 (.tmp 1), some 3, none⟩,
  ⟨.call (Go.Call.mk (.value (.func 74)) #[.tmp 3] #[68]), some 4, none⟩,
  ⟨.unOp .not 4 (.tmp 4), some 5, none⟩,
  ⟨.assign (.tmp 5), some 2, none⟩])
 .ret))
theorem fc_plain_Branch_1 : FnC Tryz.prog 73 6 [.tmp 2] c_plain_Branch_1 := ⟨by kernel_rfl, Tryz.f73, _, Tryz.func73, rfl, rfl, rfl, by kernel_rfl⟩
def c_plain_Node : AC := (.seq (.region [⟨.box 68 (.tmp 0), some 1, none⟩,
  ⟨.assign (.const (Value.bool false)), some 2, none⟩])
 (.seq (.seq (.region [⟨.fieldAddr 68 (.tmp 1) 5, some 5, none⟩,
  ⟨.load 62 (.tmp 5), some 6, none⟩,
  ⟨.call (Go.Call.mk (.builtin .len) #[.tmp 6] #[62]), some 7, none⟩,
  ⟨.move (.const (Value.int .i64 0)), some 8, none⟩])
 (.block 0 (.loop (.seq (.region [⟨.binOp .lss 3 (.tmp 8) (.tmp 7) 3, some 9, none⟩])
 (.seq (.cond (.tmp 9) .skip
 (.exit 0))
 (.seq (.block 1 (.seq (.region [⟨.move (.tmp 8), some 10, none⟩,
  ⟨.indexAddr 62 (.tmp 6) (.tmp 8), some 11, none⟩,
  ⟨.load 55 (.tmp 11), some 12, none⟩,
  ⟨.alloc 55, some 4, none⟩,
  ⟨.assign (.tmp 10), some 3, none⟩,
  ⟨.store 55 (.tmp 4) (.tmp 12), none, none⟩])
 (.seq (.draw [⟨.fieldAddr 55 (.tmp 4) 0, some 13, none⟩,
  ⟨.load 3 (.tmp 13), some 14, none⟩,
  ⟨.binOp .lss 3 (.tmp 14) (.const (Value.int .i64 0)) 3, some 15, none⟩,
  ⟨.move (.tmp 15), some 16, none⟩,
  ⟨.fieldAddr 55 (.tmp 4) 0, some 17, (some (16, false))⟩,
  ⟨.load 3 (.tmp 17), some 18, (some (16, false))⟩,
  ⟨.binOp .geq 3 (.tmp 18) (.const (Value.int .i64 16)) 3, some 19, (some (16, false))⟩,
  ⟨.pick (.tmp 16) (.const (Value.bool true)) (.tmp 19), some 20, none⟩,
  ⟨.move (.tmp 20), some 21, none⟩,
  ⟨.move (.tmp 3), some 22, (some (21, false))⟩,
  ⟨.binOp .gtr 3 (.tmp 22) (.const (Value.int .i64 0)) 3, some 23, (some (21, false))⟩,
  ⟨.move (.tmp 23), some 24, (some (21, false))⟩,
  ⟨.fieldAddr 68 (.tmp 1) 5, some 25, (some (24, true))⟩,
  ⟨.load 62 (.tmp 25), some 26, (some (24, true))⟩,
  ⟨.move (.tmp 3), some 27, (some (24, true))⟩,
  ⟨.binOp .sub 3 (.tmp 27) (.const (Value.int .i64 1)) 3, some 28, (some (24, true))⟩,
  ⟨.indexAddr 62 (.tmp 26) (.tmp 28), some 29, (some (24, true))⟩,
  ⟨.fieldAddr 55 (.tmp 29) 0, some 30, (some (24, true))⟩,
  ⟨.load 3 (.tmp 30), some 31, (some (24, true))⟩,
  ⟨.fieldAddr 55 (.tmp 4) 0, some 32, (some (24, true))⟩,
  ⟨.load 3 (.tmp 32), some 33, (some (24, true))⟩,
  ⟨.binOp .geq 3 (.tmp 31) (.tmp 33) 3, some 34, (some (24, true))⟩,
  ⟨.pick (.tmp 24) (.tmp 34) (.const (Value.bool false)), some 35, (some (21, false))⟩,
  ⟨.pick (.tmp 21) (.const (Value.bool true)) (.tmp 35), some 36, none⟩] [0, 1, 3, 7, 15, 31, 63, 127, 255, 511, 1023, 2047, 4095, 8191, 4095, 20479, 65535, 131071, 262143, 4095, 528383, 2097151, 4194303, 8388607] [false, true, false, false, false, true, false, false, false, false, false, false, false, true, false, false, false, false, true, false, true, false, false, false])
 (.cond (.tmp 36) (.seq (.region [⟨.assign (.const (Value.bool false)), some 2, none⟩])
 .ret)
 .skip))))
 (.region [⟨.binOp .add 3 (.tmp 8) (.const (Value.int .i64 1)) 3, some 37, none⟩,
  ⟨.move (.tmp 37), some 8, none⟩])))))))
 (.seq (.region [⟨.fieldAddr 68 (.tmp 1) 0, some 38, none⟩,
  ⟨.load 3 (.tmp 38), some 39, none⟩,
  ⟨.binOp .geq 3 (.tmp 39) (.const (Value.int .i64 0)) 3, some 40, none⟩,
  ⟨.move (.tmp 40), some 41, none⟩,
  ⟨.fieldAddr 68 (.tmp 1) 0, some 42, (some (41, true))⟩,
  ⟨.load 3 (.tmp 42), some 43, (some (41, true))⟩,
  ⟨.binOp .leq 3 (.tmp 43) (.const (Value.int .i64 4)) 3, some 44, (some (41, true))⟩,
  ⟨.pick (.tmp 41) (.tmp 44) (.const (Value.bool false)), some 45, none⟩,
  ⟨.move (.tmp 45), some 46, none⟩,
  ⟨.fieldAddr 68 (.tmp 1) 2, some 47, (some (46, true))⟩,
  ⟨.load 3 (.tmp 47), some 48, (some (46, true))⟩,
  ⟨.binOp .geq 3 (.tmp 48) (.const (Value.int .i64 (-9007199254740992))) 3, some 49, (some (46, true))⟩,
  ⟨.pick (.tmp 46) (.tmp 49) (.const (Value.bool false)), some 50, none⟩,
  ⟨.move (.tmp 50), some 51, none⟩,
  ⟨.fieldAddr 68 (.tmp 1) 2, some 52, (some (51, true))⟩,
  ⟨.load 3 (.tmp 52), some 53, (some (51, true))⟩,
  ⟨.binOp .leq 3 (.tmp 53) (.const (Value.int .i64 9007199254740992)) 3, some 54, (some (51, true))⟩,
  ⟨.pick (.tmp 51) (.tmp 54) (.const (Value.bool false)), some 55, none⟩,
  ⟨.move (.tmp 55), some 56, none⟩,
  ⟨.fieldAddr 68 (.tmp 1) 6, some 57, (some (56, true))⟩,
  ⟨.fieldAddr 66 (.tmp 57) 0, some 58, (some (56, true))⟩,
  ⟨.load 3 (.tmp 58), some 59, (some (56, true))⟩,
  ⟨.binOp .geq 3 (.tmp 59) (.const (Value.int .i64 0)) 3, some 60, (some (56, true))⟩,
  ⟨.pick (.tmp 56) (.tmp 60) (.const (Value.bool false)), some 61, none⟩,
  ⟨.move (.tmp 61), some 62, none⟩,
  ⟨.fieldAddr 68 (.tmp 1) 6, some 63, (some (62, true))⟩,
  ⟨.fieldAddr 66 (.tmp 63) 0, some 64, (some (62, true))⟩,
  ⟨.load 3 (.tmp 64), some 65, (some (62, true))⟩,
  ⟨.binOp .leq 3 (.tmp 65) (.const (Value.int .i64 31)) 3, some 66, (some (62, true))⟩,
  ⟨.pick (.tmp 62) (.tmp 66) (.const (Value.bool false)), some 67, none⟩,
  ⟨.move (.tmp 67), some 68, none⟩,
  ⟨.fieldAddr 68 (.tmp 1) 4, some 69, (some (68, true))⟩,
  ⟨.load 61 (.tmp 69), some 70, (some (68, true))⟩,
  ⟨.call (Go.Call.mk (.builtin .len) #[.tmp 70] #[61]), some 71, (some (68, true))⟩,
  ⟨.binOp .leq 3 (.tmp 71) (.const (Value.int .i64 300)) 3, some 72, (some (68, true))⟩,
  ⟨.pick (.tmp 68) (.tmp 72) (.const (Value.bool false)), some 73, none⟩,
  ⟨.move (.tmp 73), some 74, none⟩,
  ⟨.fieldAddr 68 (.tmp 1) 5, some 75, (some (74, true))⟩,
  ⟨.load 62 (.tmp 75), some 76, (some (74, true))⟩,
  ⟨.call (Go.Call.mk (.builtin .len) #[.tmp 76] #[62]), some 77, (some (74, true))⟩,
  ⟨.binOp .leq 3 (.tmp 77) (.const (Value.int .i64 16)) 3, some 78, (some (74, true))⟩,
  ⟨.pick (.tmp 74) (.tmp 78) (.const (Value.bool false)), some 79, none⟩,
  ⟨.move (.tmp 79), some 80, none⟩,
  ⟨.fieldAddr 68 (.tmp 1) 6, some 81, (some (80, true))⟩,
  ⟨.fieldAddr 66 (.tmp 81) 2, some 82, (some (80, true))⟩,
  ⟨.load 9 (.tmp 82), some 83, (some (80, true))⟩,
  ⟨.call (Go.Call.mk (.builtin .len) #[.tmp 83] #[9]), some 84, (some (80, true))⟩,
  ⟨.binOp .leq 3 (.tmp 84) (.const (Value.int .i64 40)) 3, some 85, (some (80, true))⟩,
  ⟨.pick (.tmp 80) (.tmp 85) (.const (Value.bool false)), some 86, none⟩,
  ⟨.move (.tmp 86), some 87, none⟩,
  ⟨.fieldAddr 68 (.tmp 1) 5, some 88, (some (87, true))⟩,
  ⟨.load 62 (.tmp 88), some 89, (some (87, true))⟩,
  ⟨.call (Go.Call.mk (.value (.func 33)) #[.tmp 89, .func 97] #[62, 71]), some 90, (some (87, true))⟩,
  ⟨.unOp .not 4 (.tmp 90), some 91, (some (87, true))⟩,
  ⟨.pick (.tmp 87) (.tmp 91) (.const (Value.bool false)), some 92, none⟩,
  ⟨.assign (.tmp 92), some 2, none⟩])
 .ret)))
theorem fc_plain_Node : FnC Tryz.prog 74 93 [.tmp 2] c_plain_Node := ⟨by kernel_rfl, Tryz.f74, _, Tryz.func74, rfl, rfl, rfl, by kernel_rfl⟩
def c_slices_IndexFunc_api_Branch_api_Branch : AC := (.seq (.region [⟨.assign (.const (Value.int .i64 0)), some 4, none⟩])
 (.seq (.seq (.region [⟨.move (.tmp 0), some 6, none⟩,
  ⟨.call (Go.Call.mk (.builtin .len) #[.tmp 6] #[27]), some 7, none⟩,
  ⟨.move (.const (Value.int .i64 0)), some 8, none⟩])
 (.block 0 (.loop (.seq (.region [⟨.binOp .lss 3 (.tmp 8) (.tmp 7) 3, some 9, none⟩])
 (.seq (.cond (.tmp 9) .skip
 (.exit 0))
 (.seq (.block 1 (.seq (.region [⟨.move (.tmp 8), some 10, none⟩,
  ⟨.assign (.tmp 10), some 5, none⟩])
 (.seq (.region [⟨.move (.tmp 1), some 11, none⟩,
  ⟨.move (.tmp 0), some 12, none⟩,
  ⟨.move (.tmp 5), some 13, none⟩,
  ⟨.indexAddr 27 (.tmp 12) (.tmp 13), some 14, none⟩,
  ⟨.load 26 (.tmp 14), some 15, none⟩,
  ⟨.call (Go.Call.mk (.value (.tmp 11)) #[.tmp 15] #[26]), some 16, none⟩])
 (.cond (.tmp 16) (.seq (.region [⟨.move (.tmp 5), some 17, none⟩,
  ⟨.assign (.tmp 17), some 4, none⟩])
 .ret)
 .skip))))
 (.region [⟨.binOp .add 3 (.tmp 8) (.const (Value.int .i64 1)) 3, some 18, none⟩,
  ⟨.move (.tmp 18), some 8, none⟩])))))))
 (.seq (.region [⟨.assign (.const (Value.int .i64 (-1))), some 4, none⟩])
 .ret)))
theorem fc_slices_IndexFunc_api_Branch_api_Branch : FnC Tryz.prog 75 19 [.tmp 4] c_slices_IndexFunc_api_Branch_api_Branch := ⟨by kernel_rfl, Tryz.f75, _, Tryz.func75, rfl, rfl, rfl, by kernel_rfl⟩
def c_plain_dir : AC := (.seq (.region [⟨.alloc 68, some 2, none⟩])
 (.seq (.region [⟨.move (.tmp 0), some 3, none⟩,
  ⟨.build 68 #[(0, .const (Value.int .i64 1)), (2, .const (Value.int .i64 2)), (5, .tmp 3)], some 4, none⟩,
  ⟨.store 68 (.tmp 2) (.tmp 4), none, none⟩])
 .ret))
theorem fc_plain_dir : FnC Tryz.prog 76 5 [.cell 2 68] c_plain_dir := ⟨by kernel_rfl, Tryz.f76, _, Tryz.func76, rfl, rfl, rfl, by kernel_rfl⟩
def c_ref16_entry : AC := (.seq (.region [⟨.box 29 (.tmp 0), some 3, none⟩,
  ⟨.box 45 (.tmp 1), some 4, none⟩,
  ⟨.alloc 45, some 6, none⟩,
  ⟨.assign (.const (Value.bool false)), some 7, none⟩])
 (.seq (.region [⟨.load 29 (.tmp 3), some 11, none⟩,
  ⟨.load 45 (.tmp 4), some 12, none⟩,
  ⟨.call (Go.Call.mk (.value (.func 78)) #[.tmp 11, .tmp 12] #[29, 45]), some 13, none⟩,
  ⟨.alloc 68, some 8, none⟩,
  ⟨.store 68 (.tmp 8) (.tmp 13), none, none⟩])
 (.seq (.seq (.region [⟨.fieldAddr 68 (.tmp 8) 0, some 14, none⟩,
  ⟨.load 3 (.tmp 14), some 15, none⟩,
  ⟨.binOp .neq 3 (.tmp 15) (.const (Value.int .i64 1)) 3, some 16, none⟩])
 (.cond (.tmp 16) (.seq (.region [⟨.build 45 #[], some 17, none⟩,
  ⟨.store 45 (.tmp 6) (.tmp 17), none, none⟩,
  ⟨.assign (.const (Value.bool false)), some 7, none⟩])
 .ret)
 .skip))
 (.seq (.seq (.region [⟨.assign (.const (Value.int .i64 0)), some 9, none⟩])
 (.block 0 (.loop (.seq (.seq (.region [⟨.move (.tmp 9), some 18, none⟩,
  ⟨.fieldAddr 68 (.tmp 8) 5, some 19, none⟩,
  ⟨.load 62 (.tmp 19), some 20, none⟩,
  ⟨.call (Go.Call.mk (.builtin .len) #[.tmp 20] #[62]), some 21, none⟩,
  ⟨.binOp .lss 3 (.tmp 18) (.tmp 21) 3, some 22, none⟩])
 (.cond (.tmp 22) .skip
 (.exit 0)))
 (.seq (.block 1 (.seq (.draw [⟨.fieldAddr 45 (.tmp 4) 0, some 25, none⟩,
  ⟨.load 3 (.tmp 25), some 26, none⟩,
  ⟨.fieldAddr 68 (.tmp 8) 5, some 27, none⟩,
  ⟨.load 62 (.tmp 27), some 28, none⟩,
  ⟨.move (.tmp 9), some 29, none⟩,
  ⟨.indexAddr 62 (.tmp 28) (.tmp 29), some 30, none⟩,
  ⟨.fieldAddr 55 (.tmp 30) 1, some 31, none⟩,
  ⟨.load 3 (.tmp 31), some 32, none⟩,
  ⟨.build 45 #[(0, .tmp 26), (1, .tmp 32)], some 33, none⟩,
  ⟨.alloc 45, some 10, none⟩,
  ⟨.store 45 (.tmp 10) (.tmp 33), none, none⟩] [0, 1, 0, 4, 0, 28, 60, 124, 255, 0, 1023] [false, true, false, true, false, false, false, true, false, false, true])
 (.seq (.region [⟨.fieldAddr 68 (.tmp 8) 5, some 34, none⟩,
  ⟨.load 62 (.tmp 34), some 35, none⟩,
  ⟨.move (.tmp 9), some 36, none⟩,
  ⟨.indexAddr 62 (.tmp 35) (.tmp 36), some 37, none⟩,
  ⟨.fieldAddr 55 (.tmp 37) 2, some 38, none⟩,
  ⟨.load 9 (.tmp 38), some 39, none⟩,
  ⟨.move (.tmp 2), some 40, none⟩,
  ⟨.binOp .eql 9 (.tmp 39) (.tmp 40) 9, some 41, none⟩,
  ⟨.move (.tmp 41), some 42, none⟩,
  ⟨.load 29 (.tmp 3), some 43, (some (42, true))⟩,
  ⟨.load 45 (.tmp 10), some 44, (some (42, true))⟩,
  ⟨.call (Go.Call.mk (.value (.func 78)) #[.tmp 43, .tmp 44] #[29, 45]), some 45, (some (42, true))⟩,
  ⟨.field 68 (.tmp 45) 0, some 46, (some (42, true))⟩,
  ⟨.binOp .neq 3 (.tmp 46) (.const (Value.int .i64 0)) 3, some 47, (some (42, true))⟩,
  ⟨.pick (.tmp 42) (.tmp 47) (.const (Value.bool false)), some 48, none⟩])
 (.cond (.tmp 48) (.seq (.region [⟨.load 45 (.tmp 10), some 49, none⟩,
  ⟨.store 45 (.tmp 6) (.tmp 49), none, none⟩,
  ⟨.assign (.const (Value.bool true)), some 7, none⟩])
 .ret)
 .skip))))
 (.region [⟨.move (.tmp 9), some 23, none⟩,
  ⟨.binOp .add 3 (.tmp 23) (.const (Value.int .i64 1)) 3, some 24, none⟩,
  ⟨.assign (.tmp 24), some 9, none⟩]))))))
 (.seq (.region [⟨.build 45 #[], some 50, none⟩,
  ⟨.store 45 (.tmp 6) (.tmp 50), none, none⟩,
  ⟨.assign (.const (Value.bool false)), some 7, none⟩])
 .ret)))))
theorem fc_ref16_entry : FnC Tryz.prog 77 51 [.cell 6 45, .tmp 7] c_ref16_entry := ⟨by kernel_rfl, Tryz.f77, _, Tryz.func77, rfl, rfl, rfl, by kernel_rfl⟩
def c_ref15_Lower : AC := (.seq (.region [⟨.box 29 (.tmp 0), some 2, none⟩,
  ⟨.box 45 (.tmp 1), some 3, none⟩,
  ⟨.alloc 68, some 4, none⟩])
 (.seq (.seq (.region [⟨.fieldAddr 45 (.tmp 3) 0, some 5, none⟩,
  ⟨.load 3 (.tmp 5), some 6, none⟩,
  ⟨.binOp .lss 3 (.tmp 6) (.const (Value.int .i64 1)) 3, some 7, none⟩,
  ⟨.move (.tmp 7), some 8, none⟩,
  ⟨.fieldAddr 45 (.tmp 3) 0, some 9, (some (8, false))⟩,
  ⟨.load 3 (.tmp 9), some 10, (some (8, false))⟩,
  ⟨.fieldAddr 29 (.tmp 2) 2, some 11, (some (8, false))⟩,
  ⟨.load 27 (.tmp 11), some 12, (some (8, false))⟩,
  ⟨.call (Go.Call.mk (.builtin .len) #[.tmp 12] #[27]), some 13, (some (8, false))⟩,
  ⟨.binOp .gtr 3 (.tmp 10) (.tmp 13) 3, some 14, (some (8, false))⟩,
  ⟨.pick (.tmp 8) (.const (Value.bool true)) (.tmp 14), some 15, none⟩])
 (.cond (.tmp 15) (.seq (.region [⟨.build 68 #[], some 16, none⟩,
  ⟨.store 68 (.tmp 4) (.tmp 16), none, none⟩])
 .ret)
 .skip))
 (.seq (.draw [⟨.fieldAddr 29 (.tmp 2) 2, some 17, none⟩,
  ⟨.load 27 (.tmp 17), some 18, none⟩,
  ⟨.fieldAddr 45 (.tmp 3) 0, some 19, none⟩,
  ⟨.load 3 (.tmp 19), some 20, none⟩,
  ⟨.binOp .sub 3 (.tmp 20) (.const (Value.int .i64 1)) 3, some 21, none⟩,
  ⟨.indexAddr 27 (.tmp 18) (.tmp 21), some 22, none⟩,
  ⟨.load 26 (.tmp 22), some 23, none⟩,
  ⟨.fieldAddr 45 (.tmp 3) 1, some 24, none⟩,
  ⟨.load 3 (.tmp 24), some 25, none⟩,
  ⟨.call (Go.Call.mk (.value (.func 48)) #[.tmp 23, .tmp 25] #[26, 3]), some 26, none⟩,
  ⟨.store 68 (.tmp 4) (.tmp 26), none, none⟩] [0, 1, 0, 4, 12, 31, 63, 0, 128, 511, 1023] [false, true, false, true, false, false, true, false, true, true, true])
 .ret)))
theorem fc_ref15_Lower : FnC Tryz.prog 78 27 [.cell 4 68] c_ref15_Lower := ⟨by kernel_rfl, Tryz.f78, _, Tryz.func78, rfl, rfl, rfl, by kernel_rfl⟩
def c_slices_Clone_string_string : AC := (.seq (.region [⟨.assign (.const (Value.slice none 0 0)), some 2, none⟩])
 (.seq (.seq (.region [⟨.move (.tmp 0), some 3, none⟩,
  ⟨.binOp .eql 42 (.tmp 3) (.const (Value.slice none 0 0)) 42, some 4, none⟩])
 (.cond (.tmp 4) (.seq (.region [⟨.assign (.const (Value.slice none 0 0)), some 2, none⟩])
 .ret)
 .skip))
 (.seq (.region [⟨.buildSlice 42 0 #[], some 5, none⟩,
  ⟨.move (.tmp 0), some 6, none⟩,
  ⟨.call (Go.Call.mk (.builtin .append) #[.tmp 5, .tmp 6] #[42, 42]), some 7, none⟩,
  ⟨.assign (.tmp 7), some 2, none⟩])
 .ret)))
theorem fc_slices_Clone_string_string : FnC Tryz.prog 79 8 [.tmp 2] c_slices_Clone_string_string := ⟨by kernel_rfl, Tryz.f79, _, Tryz.func79, rfl, rfl, rfl, by kernel_rfl⟩
def c_view_stack_dirs : AC := (.seq (.region [⟨.box 92 (.tmp 0), some 3, none⟩,
  ⟨.assign (.const (Value.slice none 0 0)), some 6, none⟩])
 (.seq (.region [⟨.fieldAddr 92 (.tmp 3) 0, some 10, none⟩,
  ⟨.load 29 (.tmp 10), some 11, none⟩,
  ⟨.move (.tmp 1), some 12, none⟩,
  ⟨.move (.tmp 2), some 13, none⟩,
  ⟨.call (Go.Call.mk (.value (.func 31)) #[.tmp 11, .tmp 12, .tmp 13] #[29, 30, 9]), some 14, none⟩,
  ⟨.move (.tmp 14), some 9, none⟩,
  ⟨.extract (.tmp 9) 0, some 15, none⟩,
  ⟨.extract (.tmp 9) 1, some 16, none⟩,
  ⟨.assign (.tmp 15), some 7, none⟩,
  ⟨.assign (.tmp 16), some 8, none⟩])
 (.seq (.seq (.region [⟨.move (.tmp 7), some 17, none⟩,
  ⟨.binOp .neq 3 (.tmp 17) (.const (Value.int .i64 1)) 3, some 18, none⟩])
 (.cond (.tmp 18) (.seq (.region [⟨.assign (.const (Value.slice none 0 0)), some 6, none⟩])
 .ret)
 .skip))
 (.seq (.region [⟨.move (.tmp 8), some 19, none⟩,
  ⟨.assign (.tmp 19), some 6, none⟩])
 .ret))))
theorem fc_view_stack_dirs : FnC Tryz.prog 83 20 [.tmp 6] c_view_stack_dirs := ⟨by kernel_rfl, Tryz.f83, _, Tryz.func83, rfl, rfl, rfl, by kernel_rfl⟩
def c_path_Redirect : AC := (.seq (.region [⟨.assign (.const (Value.slice none 0 0)), some 2, none⟩,
  ⟨.assign (.const (Value.bool false)), some 3, none⟩,
  ⟨.assign (.const (Value.bool false)), some 4, none⟩])
 (.seq (.block 0 (.seq (.region [⟨.move (.tmp 0), some 8, none⟩,
  ⟨.call (Go.Call.mk (.builtin .len) #[.tmp 8] #[9]), some 9, none⟩,
  ⟨.binOp .gtr 3 (.tmp 9) (.const (Value.int .i64 24)) 3, some 10, none⟩,
  ⟨.assign (.tmp 10), some 7, none⟩])
 (.cond (.tmp 7) (.seq (.region [⟨.assign (.const (Value.slice none 0 0)), some 2, none⟩,
  ⟨.assign (.const (Value.bool false)), some 3, none⟩,
  ⟨.assign (.const (Value.bool false)), some 4, none⟩])
 .ret)
 (.seq (.region [⟨.move (.tmp 0), some 12, none⟩,
  ⟨.call (Go.Call.mk (.value (.func 100)) #[.tmp 12, .const (Value.string (ByteArray.mk #[47]))] #[9, 9]), some 13, none⟩,
  ⟨.assign (.tmp 13), some 11, none⟩])
 (.cond (.tmp 11) (.seq (.region [⟨.move (.tmp 0), some 15, none⟩,
  ⟨.call (Go.Call.mk (.value (.func 101)) #[.tmp 15] #[9]), some 16, none⟩,
  ⟨.move (.tmp 16), some 14, none⟩,
  ⟨.extract (.tmp 14) 0, some 17, none⟩,
  ⟨.extract (.tmp 14) 1, some 18, none⟩,
  ⟨.assign (.tmp 17), some 5, none⟩,
  ⟨.assign (.tmp 18), some 6, none⟩])
 (.seq (.region [⟨.move (.tmp 5), some 19, none⟩,
  ⟨.move (.tmp 6), some 20, none⟩,
  ⟨.move (.tmp 6), some 21, none⟩,
  ⟨.assign (.tmp 19), some 2, none⟩,
  ⟨.assign (.tmp 20), some 3, none⟩,
  ⟨.assign (.tmp 21), some 4, none⟩])
 .ret))
 (.seq (.region [⟨.move (.tmp 0), some 23, none⟩,
  ⟨.call (Go.Call.mk (.value (.func 102)) #[.tmp 23] #[9]), some 24, none⟩,
  ⟨.assign (.tmp 24), some 22, none⟩])
 (.cond (.tmp 22) (.seq (.region [⟨.move (.tmp 0), some 25, none⟩,
  ⟨.buildSlice 42 1 #[(0, .tmp 25)], some 26, none⟩,
  ⟨.assign (.tmp 26), some 2, none⟩,
  ⟨.assign (.const (Value.bool false)), some 3, none⟩,
  ⟨.assign (.const (Value.bool true)), some 4, none⟩])
 .ret)
 .skip)))))))
 (.seq (.region [⟨.assign (.const (Value.slice none 0 0)), some 2, none⟩,
  ⟨.assign (.const (Value.bool false)), some 3, none⟩,
  ⟨.assign (.const (Value.bool false)), some 4, none⟩])
 .ret)))
theorem fc_path_Redirect : FnC Tryz.prog 84 27 [.tmp 2, .tmp 3, .tmp 4] c_path_Redirect := ⟨by kernel_rfl, Tryz.f84, _, Tryz.func84, rfl, rfl, rfl, by kernel_rfl⟩
def c_lower_Look : AC := (.seq (.region [⟨.box 29 (.tmp 0), some 3, none⟩,
  ⟨.assign (.const (Value.slice none 0 0)), some 6, none⟩,
  ⟨.assign (.const (Value.bool false)), some 7, none⟩])
 (.seq (.region [⟨.move (.tmp 1), some 13, none⟩,
  ⟨.call (Go.Call.mk (.value (.func 103)) #[.tmp 13] #[30]), some 14, none⟩,
  ⟨.assign (.tmp 14), some 8, none⟩])
 (.seq (.seq (.region [⟨.move (.tmp 2), some 15, none⟩,
  ⟨.call (Go.Call.mk (.builtin .len) #[.tmp 15] #[42]), some 16, none⟩,
  ⟨.move (.const (Value.int .i64 0)), some 17, none⟩])
 (.block 0 (.loop (.seq (.region [⟨.binOp .lss 3 (.tmp 17) (.tmp 16) 3, some 18, none⟩])
 (.seq (.cond (.tmp 18) .skip
 (.exit 0))
 (.seq (.block 1 (.seq (.region [⟨.indexAddr 42 (.tmp 15) (.tmp 17), some 19, none⟩,
  ⟨.load 9 (.tmp 19), some 20, none⟩,
  ⟨.assign (.tmp 20), some 10, none⟩])
 (.seq (.region [⟨.load 29 (.tmp 3), some 22, none⟩,
  ⟨.move (.tmp 8), some 23, none⟩,
  ⟨.move (.tmp 10), some 24, none⟩,
  ⟨.call (Go.Call.mk (.value (.func 31)) #[.tmp 22, .tmp 23, .tmp 24] #[29, 30, 9]), some 25, none⟩,
  ⟨.move (.tmp 25), some 21, none⟩,
  ⟨.extract (.tmp 21) 0, some 26, none⟩,
  ⟨.extract (.tmp 21) 1, some 27, none⟩,
  ⟨.assign (.tmp 26), some 11, none⟩,
  ⟨.assign (.tmp 27), some 12, none⟩])
 (.seq (.seq (.region [⟨.move (.tmp 11), some 28, none⟩,
  ⟨.binOp .neq 3 (.tmp 28) (.const (Value.int .i64 1)) 3, some 29, none⟩])
 (.cond (.tmp 29) (.seq (.region [⟨.assign (.const (Value.slice none 0 0)), some 6, none⟩,
  ⟨.assign (.const (Value.bool false)), some 7, none⟩])
 .ret)
 .skip))
 (.region [⟨.move (.tmp 12), some 30, none⟩,
  ⟨.assign (.tmp 30), some 8, none⟩])))))
 (.region [⟨.binOp .add 3 (.tmp 17) (.const (Value.int .i64 1)) 3, some 31, none⟩,
  ⟨.move (.tmp 31), some 17, none⟩])))))))
 (.seq (.region [⟨.move (.tmp 8), some 32, none⟩,
  ⟨.assign (.tmp 32), some 6, none⟩,
  ⟨.assign (.const (Value.bool true)), some 7, none⟩])
 .ret))))
theorem fc_lower_Look : FnC Tryz.prog 85 33 [.tmp 6, .tmp 7] c_lower_Look := ⟨by kernel_rfl, Tryz.f85, _, Tryz.func85, rfl, rfl, rfl, by kernel_rfl⟩
def c_lower_pile_node : AC := (.seq (.region [⟨.box 45 (.tmp 1), some 3, none⟩,
  ⟨.alloc 68, some 4, none⟩])
 (.seq (.seq (.region [⟨.fieldAddr 45 (.tmp 3) 0, some 6, none⟩,
  ⟨.load 3 (.tmp 6), some 7, none⟩,
  ⟨.binOp .lss 3 (.tmp 7) (.const (Value.int .i64 1)) 3, some 8, none⟩,
  ⟨.move (.tmp 8), some 9, none⟩,
  ⟨.fieldAddr 45 (.tmp 3) 0, some 10, (some (9, false))⟩,
  ⟨.load 3 (.tmp 10), some 11, (some (9, false))⟩,
  ⟨.move (.tmp 0), some 12, (some (9, false))⟩,
  ⟨.call (Go.Call.mk (.builtin .len) #[.tmp 12] #[106]), some 13, (some (9, false))⟩,
  ⟨.binOp .gtr 3 (.tmp 11) (.tmp 13) 3, some 14, (some (9, false))⟩,
  ⟨.pick (.tmp 9) (.const (Value.bool true)) (.tmp 14), some 15, none⟩])
 (.cond (.tmp 15) (.seq (.region [⟨.build 68 #[], some 16, none⟩,
  ⟨.store 68 (.tmp 4) (.tmp 16), none, none⟩])
 .ret)
 .skip))
 (.seq (.region [⟨.move (.tmp 0), some 17, none⟩,
  ⟨.fieldAddr 45 (.tmp 3) 0, some 18, none⟩,
  ⟨.load 3 (.tmp 18), some 19, none⟩,
  ⟨.binOp .sub 3 (.tmp 19) (.const (Value.int .i64 1)) 3, some 20, none⟩,
  ⟨.indexAddr 106 (.tmp 17) (.tmp 20), some 21, none⟩,
  ⟨.fieldAddr 26 (.tmp 21) 0, some 22, none⟩,
  ⟨.load 24 (.tmp 22), some 23, none⟩,
  ⟨.assign (.tmp 23), some 5, none⟩])
 (.seq (.seq (.region [⟨.fieldAddr 45 (.tmp 3) 1, some 24, none⟩,
  ⟨.load 3 (.tmp 24), some 25, none⟩,
  ⟨.binOp .lss 3 (.tmp 25) (.const (Value.int .i64 1)) 3, some 26, none⟩,
  ⟨.move (.tmp 26), some 27, none⟩,
  ⟨.fieldAddr 45 (.tmp 3) 1, some 28, (some (27, false))⟩,
  ⟨.load 3 (.tmp 28), some 29, (some (27, false))⟩,
  ⟨.move (.tmp 5), some 30, (some (27, false))⟩,
  ⟨.call (Go.Call.mk (.builtin .len) #[.tmp 30] #[24]), some 31, (some (27, false))⟩,
  ⟨.binOp .gtr 3 (.tmp 29) (.tmp 31) 3, some 32, (some (27, false))⟩,
  ⟨.pick (.tmp 27) (.const (Value.bool true)) (.tmp 32), some 33, none⟩])
 (.cond (.tmp 33) (.seq (.region [⟨.build 68 #[], some 34, none⟩,
  ⟨.store 68 (.tmp 4) (.tmp 34), none, none⟩])
 .ret)
 .skip))
 (.seq (.region [⟨.move (.tmp 5), some 35, none⟩,
  ⟨.fieldAddr 45 (.tmp 3) 1, some 36, none⟩,
  ⟨.load 3 (.tmp 36), some 37, none⟩,
  ⟨.binOp .sub 3 (.tmp 37) (.const (Value.int .i64 1)) 3, some 38, none⟩,
  ⟨.indexAddr 24 (.tmp 35) (.tmp 38), some 39, none⟩,
  ⟨.load 68 (.tmp 39), some 40, none⟩,
  ⟨.store 68 (.tmp 4) (.tmp 40), none, none⟩])
 .ret)))))
theorem fc_lower_pile_node : FnC Tryz.prog 86 41 [.cell 4 68] c_lower_pile_node := ⟨by kernel_rfl, Tryz.f86, _, Tryz.func86, rfl, rfl, rfl, by kernel_rfl⟩
def c_ref09_has : AC := (.seq (.region [⟨.assign (.const (Value.bool false)), some 4, none⟩])
 (.seq (.region [⟨.move (.tmp 0), some 5, none⟩,
  ⟨.move (.tmp 1), some 6, none⟩,
  ⟨.binOp .quo 3 (.tmp 5) (.tmp 6) 3, some 7, none⟩,
  ⟨.binOp .rem 3 (.tmp 7) (.const (Value.int .i64 2)) 3, some 8, none⟩,
  ⟨.binOp .eql 3 (.tmp 8) (.const (Value.int .i64 1)) 3, some 9, none⟩,
  ⟨.assign (.tmp 9), some 4, none⟩])
 .ret))
theorem fc_ref09_has : FnC Tryz.prog 87 10 [.tmp 4] c_ref09_has := ⟨by kernel_rfl, Tryz.f87, _, Tryz.func87, rfl, rfl, rfl, by kernel_rfl⟩
def c_ref04_Split : AC := (.seq (.region [⟨.assign (.const (Value.slice none 0 0)), some 2, none⟩,
  ⟨.assign (.const (Value.bool false)), some 3, none⟩])
 (.seq (.seq (.region [⟨.move (.tmp 0), some 6, none⟩,
  ⟨.binOp .eql 9 (.tmp 6) (.const (Value.string (ByteArray.mk #[47]))) 9, some 7, none⟩])
 (.cond (.tmp 7) (.seq (.region [⟨.assign (.const (Value.slice none 0 0)), some 2, none⟩,
  ⟨.assign (.const (Value.bool true)), some 3, none⟩])
 .ret)
 .skip))
 (.seq (.seq (.region [⟨.move (.tmp 0), some 8, none⟩,
  ⟨.call (Go.Call.mk (.builtin .len) #[.tmp 8] #[9]), some 9, none⟩,
  ⟨.binOp .eql 3 (.tmp 9) (.const (Value.int .i64 0)) 3, some 10, none⟩,
  ⟨.move (.tmp 10), some 11, none⟩,
  ⟨.move (.tmp 0), some 12, (some (11, false))⟩,
  ⟨.index 9 (.tmp 12) (.const (Value.int .i64 0)), some 13, (some (11, false))⟩,
  ⟨.binOp .neq 5 (.tmp 13) (.const (Value.int .u8 47)) 5, some 14, (some (11, false))⟩,
  ⟨.pick (.tmp 11) (.const (Value.bool true)) (.tmp 14), some 15, none⟩])
 (.cond (.tmp 15) (.seq (.region [⟨.assign (.const (Value.slice none 0 0)), some 2, none⟩,
  ⟨.assign (.const (Value.bool false)), some 3, none⟩])
 .ret)
 .skip))
 (.seq (.region [⟨.move (.tmp 0), some 16, none⟩,
  ⟨.call (Go.Call.mk (.value (.func 104)) #[.tmp 16] #[9]), some 17, none⟩,
  ⟨.assign (.tmp 17), some 4, none⟩])
 (.seq (.seq (.region [⟨.assign (.const (Value.int .i64 0)), some 5, none⟩])
 (.block 0 (.loop (.seq (.seq (.region [⟨.move (.tmp 5), some 18, none⟩,
  ⟨.move (.tmp 4), some 19, none⟩,
  ⟨.call (Go.Call.mk (.builtin .len) #[.tmp 19] #[42]), some 20, none⟩,
  ⟨.binOp .lss 3 (.tmp 18) (.tmp 20) 3, some 21, none⟩])
 (.cond (.tmp 21) .skip
 (.exit 0)))
 (.seq (.block 1 (.seq (.region [⟨.move (.tmp 4), some 24, none⟩,
  ⟨.move (.tmp 5), some 25, none⟩,
  ⟨.indexAddr 42 (.tmp 24) (.tmp 25), some 26, none⟩,
  ⟨.load 9 (.tmp 26), some 27, none⟩,
  ⟨.call (Go.Call.mk (.value (.func 89)) #[.tmp 27] #[9]), some 28, none⟩,
  ⟨.unOp .not 4 (.tmp 28), some 29, none⟩])
 (.cond (.tmp 29) (.seq (.region [⟨.assign (.const (Value.slice none 0 0)), some 2, none⟩,
  ⟨.assign (.const (Value.bool false)), some 3, none⟩])
 .ret)
 .skip)))
 (.region [⟨.move (.tmp 5), some 22, none⟩,
  ⟨.binOp .add 3 (.tmp 22) (.const (Value.int .i64 1)) 3, some 23, none⟩,
  ⟨.assign (.tmp 23), some 5, none⟩]))))))
 (.seq (.region [⟨.move (.tmp 4), some 30, none⟩,
  ⟨.assign (.tmp 30), some 2, none⟩,
  ⟨.assign (.const (Value.bool true)), some 3, none⟩])
 .ret))))))
theorem fc_ref04_Split : FnC Tryz.prog 88 31 [.tmp 2, .tmp 3] c_ref04_Split := ⟨by kernel_rfl, Tryz.f88, _, Tryz.func88, rfl, rfl, rfl, by kernel_rfl⟩
def c_ref03_Right : AC := (.seq (.region [⟨.assign (.const (Value.bool false)), some 2, none⟩])
 (.seq (.seq (.region [⟨.move (.tmp 0), some 4, none⟩,
  ⟨.call (Go.Call.mk (.builtin .len) #[.tmp 4] #[9]), some 5, none⟩,
  ⟨.binOp .lss 3 (.tmp 5) (.const (Value.int .i64 1)) 3, some 6, none⟩,
  ⟨.move (.tmp 6), some 7, none⟩,
  ⟨.move (.tmp 0), some 8, (some (7, false))⟩,
  ⟨.call (Go.Call.mk (.builtin .len) #[.tmp 8] #[9]), some 9, (some (7, false))⟩,
  ⟨.binOp .gtr 3 (.tmp 9) (.const (Value.int .i64 12)) 3, some 10, (some (7, false))⟩,
  ⟨.pick (.tmp 7) (.const (Value.bool true)) (.tmp 10), some 11, none⟩,
  ⟨.move (.tmp 11), some 12, none⟩,
  ⟨.move (.tmp 0), some 13, (some (12, false))⟩,
  ⟨.binOp .eql 9 (.tmp 13) (.const (Value.string (ByteArray.mk #[46]))) 9, some 14, (some (12, false))⟩,
  ⟨.pick (.tmp 12) (.const (Value.bool true)) (.tmp 14), some 15, none⟩,
  ⟨.move (.tmp 15), some 16, none⟩,
  ⟨.move (.tmp 0), some 17, (some (16, false))⟩,
  ⟨.binOp .eql 9 (.tmp 17) (.const (Value.string (ByteArray.mk #[46, 46]))) 9, some 18, (some (16, false))⟩,
  ⟨.pick (.tmp 16) (.const (Value.bool true)) (.tmp 18), some 19, none⟩])
 (.cond (.tmp 19) (.seq (.region [⟨.assign (.const (Value.bool false)), some 2, none⟩])
 .ret)
 .skip))
 (.seq (.seq (.region [⟨.assign (.const (Value.int .i64 0)), some 3, none⟩])
 (.block 0 (.loop (.seq (.seq (.region [⟨.move (.tmp 3), some 20, none⟩,
  ⟨.move (.tmp 0), some 21, none⟩,
  ⟨.call (Go.Call.mk (.builtin .len) #[.tmp 21] #[9]), some 22, none⟩,
  ⟨.binOp .lss 3 (.tmp 20) (.tmp 22) 3, some 23, none⟩])
 (.cond (.tmp 23) .skip
 (.exit 0)))
 (.seq (.block 1 (.seq (.region [⟨.move (.tmp 0), some 26, none⟩,
  ⟨.move (.tmp 3), some 27, none⟩,
  ⟨.index 9 (.tmp 26) (.tmp 27), some 28, none⟩,
  ⟨.call (Go.Call.mk (.value (.func 105)) #[.tmp 28] #[5]), some 29, none⟩,
  ⟨.unOp .not 4 (.tmp 29), some 30, none⟩])
 (.cond (.tmp 30) (.seq (.region [⟨.assign (.const (Value.bool false)), some 2, none⟩])
 .ret)
 .skip)))
 (.region [⟨.move (.tmp 3), some 24, none⟩,
  ⟨.binOp .add 3 (.tmp 24) (.const (Value.int .i64 1)) 3, some 25, none⟩,
  ⟨.assign (.tmp 25), some 3, none⟩]))))))
 (.seq (.region [⟨.assign (.const (Value.bool true)), some 2, none⟩])
 .ret))))
theorem fc_ref03_Right : FnC Tryz.prog 89 31 [.tmp 2] c_ref03_Right := ⟨by kernel_rfl, Tryz.f89, _, Tryz.func89, rfl, rfl, rfl, by kernel_rfl⟩
def c_slices_IndexFunc_string_string : AC := (.seq (.region [⟨.assign (.const (Value.int .i64 0)), some 4, none⟩])
 (.seq (.seq (.region [⟨.move (.tmp 0), some 6, none⟩,
  ⟨.call (Go.Call.mk (.builtin .len) #[.tmp 6] #[42]), some 7, none⟩,
  ⟨.move (.const (Value.int .i64 0)), some 8, none⟩])
 (.block 0 (.loop (.seq (.region [⟨.binOp .lss 3 (.tmp 8) (.tmp 7) 3, some 9, none⟩])
 (.seq (.cond (.tmp 9) .skip
 (.exit 0))
 (.seq (.block 1 (.seq (.region [⟨.move (.tmp 8), some 10, none⟩,
  ⟨.assign (.tmp 10), some 5, none⟩])
 (.seq (.region [⟨.move (.tmp 1), some 11, none⟩,
  ⟨.move (.tmp 0), some 12, none⟩,
  ⟨.move (.tmp 5), some 13, none⟩,
  ⟨.indexAddr 42 (.tmp 12) (.tmp 13), some 14, none⟩,
  ⟨.load 9 (.tmp 14), some 15, none⟩,
  ⟨.call (Go.Call.mk (.value (.tmp 11)) #[.tmp 15] #[9]), some 16, none⟩])
 (.cond (.tmp 16) (.seq (.region [⟨.move (.tmp 5), some 17, none⟩,
  ⟨.assign (.tmp 17), some 4, none⟩])
 .ret)
 .skip))))
 (.region [⟨.binOp .add 3 (.tmp 8) (.const (Value.int .i64 1)) 3, some 18, none⟩,
  ⟨.move (.tmp 18), some 8, none⟩])))))))
 (.seq (.region [⟨.assign (.const (Value.int .i64 (-1))), some 4, none⟩])
 .ret)))
theorem fc_slices_IndexFunc_string_string : FnC Tryz.prog 91 19 [.tmp 4] c_slices_IndexFunc_string_string := ⟨by kernel_rfl, Tryz.f91, _, Tryz.func91, rfl, rfl, rfl, by kernel_rfl⟩
def c_ref13_walk : AC := (.seq (.region [⟨.box 26 (.tmp 0), some 2, none⟩,
  ⟨.assign (.const (Value.slice none 0 0)), some 4, none⟩,
  ⟨.assign (.const (Value.slice none 0 0)), some 5, none⟩])
 (.seq (.region [⟨.buildSlice 73 0 #[], some 12, none⟩,
  ⟨.buildSlice 113 0 #[], some 13, none⟩,
  ⟨.assign (.tmp 12), some 6, none⟩,
  ⟨.assign (.tmp 13), some 7, none⟩])
 (.seq (.region [⟨.assign (.const (Value.int .i64 0)), some 8, none⟩])
 (.seq (.seq (.region [⟨.assign (.const (Value.int .i64 0)), some 9, none⟩])
 (.block 0 (.loop (.seq (.seq (.region [⟨.move (.tmp 9), some 14, none⟩,
  ⟨.move (.tmp 1), some 15, none⟩,
  ⟨.call (Go.Call.mk (.builtin .len) #[.tmp 15] #[111]), some 16, none⟩,
  ⟨.binOp .lss 3 (.tmp 14) (.tmp 16) 3, some 17, none⟩])
 (.cond (.tmp 17) .skip
 (.exit 0)))
 (.seq (.block 1 (.seq (.seq (.draw [⟨.load 26 (.tmp 2), some 20, none⟩,
  ⟨.move (.tmp 1), some 21, none⟩,
  ⟨.move (.tmp 9), some 22, none⟩,
  ⟨.indexAddr 111 (.tmp 21) (.tmp 22), some 23, none⟩,
  ⟨.load 3 (.tmp 23), some 24, none⟩,
  ⟨.call (Go.Call.mk (.value (.func 48)) #[.tmp 20, .tmp 24] #[26, 3]), some 25, none⟩,
  ⟨.field 68 (.tmp 25) 0, some 26, none⟩,
  ⟨.binOp .neq 3 (.tmp 26) (.const (Value.int .i64 1)) 3, some 27, none⟩,
  ⟨.move (.tmp 27), some 28, none⟩,
  ⟨.move (.tmp 6), some 29, (some (28, false))⟩,
  ⟨.move (.tmp 1), some 30, (some (28, false))⟩,
  ⟨.move (.tmp 9), some 31, (some (28, false))⟩,
  ⟨.indexAddr 111 (.tmp 30) (.tmp 31), some 32, (some (28, false))⟩,
  ⟨.load 3 (.tmp 32), some 33, (some (28, false))⟩,
  ⟨.call (Go.Call.mk (.value (.func 106)) #[.tmp 29, .tmp 33] #[73, 3]), some 34, (some (28, false))⟩,
  ⟨.binOp .geq 3 (.tmp 34) (.const (Value.int .i64 0)) 3, some 35, (some (28, false))⟩,
  ⟨.pick (.tmp 28) (.const (Value.bool true)) (.tmp 35), some 36, none⟩] [0, 0, 0, 6, 14, 31, 63, 127, 255, 511, 511, 511, 3583, 7679, 16383, 32767, 65535] [true, false, false, false, true, true, false, false, false, false, false, false, false, true, true, false, false])
 (.cond (.tmp 36) (.exit 1)
 .skip))
 (.seq (.region [⟨.move (.tmp 6), some 37, none⟩,
  ⟨.move (.tmp 1), some 38, none⟩,
  ⟨.move (.tmp 9), some 39, none⟩,
  ⟨.indexAddr 111 (.tmp 38) (.tmp 39), some 40, none⟩,
  ⟨.load 3 (.tmp 40), some 41, none⟩,
  ⟨.build 79 #[(0, .tmp 41), (1, .const (Value.int .i64 (-1)))], some 42, none⟩,
  ⟨.buildSlice 73 1 #[(0, .tmp 42)], some 43, none⟩,
  ⟨.call (Go.Call.mk (.builtin .append) #[.tmp 37, .tmp 43] #[73, 73]), some 44, none⟩,
  ⟨.assign (.tmp 44), some 6, none⟩])
 (.block 2 (.loop (.seq (.seq (.region [⟨.move (.tmp 8), some 45, none⟩,
  ⟨.move (.tmp 6), some 46, none⟩,
  ⟨.call (Go.Call.mk (.builtin .len) #[.tmp 46] #[73]), some 47, none⟩,
  ⟨.binOp .lss 3 (.tmp 45) (.tmp 47) 3, some 48, none⟩])
 (.cond (.tmp 48) .skip
 (.exit 2)))
 (.block 3 (.seq (.draw [⟨.load 26 (.tmp 2), some 49, none⟩,
  ⟨.move (.tmp 6), some 50, none⟩,
  ⟨.move (.tmp 8), some 51, none⟩,
  ⟨.indexAddr 73 (.tmp 50) (.tmp 51), some 52, none⟩,
  ⟨.fieldAddr 79 (.tmp 52) 0, some 53, none⟩,
  ⟨.load 3 (.tmp 53), some 54, none⟩,
  ⟨.call (Go.Call.mk (.value (.func 48)) #[.tmp 49, .tmp 54] #[26, 3]), some 55, none⟩,
  ⟨.field 68 (.tmp 55) 5, some 56, none⟩,
  ⟨.assign (.tmp 56), some 10, none⟩] [0, 0, 0, 6, 14, 30, 63, 127, 255] [true, false, false, false, false, true, true, false, false])
 (.seq (.seq (.region [⟨.assign (.const (Value.int .i64 0)), some 11, none⟩])
 (.block 4 (.loop (.seq (.seq (.region [⟨.move (.tmp 11), some 57, none⟩,
  ⟨.move (.tmp 10), some 58, none⟩,
  ⟨.call (Go.Call.mk (.builtin .len) #[.tmp 58] #[62]), some 59, none⟩,
  ⟨.binOp .lss 3 (.tmp 57) (.tmp 59) 3, some 60, none⟩])
 (.cond (.tmp 60) .skip
 (.exit 4)))
 (.seq (.block 5 (.seq (.seq (.draw [⟨.load 26 (.tmp 2), some 63, none⟩,
  ⟨.move (.tmp 10), some 64, none⟩,
  ⟨.move (.tmp 11), some 65, none⟩,
  ⟨.indexAddr 62 (.tmp 64) (.tmp 65), some 66, none⟩,
  ⟨.fieldAddr 55 (.tmp 66) 1, some 67, none⟩,
  ⟨.load 3 (.tmp 67), some 68, none⟩,
  ⟨.call (Go.Call.mk (.value (.func 48)) #[.tmp 63, .tmp 68] #[26, 3]), some 69, none⟩,
  ⟨.field 68 (.tmp 69) 0, some 70, none⟩,
  ⟨.binOp .neq 3 (.tmp 70) (.const (Value.int .i64 1)) 3, some 71, none⟩] [0, 0, 0, 6, 14, 30, 63, 127, 255] [true, false, false, false, false, true, true, false, false])
 (.cond (.tmp 71) (.exit 5)
 .skip))
 (.seq (.region [⟨.move (.tmp 6), some 72, none⟩,
  ⟨.move (.tmp 10), some 73, none⟩,
  ⟨.move (.tmp 11), some 74, none⟩,
  ⟨.indexAddr 62 (.tmp 73) (.tmp 74), some 75, none⟩,
  ⟨.fieldAddr 55 (.tmp 75) 1, some 76, none⟩,
  ⟨.load 3 (.tmp 76), some 77, none⟩,
  ⟨.call (Go.Call.mk (.value (.func 106)) #[.tmp 72, .tmp 77] #[73, 3]), some 78, none⟩,
  ⟨.binOp .geq 3 (.tmp 78) (.const (Value.int .i64 0)) 3, some 79, none⟩])
 (.cond (.tmp 79) (.draw [⟨.move (.tmp 7), some 80, none⟩,
  ⟨.move (.tmp 6), some 81, none⟩,
  ⟨.move (.tmp 8), some 82, none⟩,
  ⟨.indexAddr 73 (.tmp 81) (.tmp 82), some 83, none⟩,
  ⟨.fieldAddr 79 (.tmp 83) 0, some 84, none⟩,
  ⟨.load 3 (.tmp 84), some 85, none⟩,
  ⟨.move (.tmp 10), some 86, none⟩,
  ⟨.move (.tmp 11), some 87, none⟩,
  ⟨.indexAddr 62 (.tmp 86) (.tmp 87), some 88, none⟩,
  ⟨.fieldAddr 55 (.tmp 88) 0, some 89, none⟩,
  ⟨.load 3 (.tmp 89), some 90, none⟩,
  ⟨.build 144 #[(0, .tmp 85), (1, .tmp 90)], some 91, none⟩,
  ⟨.buildSlice 113 1 #[(0, .tmp 91)], some 92, none⟩,
  ⟨.call (Go.Call.mk (.builtin .append) #[.tmp 80, .tmp 92] #[113, 113]), some 93, none⟩,
  ⟨.assign (.tmp 93), some 7, none⟩] [0, 0, 0, 6, 14, 30, 0, 0, 192, 448, 960, 2046, 4094, 8191, 16383] [false, false, false, false, false, true, false, false, false, false, true, false, false, true, false])
 (.draw [⟨.move (.tmp 6), some 94, none⟩,
  ⟨.move (.tmp 10), some 95, none⟩,
  ⟨.move (.tmp 11), some 96, none⟩,
  ⟨.indexAddr 62 (.tmp 95) (.tmp 96), some 97, none⟩,
  ⟨.fieldAddr 55 (.tmp 97) 1, some 98, none⟩,
  ⟨.load 3 (.tmp 98), some 99, none⟩,
  ⟨.move (.tmp 8), some 100, none⟩,
  ⟨.move (.tmp 10), some 101, none⟩,
  ⟨.move (.tmp 11), some 102, none⟩,
  ⟨.indexAddr 62 (.tmp 101) (.tmp 102), some 103, none⟩,
  ⟨.fieldAddr 55 (.tmp 103) 2, some 104, none⟩,
  ⟨.load 9 (.tmp 104), some 105, none⟩,
  ⟨.build 79 #[(0, .tmp 99), (1, .tmp 100), (2, .tmp 105)], some 106, none⟩,
  ⟨.buildSlice 73 1 #[(0, .tmp 106)], some 107, none⟩,
  ⟨.call (Go.Call.mk (.builtin .append) #[.tmp 94, .tmp 107] #[73, 73]), some 108, none⟩,
  ⟨.assign (.tmp 108), some 6, none⟩] [0, 0, 0, 6, 14, 30, 0, 0, 0, 384, 896, 1920, 4094, 8190, 16383, 32767] [false, false, false, false, false, true, false, false, false, false, false, true, false, false, true, false])))))
 (.region [⟨.move (.tmp 11), some 61, none⟩,
  ⟨.binOp .add 3 (.tmp 61) (.const (Value.int .i64 1)) 3, some 62, none⟩,
  ⟨.assign (.tmp 62), some 11, none⟩]))))))
 (.region [⟨.move (.tmp 8), some 109, none⟩,
  ⟨.binOp .add 3 (.tmp 109) (.const (Value.int .i64 1)) 3, some 110, none⟩,
  ⟨.assign (.tmp 110), some 8, none⟩]))))))))))
 (.region [⟨.move (.tmp 9), some 18, none⟩,
  ⟨.binOp .add 3 (.tmp 18) (.const (Value.int .i64 1)) 3, some 19, none⟩,
  ⟨.assign (.tmp 19), some 9, none⟩]))))))
 (.seq (.region [⟨.move (.tmp 6), some 111, none⟩,
  ⟨.move (.tmp 7), some 112, none⟩,
  ⟨.assign (.tmp 111), some 4, none⟩,
  ⟨.assign (.tmp 112), some 5, none⟩])
 .ret)))))
theorem fc_ref13_walk : FnC Tryz.prog 92 113 [.tmp 4, .tmp 5] c_ref13_walk := ⟨by kernel_rfl, Tryz.f92, _, Tryz.func92, rfl, rfl, rfl, by kernel_rfl⟩
def c_walk_trail_node : AC := (.seq (.region [⟨.alloc 68, some 4, none⟩])
 (.seq (.seq (.region [⟨.move (.tmp 1), some 5, none⟩,
  ⟨.binOp .lss 3 (.tmp 5) (.const (Value.int .i64 1)) 3, some 6, none⟩,
  ⟨.move (.tmp 6), some 7, none⟩,
  ⟨.move (.tmp 1), some 8, (some (7, false))⟩,
  ⟨.move (.tmp 0), some 9, (some (7, false))⟩,
  ⟨.nilCheck (.tmp 9), some 10, (some (7, false))⟩,
  ⟨.fieldAddr 115 (.tmp 10) 0, some 11, (some (7, false))⟩,
  ⟨.fieldAddr 26 (.tmp 11) 0, some 12, (some (7, false))⟩,
  ⟨.load 24 (.tmp 12), some 13, (some (7, false))⟩,
  ⟨.call (Go.Call.mk (.builtin .len) #[.tmp 13] #[24]), some 14, (some (7, false))⟩,
  ⟨.binOp .gtr 3 (.tmp 8) (.tmp 14) 3, some 15, (some (7, false))⟩,
  ⟨.pick (.tmp 7) (.const (Value.bool true)) (.tmp 15), some 16, none⟩])
 (.cond (.tmp 16) (.seq (.region [⟨.build 68 #[], some 17, none⟩,
  ⟨.store 68 (.tmp 4) (.tmp 17), none, none⟩])
 .ret)
 .skip))
 (.seq (.region [⟨.move (.tmp 0), some 18, none⟩,
  ⟨.nilCheck (.tmp 18), some 19, none⟩,
  ⟨.fieldAddr 115 (.tmp 19) 0, some 20, none⟩,
  ⟨.fieldAddr 26 (.tmp 20) 0, some 21, none⟩,
  ⟨.load 24 (.tmp 21), some 22, none⟩,
  ⟨.move (.tmp 1), some 23, none⟩,
  ⟨.binOp .sub 3 (.tmp 23) (.const (Value.int .i64 1)) 3, some 24, none⟩,
  ⟨.indexAddr 24 (.tmp 22) (.tmp 24), some 25, none⟩,
  ⟨.load 68 (.tmp 25), some 26, none⟩,
  ⟨.store 68 (.tmp 4) (.tmp 26), none, none⟩])
 .ret)))
theorem fc_walk_trail_node : FnC Tryz.prog 93 27 [.cell 4 68] c_walk_trail_node := ⟨by kernel_rfl, Tryz.f93, _, Tryz.func93, rfl, rfl, rfl, by kernel_rfl⟩
def c_walk_trail_come : AC := (.seq (.region [⟨.box 79 (.tmp 1), some 3, none⟩,
  ⟨.assign (.const (Value.bool false)), some 4, none⟩])
 (.seq (.seq (.draw [⟨.move (.tmp 0), some 5, none⟩,
  ⟨.nilCheck (.tmp 5), some 6, none⟩,
  ⟨.fieldAddr 115 (.tmp 6) 2, some 7, none⟩,
  ⟨.load 112 (.tmp 7), some 8, none⟩,
  ⟨.fieldAddr 79 (.tmp 3) 0, some 9, none⟩,
  ⟨.load 3 (.tmp 9), some 10, none⟩,
  ⟨.lookup 112 (.tmp 8) (.tmp 10) false, some 11, none⟩,
  ⟨.binOp .gtr 3 (.tmp 11) (.const (Value.int .i64 0)) 3, some 12, none⟩] [0, 1, 3, 7, 0, 16, 63, 127] [false, false, false, true, false, true, true, false])
 (.cond (.tmp 12) (.seq (.region [⟨.assign (.const (Value.bool false)), some 4, none⟩])
 .ret)
 .skip))
 (.seq (.draw [⟨.move (.tmp 0), some 13, none⟩,
  ⟨.nilCheck (.tmp 13), some 14, none⟩,
  ⟨.fieldAddr 115 (.tmp 14) 2, some 15, none⟩,
  ⟨.load 112 (.tmp 15), some 16, none⟩,
  ⟨.fieldAddr 79 (.tmp 3) 0, some 17, none⟩,
  ⟨.load 3 (.tmp 17), some 18, none⟩,
  ⟨.lookup 112 (.tmp 16) (.tmp 18) false, some 19, none⟩,
  ⟨.binOp .add 3 (.tmp 19) (.const (Value.int .i64 1)) 3, some 20, none⟩,
  ⟨.mapUpdate 112 (.tmp 16) (.tmp 18) (.tmp 20), none, none⟩] [0, 1, 3, 7, 0, 16, 63, 127, 255] [false, false, false, true, false, true, true, false, true])
 (.seq (.draw [⟨.move (.tmp 0), some 21, none⟩,
  ⟨.move (.tmp 0), some 22, none⟩,
  ⟨.nilCheck (.tmp 22), some 23, none⟩,
  ⟨.fieldAddr 115 (.tmp 23) 1, some 24, none⟩,
  ⟨.load 73 (.tmp 24), some 25, none⟩,
  ⟨.load 79 (.tmp 3), some 26, none⟩,
  ⟨.buildSlice 73 1 #[(0, .tmp 26)], some 27, none⟩,
  ⟨.call (Go.Call.mk (.builtin .append) #[.tmp 25, .tmp 27] #[73, 73]), some 28, none⟩,
  ⟨.nilCheck (.tmp 21), some 29, none⟩,
  ⟨.fieldAddr 115 (.tmp 29) 1, some 30, none⟩,
  ⟨.store 73 (.tmp 30) (.tmp 28), none, none⟩] [0, 0, 2, 6, 14, 0, 32, 126, 255, 511, 1023] [false, false, false, false, true, true, false, true, false, false, true])
 (.seq (.region [⟨.assign (.const (Value.bool true)), some 4, none⟩])
 .ret)))))
theorem fc_walk_trail_come : FnC Tryz.prog 94 31 [.tmp 4] c_walk_trail_come := ⟨by kernel_rfl, Tryz.f94, _, Tryz.func94, rfl, rfl, rfl, by kernel_rfl⟩
def c_walk_trail_enter : AC := (.seq (.region [⟨.move (.tmp 0), some 7, none⟩,
  ⟨.nilCheck (.tmp 7), some 8, none⟩,
  ⟨.fieldAddr 115 (.tmp 8) 1, some 9, none⟩,
  ⟨.load 73 (.tmp 9), some 10, none⟩,
  ⟨.move (.tmp 1), some 11, none⟩,
  ⟨.indexAddr 73 (.tmp 10) (.tmp 11), some 12, none⟩,
  ⟨.fieldAddr 79 (.tmp 12) 0, some 13, none⟩,
  ⟨.load 3 (.tmp 13), some 14, none⟩,
  ⟨.assign (.tmp 14), some 4, none⟩])
 (.seq (.region [⟨.move (.tmp 0), some 15, none⟩,
  ⟨.move (.tmp 4), some 16, none⟩,
  ⟨.call (Go.Call.mk (.value (.func 93)) #[.tmp 15, .tmp 16] #[116, 3]), some 17, none⟩,
  ⟨.field 68 (.tmp 17) 5, some 18, none⟩,
  ⟨.call (Go.Call.mk (.builtin .len) #[.tmp 18] #[62]), some 19, none⟩,
  ⟨.move (.const (Value.int .i64 0)), some 20, none⟩])
 (.block 0 (.loop (.seq (.region [⟨.binOp .lss 3 (.tmp 20) (.tmp 19) 3, some 21, none⟩])
 (.seq (.cond (.tmp 21) .skip
 (.exit 0))
 (.seq (.block 1 (.seq (.region [⟨.indexAddr 62 (.tmp 18) (.tmp 20), some 22, none⟩,
  ⟨.load 55 (.tmp 22), some 23, none⟩,
  ⟨.alloc 55, some 6, none⟩,
  ⟨.store 55 (.tmp 6) (.tmp 23), none, none⟩])
 (.seq (.region [⟨.move (.tmp 0), some 24, none⟩,
  ⟨.fieldAddr 55 (.tmp 6) 1, some 25, none⟩,
  ⟨.load 3 (.tmp 25), some 26, none⟩,
  ⟨.call (Go.Call.mk (.value (.func 93)) #[.tmp 24, .tmp 26] #[116, 3]), some 27, none⟩,
  ⟨.field 68 (.tmp 27) 0, some 28, none⟩,
  ⟨.binOp .eql 3 (.tmp 28) (.const (Value.int .i64 1)) 3, some 29, none⟩,
  ⟨.move (.tmp 29), some 30, none⟩,
  ⟨.move (.tmp 0), some 31, (some (30, true))⟩,
  ⟨.fieldAddr 55 (.tmp 6) 1, some 32, (some (30, true))⟩,
  ⟨.load 3 (.tmp 32), some 33, (some (30, true))⟩,
  ⟨.move (.tmp 1), some 34, (some (30, true))⟩,
  ⟨.fieldAddr 55 (.tmp 6) 2, some 35, (some (30, true))⟩,
  ⟨.load 9 (.tmp 35), some 36, (some (30, true))⟩,
  ⟨.build 79 #[(0, .tmp 33), (1, .tmp 34), (2, .tmp 36)], some 37, (some (30, true))⟩,
  ⟨.call (Go.Call.mk (.value (.func 94)) #[.tmp 31, .tmp 37] #[116, 79]), some 38, (some (30, true))⟩,
  ⟨.unOp .not 4 (.tmp 38), some 39, (some (30, true))⟩,
  ⟨.pick (.tmp 30) (.tmp 39) (.const (Value.bool false)), some 40, none⟩])
 (.cond (.tmp 40) (.draw [⟨.move (.tmp 0), some 41, none⟩,
  ⟨.move (.tmp 0), some 42, none⟩,
  ⟨.nilCheck (.tmp 42), some 43, none⟩,
  ⟨.fieldAddr 115 (.tmp 43) 3, some 44, none⟩,
  ⟨.load 113 (.tmp 44), some 45, none⟩,
  ⟨.move (.tmp 4), some 46, none⟩,
  ⟨.fieldAddr 55 (.tmp 6) 0, some 47, none⟩,
  ⟨.load 3 (.tmp 47), some 48, none⟩,
  ⟨.build 144 #[(0, .tmp 46), (1, .tmp 48)], some 49, none⟩,
  ⟨.buildSlice 113 1 #[(0, .tmp 49)], some 50, none⟩,
  ⟨.call (Go.Call.mk (.builtin .append) #[.tmp 45, .tmp 50] #[113, 113]), some 51, none⟩,
  ⟨.nilCheck (.tmp 41), some 52, none⟩,
  ⟨.fieldAddr 115 (.tmp 52) 3, some 53, none⟩,
  ⟨.store 113 (.tmp 53) (.tmp 51), none, none⟩] [0, 0, 2, 6, 14, 0, 0, 64, 224, 480, 1022, 2047, 4095, 8191] [false, false, false, false, true, false, false, true, false, false, true, false, false, true])
 .skip))))
 (.region [⟨.binOp .add 3 (.tmp 20) (.const (Value.int .i64 1)) 3, some 54, none⟩,
  ⟨.move (.tmp 54), some 20, none⟩]))))))))
theorem fc_walk_trail_enter : FnC Tryz.prog 95 55 [] c_walk_trail_enter := ⟨by kernel_rfl, Tryz.f95, _, Tryz.func95, rfl, rfl, rfl, by kernel_rfl⟩
def c_slices_IndexFunc_api_Node_api_Node : AC := (.seq (.region [⟨.assign (.const (Value.int .i64 0)), some 4, none⟩])
 (.seq (.seq (.region [⟨.move (.tmp 0), some 6, none⟩,
  ⟨.call (Go.Call.mk (.builtin .len) #[.tmp 6] #[24]), some 7, none⟩,
  ⟨.move (.const (Value.int .i64 0)), some 8, none⟩])
 (.block 0 (.loop (.seq (.region [⟨.binOp .lss 3 (.tmp 8) (.tmp 7) 3, some 9, none⟩])
 (.seq (.cond (.tmp 9) .skip
 (.exit 0))
 (.seq (.block 1 (.seq (.region [⟨.move (.tmp 8), some 10, none⟩,
  ⟨.assign (.tmp 10), some 5, none⟩])
 (.seq (.region [⟨.move (.tmp 1), some 11, none⟩,
  ⟨.move (.tmp 0), some 12, none⟩,
  ⟨.move (.tmp 5), some 13, none⟩,
  ⟨.indexAddr 24 (.tmp 12) (.tmp 13), some 14, none⟩,
  ⟨.load 68 (.tmp 14), some 15, none⟩,
  ⟨.call (Go.Call.mk (.value (.tmp 11)) #[.tmp 15] #[68]), some 16, none⟩])
 (.cond (.tmp 16) (.seq (.region [⟨.move (.tmp 5), some 17, none⟩,
  ⟨.assign (.tmp 17), some 4, none⟩])
 .ret)
 .skip))))
 (.region [⟨.binOp .add 3 (.tmp 8) (.const (Value.int .i64 1)) 3, some 18, none⟩,
  ⟨.move (.tmp 18), some 8, none⟩])))))))
 (.seq (.region [⟨.assign (.const (Value.int .i64 (-1))), some 4, none⟩])
 .ret)))
theorem fc_slices_IndexFunc_api_Node_api_Node : FnC Tryz.prog 96 19 [.tmp 4] c_slices_IndexFunc_api_Node_api_Node := ⟨by kernel_rfl, Tryz.f96, _, Tryz.func96, rfl, rfl, rfl, by kernel_rfl⟩
def c_plain_odd : AC := (.seq (.region [⟨.box 55 (.tmp 0), some 1, none⟩,
  ⟨.assign (.const (Value.bool false)), some 2, none⟩])
 (.seq (.region [⟨.fieldAddr 55 (.tmp 1) 2, some 3, none⟩,
  ⟨.load 9 (.tmp 3), some 4, none⟩,
  ⟨.call (Go.Call.mk (.value (.func 89)) #[.tmp 4] #[9]), some 5, none⟩,
  ⟨.unOp .not 4 (.tmp 5), some 6, none⟩,
  ⟨.assign (.tmp 6), some 2, none⟩])
 .ret))
theorem fc_plain_odd : FnC Tryz.prog 97 7 [.tmp 2] c_plain_odd := ⟨by kernel_rfl, Tryz.f97, _, Tryz.func97, rfl, rfl, rfl, by kernel_rfl⟩
def c_path_Split : AC := (.seq (.region [⟨.assign (.const (Value.slice none 0 0)), some 2, none⟩,
  ⟨.assign (.const (Value.bool false)), some 3, none⟩])
 (.seq (.region [⟨.move (.tmp 0), some 7, none⟩,
  ⟨.call (Go.Call.mk (.value (.func 119)) #[.tmp 7] #[9]), some 8, none⟩,
  ⟨.move (.tmp 8), some 6, none⟩,
  ⟨.extract (.tmp 6) 0, some 9, none⟩,
  ⟨.extract (.tmp 6) 1, some 10, none⟩,
  ⟨.assign (.tmp 9), some 4, none⟩,
  ⟨.assign (.tmp 10), some 5, none⟩])
 (.seq (.block 0 (.seq (.region [⟨.move (.tmp 0), some 12, none⟩,
  ⟨.binOp .eql 9 (.tmp 12) (.const (Value.string (ByteArray.mk #[47]))) 9, some 13, none⟩,
  ⟨.assign (.tmp 13), some 11, none⟩])
 (.cond (.tmp 11) (.seq (.region [⟨.assign (.const (Value.slice none 0 0)), some 2, none⟩,
  ⟨.assign (.const (Value.bool true)), some 3, none⟩])
 .ret)
 (.seq (.seq (.region [⟨.move (.tmp 5), some 15, none⟩,
  ⟨.unOp .not 4 (.tmp 15), some 16, none⟩,
  ⟨.assign (.tmp 16), some 14, none⟩])
 (.cond (.tmp 14) .skip
 (.region [⟨.move (.tmp 4), some 17, none⟩,
  ⟨.call (Go.Call.mk (.value (.func 120)) #[.tmp 17, .func 121] #[42, 104]), some 18, none⟩,
  ⟨.assign (.tmp 18), some 14, none⟩])))
 (.cond (.tmp 14) (.seq (.region [⟨.assign (.const (Value.slice none 0 0)), some 2, none⟩,
  ⟨.assign (.const (Value.bool false)), some 3, none⟩])
 .ret)
 .skip)))))
 (.seq (.region [⟨.move (.tmp 4), some 19, none⟩,
  ⟨.assign (.tmp 19), some 2, none⟩,
  ⟨.assign (.const (Value.bool true)), some 3, none⟩])
 .ret))))
theorem fc_path_Split : FnC Tryz.prog 101 20 [.tmp 2, .tmp 3] c_path_Split := ⟨by kernel_rfl, Tryz.f101, _, Tryz.func101, rfl, rfl, rfl, by kernel_rfl⟩
def c_name_Right : AC := (.seq (.region [⟨.assign (.const (Value.bool false)), some 2, none⟩])
 (.seq (.seq (.region [⟨.move (.tmp 0), some 3, none⟩,
  ⟨.call (Go.Call.mk (.builtin .len) #[.tmp 3] #[9]), some 4, none⟩,
  ⟨.binOp .eql 3 (.tmp 4) (.const (Value.int .i64 0)) 3, some 5, none⟩,
  ⟨.move (.tmp 5), some 6, none⟩,
  ⟨.move (.tmp 0), some 7, (some (6, false))⟩,
  ⟨.call (Go.Call.mk (.builtin .len) #[.tmp 7] #[9]), some 8, (some (6, false))⟩,
  ⟨.binOp .gtr 3 (.tmp 8) (.const (Value.int .i64 12)) 3, some 9, (some (6, false))⟩,
  ⟨.pick (.tmp 6) (.const (Value.bool true)) (.tmp 9), some 10, none⟩,
  ⟨.move (.tmp 10), some 11, none⟩,
  ⟨.move (.tmp 0), some 12, (some (11, false))⟩,
  ⟨.binOp .eql 9 (.tmp 12) (.const (Value.string (ByteArray.mk #[46]))) 9, some 13, (some (11, false))⟩,
  ⟨.pick (.tmp 11) (.const (Value.bool true)) (.tmp 13), some 14, none⟩,
  ⟨.move (.tmp 14), some 15, none⟩,
  ⟨.move (.tmp 0), some 16, (some (15, false))⟩,
  ⟨.binOp .eql 9 (.tmp 16) (.const (Value.string (ByteArray.mk #[46, 46]))) 9, some 17, (some (15, false))⟩,
  ⟨.pick (.tmp 15) (.const (Value.bool true)) (.tmp 17), some 18, none⟩])
 (.cond (.tmp 18) (.seq (.region [⟨.assign (.const (Value.bool false)), some 2, none⟩])
 .ret)
 .skip))
 (.seq (.region [⟨.move (.tmp 0), some 19, none⟩,
  ⟨.call (Go.Call.mk (.value (.func 122)) #[.tmp 19, .func 123] #[9, 159]), some 20, none⟩,
  ⟨.binOp .lss 3 (.tmp 20) (.const (Value.int .i64 0)) 3, some 21, none⟩,
  ⟨.assign (.tmp 21), some 2, none⟩])
 .ret)))
theorem fc_name_Right : FnC Tryz.prog 102 22 [.tmp 2] c_name_Right := ⟨by kernel_rfl, Tryz.f102, _, Tryz.func102, rfl, rfl, rfl, by kernel_rfl⟩
def c_slices_Clone_api_Place_api_Place : AC := (.seq (.region [⟨.assign (.const (Value.slice none 0 0)), some 2, none⟩])
 (.seq (.seq (.region [⟨.move (.tmp 0), some 3, none⟩,
  ⟨.binOp .eql 30 (.tmp 3) (.const (Value.slice none 0 0)) 30, some 4, none⟩])
 (.cond (.tmp 4) (.seq (.region [⟨.assign (.const (Value.slice none 0 0)), some 2, none⟩])
 .ret)
 .skip))
 (.seq (.region [⟨.buildSlice 30 0 #[], some 5, none⟩,
  ⟨.move (.tmp 0), some 6, none⟩,
  ⟨.call (Go.Call.mk (.builtin .append) #[.tmp 5, .tmp 6] #[30, 30]), some 7, none⟩,
  ⟨.assign (.tmp 7), some 2, none⟩])
 .ret)))
theorem fc_slices_Clone_api_Place_api_Place : FnC Tryz.prog 103 8 [.tmp 2] c_slices_Clone_api_Place_api_Place := ⟨by kernel_rfl, Tryz.f103, _, Tryz.func103, rfl, rfl, rfl, by kernel_rfl⟩
def c_ref04_parts : AC := (.seq (.region [⟨.assign (.const (Value.slice none 0 0)), some 2, none⟩])
 (.seq (.region [⟨.buildSlice 42 1 #[(0, .const (Value.string (ByteArray.mk #[])))], some 5, none⟩,
  ⟨.assign (.tmp 5), some 3, none⟩])
 (.seq (.seq (.region [⟨.assign (.const (Value.int .i64 1)), some 4, none⟩])
 (.block 0 (.loop (.seq (.seq (.region [⟨.move (.tmp 4), some 6, none⟩,
  ⟨.move (.tmp 0), some 7, none⟩,
  ⟨.call (Go.Call.mk (.builtin .len) #[.tmp 7] #[9]), some 8, none⟩,
  ⟨.binOp .lss 3 (.tmp 6) (.tmp 8) 3, some 9, none⟩])
 (.cond (.tmp 9) .skip
 (.exit 0)))
 (.seq (.block 1 (.seq (.region [⟨.move (.tmp 0), some 12, none⟩,
  ⟨.move (.tmp 4), some 13, none⟩,
  ⟨.index 9 (.tmp 12) (.tmp 13), some 14, none⟩,
  ⟨.binOp .eql 5 (.tmp 14) (.const (Value.int .u8 47)) 5, some 15, none⟩])
 (.cond (.tmp 15) (.region [⟨.move (.tmp 3), some 16, none⟩,
  ⟨.buildSlice 42 1 #[(0, .const (Value.string (ByteArray.mk #[])))], some 17, none⟩,
  ⟨.call (Go.Call.mk (.builtin .append) #[.tmp 16, .tmp 17] #[42, 42]), some 18, none⟩,
  ⟨.assign (.tmp 18), some 3, none⟩])
 (.draw [⟨.move (.tmp 3), some 19, none⟩,
  ⟨.move (.tmp 3), some 20, none⟩,
  ⟨.call (Go.Call.mk (.builtin .len) #[.tmp 20] #[42]), some 21, none⟩,
  ⟨.binOp .sub 3 (.tmp 21) (.const (Value.int .i64 1)) 3, some 22, none⟩,
  ⟨.move (.tmp 3), some 23, none⟩,
  ⟨.move (.tmp 3), some 24, none⟩,
  ⟨.call (Go.Call.mk (.builtin .len) #[.tmp 24] #[42]), some 25, none⟩,
  ⟨.binOp .sub 3 (.tmp 25) (.const (Value.int .i64 1)) 3, some 26, none⟩,
  ⟨.indexAddr 42 (.tmp 23) (.tmp 26), some 27, none⟩,
  ⟨.load 9 (.tmp 27), some 28, none⟩,
  ⟨.move (.tmp 0), some 29, none⟩,
  ⟨.move (.tmp 4), some 30, none⟩,
  ⟨.move (.tmp 4), some 31, none⟩,
  ⟨.binOp .add 3 (.tmp 31) (.const (Value.int .i64 1)) 3, some 32, none⟩,
  ⟨.slice 9 (.tmp 29) (some (.tmp 30)) (some (.tmp 32)) none, some 33, none⟩,
  ⟨.binOp .add 9 (.tmp 28) (.tmp 33) 9, some 34, none⟩,
  ⟨.indexAddr 42 (.tmp 19) (.tmp 22), some 35, none⟩,
  ⟨.store 9 (.tmp 35) (.tmp 34), none, none⟩] [0, 0, 2, 6, 0, 0, 32, 96, 240, 496, 0, 0, 0, 4096, 15360, 32752, 65535, 131071] [false, false, false, false, false, false, false, false, false, true, false, false, false, false, false, false, false, true]))))
 (.region [⟨.move (.tmp 4), some 10, none⟩,
  ⟨.binOp .add 3 (.tmp 10) (.const (Value.int .i64 1)) 3, some 11, none⟩,
  ⟨.assign (.tmp 11), some 4, none⟩]))))))
 (.seq (.region [⟨.move (.tmp 3), some 36, none⟩,
  ⟨.assign (.tmp 36), some 2, none⟩])
 .ret))))
theorem fc_ref04_parts : FnC Tryz.prog 104 37 [.tmp 2] c_ref04_parts := ⟨by kernel_rfl, Tryz.f104, _, Tryz.func104, rfl, rfl, rfl, by kernel_rfl⟩
def c_ref03_letter : AC := (.seq (.region [⟨.assign (.const (Value.bool false)), some 2, none⟩])
 (.seq (.region [⟨.move (.tmp 0), some 3, none⟩,
  ⟨.binOp .geq 5 (.tmp 3) (.const (Value.int .u8 97)) 5, some 4, none⟩,
  ⟨.move (.tmp 4), some 5, none⟩,
  ⟨.move (.tmp 0), some 6, (some (5, true))⟩,
  ⟨.binOp .leq 5 (.tmp 6) (.const (Value.int .u8 122)) 5, some 7, (some (5, true))⟩,
  ⟨.pick (.tmp 5) (.tmp 7) (.const (Value.bool false)), some 8, none⟩,
  ⟨.move (.tmp 8), some 9, none⟩,
  ⟨.move (.tmp 0), some 10, (some (9, false))⟩,
  ⟨.binOp .geq 5 (.tmp 10) (.const (Value.int .u8 48)) 5, some 11, (some (9, false))⟩,
  ⟨.move (.tmp 11), some 12, (some (9, false))⟩,
  ⟨.move (.tmp 0), some 13, (some (12, true))⟩,
  ⟨.binOp .leq 5 (.tmp 13) (.const (Value.int .u8 57)) 5, some 14, (some (12, true))⟩,
  ⟨.pick (.tmp 12) (.tmp 14) (.const (Value.bool false)), some 15, (some (9, false))⟩,
  ⟨.pick (.tmp 9) (.const (Value.bool true)) (.tmp 15), some 16, none⟩,
  ⟨.move (.tmp 16), some 17, none⟩,
  ⟨.move (.tmp 0), some 18, (some (17, false))⟩,
  ⟨.binOp .eql 5 (.tmp 18) (.const (Value.int .u8 46)) 5, some 19, (some (17, false))⟩,
  ⟨.pick (.tmp 17) (.const (Value.bool true)) (.tmp 19), some 20, none⟩,
  ⟨.move (.tmp 20), some 21, none⟩,
  ⟨.move (.tmp 0), some 22, (some (21, false))⟩,
  ⟨.binOp .eql 5 (.tmp 22) (.const (Value.int .u8 95)) 5, some 23, (some (21, false))⟩,
  ⟨.pick (.tmp 21) (.const (Value.bool true)) (.tmp 23), some 24, none⟩,
  ⟨.move (.tmp 24), some 25, none⟩,
  ⟨.move (.tmp 0), some 26, (some (25, false))⟩,
  ⟨.binOp .eql 5 (.tmp 26) (.const (Value.int .u8 45)) 5, some 27, (some (25, false))⟩,
  ⟨.pick (.tmp 25) (.const (Value.bool true)) (.tmp 27), some 28, none⟩,
  ⟨.assign (.tmp 28), some 2, none⟩])
 .ret))
theorem fc_ref03_letter : FnC Tryz.prog 105 29 [.tmp 2] c_ref03_letter := ⟨by kernel_rfl, Tryz.f105, _, Tryz.func105, rfl, rfl, rfl, by kernel_rfl⟩
def c_ref13_place : AC := (.seq (.region [⟨.assign (.const (Value.int .i64 0)), some 4, none⟩])
 (.seq (.seq (.region [⟨.assign (.const (Value.int .i64 0)), some 5, none⟩])
 (.block 0 (.loop (.seq (.seq (.region [⟨.move (.tmp 5), some 6, none⟩,
  ⟨.move (.tmp 0), some 7, none⟩,
  ⟨.call (Go.Call.mk (.builtin .len) #[.tmp 7] #[73]), some 8, none⟩,
  ⟨.binOp .lss 3 (.tmp 6) (.tmp 8) 3, some 9, none⟩])
 (.cond (.tmp 9) .skip
 (.exit 0)))
 (.seq (.block 1 (.seq (.region [⟨.move (.tmp 0), some 12, none⟩,
  ⟨.move (.tmp 5), some 13, none⟩,
  ⟨.indexAddr 73 (.tmp 12) (.tmp 13), some 14, none⟩,
  ⟨.fieldAddr 79 (.tmp 14) 0, some 15, none⟩,
  ⟨.load 3 (.tmp 15), some 16, none⟩,
  ⟨.move (.tmp 1), some 17, none⟩,
  ⟨.binOp .eql 3 (.tmp 16) (.tmp 17) 3, some 18, none⟩])
 (.cond (.tmp 18) (.seq (.region [⟨.move (.tmp 5), some 19, none⟩,
  ⟨.assign (.tmp 19), some 4, none⟩])
 .ret)
 .skip)))
 (.region [⟨.move (.tmp 5), some 10, none⟩,
  ⟨.binOp .add 3 (.tmp 10) (.const (Value.int .i64 1)) 3, some 11, none⟩,
  ⟨.assign (.tmp 11), some 5, none⟩]))))))
 (.seq (.region [⟨.assign (.const (Value.int .i64 (-1))), some 4, none⟩])
 .ret)))
theorem fc_ref13_place : FnC Tryz.prog 106 20 [.tmp 4] c_ref13_place := ⟨by kernel_rfl, Tryz.f106, _, Tryz.func106, rfl, rfl, rfl, by kernel_rfl⟩
end Go.Proofs.YtapdjibjnfeipaaGreatDoor.AL

