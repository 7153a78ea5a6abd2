/- What of the attributes of any stack, and of any node, may not be, is what the document says: part 34 of 50. -/
import Derived.Test.YtapdjibjnfeipaaGreatDoorChecked
import Derived.Test.YtapdjibjnfeipaaGreatDoorB33
set_option linter.all false
/- AL: the functions of this seat's translation in AL's short form, written by gencode.py out of Lean's own print of them; each with the fact that it is so. -/
set_option maxRecDepth 100000
namespace Go.Proofs.YtapdjibjnfeipaaGreatDoor.AL
open Go Go.Proofs
def c_law17_ViewTrees : AC := (.seq (.region [⟨.box 29 (.tmp 0), some 1, none⟩,
  ⟨.assign (.const (Value.bool false)), some 2, none⟩])
 (.seq (.seq (.region [⟨.load 29 (.tmp 1), some 10, none⟩,
  ⟨.call (Go.Call.mk (.value (.func 8)) #[.tmp 10, .const (Value.int .i64 24)] #[29, 3]), some 11, none⟩,
  ⟨.unOp .not 4 (.tmp 11), some 12, none⟩])
 (.cond (.tmp 12) (.seq (.region [⟨.call (Go.Call.mk (.value (.func 18)) #[] #[]), some 13, none⟩,
  ⟨.assign (.tmp 13), some 2, none⟩])
 .ret)
 .skip))
 (.seq (.region [⟨.load 29 (.tmp 1), some 15, none⟩,
  ⟨.call (Go.Call.mk (.value (.func 35)) #[.tmp 15] #[29]), some 16, none⟩,
  ⟨.move (.tmp 16), some 14, none⟩,
  ⟨.extract (.tmp 14) 0, some 17, none⟩,
  ⟨.extract (.tmp 14) 1, some 18, none⟩,
  ⟨.assign (.tmp 17), some 3, none⟩,
  ⟨.assign (.tmp 18), some 4, none⟩])
 (.seq (.region [⟨.load 29 (.tmp 1), some 20, none⟩,
  ⟨.call (Go.Call.mk (.value (.func 36)) #[.tmp 20] #[29]), some 21, none⟩,
  ⟨.move (.tmp 21), some 19, none⟩,
  ⟨.extract (.tmp 19) 0, some 22, none⟩,
  ⟨.extract (.tmp 19) 1, some 23, none⟩,
  ⟨.assign (.tmp 22), some 5, none⟩,
  ⟨.assign (.tmp 23), some 6, none⟩])
 (.seq (.seq (.region [⟨.move (.tmp 3), some 24, none⟩,
  ⟨.move (.tmp 5), some 25, none⟩,
  ⟨.call (Go.Call.mk (.value (.func 37)) #[.tmp 24, .tmp 25] #[73, 73]), some 26, none⟩,
  ⟨.unOp .not 4 (.tmp 26), some 27, none⟩,
  ⟨.move (.tmp 27), some 28, none⟩,
  ⟨.move (.tmp 4), some 29, (some (28, false))⟩,
  ⟨.move (.tmp 6), some 30, (some (28, false))⟩,
  ⟨.call (Go.Call.mk (.value (.func 38)) #[.tmp 29, .tmp 30, .func 21] #[74, 74, 48]), some 31, (some (28, false))⟩,
  ⟨.unOp .not 4 (.tmp 31), some 32, (some (28, false))⟩,
  ⟨.pick (.tmp 28) (.const (Value.bool true)) (.tmp 32), some 33, none⟩,
  ⟨.move (.tmp 33), some 34, none⟩,
  ⟨.move (.tmp 3), some 35, (some (34, false))⟩,
  ⟨.fieldAddr 29 (.tmp 1) 1, some 36, (some (34, false))⟩,
  ⟨.load 26 (.tmp 36), some 37, (some (34, false))⟩,
  ⟨.buildSlice 111 1 #[(0, .const (Value.int .i64 1))], some 38, (some (34, false))⟩,
  ⟨.call (Go.Call.mk (.value (.func 39)) #[.tmp 37, .tmp 38] #[26, 111]), some 39, (some (34, false))⟩,
  ⟨.call (Go.Call.mk (.value (.func 37)) #[.tmp 35, .tmp 39] #[73, 73]), some 40, (some (34, false))⟩,
  ⟨.unOp .not 4 (.tmp 40), some 41, (some (34, false))⟩,
  ⟨.pick (.tmp 34) (.const (Value.bool true)) (.tmp 41), some 42, none⟩])
 (.cond (.tmp 42) (.seq (.region [⟨.assign (.const (Value.bool false)), some 2, none⟩])
 .ret)
 .skip))
 (.seq (.seq (.region [⟨.move (.tmp 4), some 43, none⟩,
  ⟨.call (Go.Call.mk (.builtin .len) #[.tmp 43] #[74]), some 44, none⟩,
  ⟨.move (.const (Value.int .i64 0)), some 45, none⟩])
 (.block 0 (.loop (.seq (.region [⟨.binOp .lss 3 (.tmp 45) (.tmp 44) 3, some 46, none⟩])
 (.seq (.cond (.tmp 46) .skip
 (.exit 0))
 (.seq (.block 1 (.seq (.region [⟨.move (.tmp 45), some 47, none⟩,
  ⟨.indexAddr 74 (.tmp 43) (.tmp 45), some 48, none⟩,
  ⟨.load 32 (.tmp 48), some 49, none⟩,
  ⟨.alloc 32, some 8, none⟩,
  ⟨.assign (.tmp 47), some 7, none⟩,
  ⟨.store 32 (.tmp 8) (.tmp 49), none, none⟩])
 (.seq (.draw [⟨.fieldAddr 29 (.tmp 1) 1, some 50, none⟩,
  ⟨.fieldAddr 26 (.tmp 50) 0, some 51, none⟩,
  ⟨.load 24 (.tmp 51), some 52, none⟩,
  ⟨.move (.tmp 3), some 53, none⟩,
  ⟨.move (.tmp 7), some 54, none⟩,
  ⟨.indexAddr 73 (.tmp 53) (.tmp 54), some 55, none⟩,
  ⟨.fieldAddr 79 (.tmp 55) 0, some 56, none⟩,
  ⟨.load 3 (.tmp 56), some 57, none⟩,
  ⟨.binOp .sub 3 (.tmp 57) (.const (Value.int .i64 1)) 3, some 58, none⟩,
  ⟨.indexAddr 24 (.tmp 52) (.tmp 58), some 59, none⟩,
  ⟨.load 68 (.tmp 59), some 60, none⟩,
  ⟨.alloc 68, some 9, none⟩,
  ⟨.store 68 (.tmp 9) (.tmp 60), none, none⟩] [0, 1, 3, 0, 0, 24, 56, 120, 248, 511, 1023, 0, 4095] [false, false, true, false, false, false, false, true, false, false, true, false, true])
 (.seq (.draw [⟨.fieldAddr 32 (.tmp 8) 0, some 61, none⟩,
  ⟨.load 3 (.tmp 61), some 62, none⟩,
  ⟨.move (.tmp 3), some 63, none⟩,
  ⟨.move (.tmp 7), some 64, none⟩,
  ⟨.indexAddr 73 (.tmp 63) (.tmp 64), some 65, none⟩,
  ⟨.fieldAddr 79 (.tmp 65) 0, some 66, none⟩,
  ⟨.load 3 (.tmp 66), some 67, none⟩,
  ⟨.binOp .neq 3 (.tmp 62) (.tmp 67) 3, some 68, none⟩,
  ⟨.move (.tmp 68), some 69, none⟩,
  ⟨.load 68 (.tmp 9), some 70, (some (69, false))⟩,
  ⟨.call (Go.Call.mk (.value (.func 40)) #[.tmp 70] #[68]), some 71, (some (69, false))⟩,
  ⟨.load 68 (.tmp 9), some 72, (some (69, false))⟩,
  ⟨.call (Go.Call.mk (.value (.func 41)) #[.tmp 72] #[68]), some 73, (some (69, false))⟩,
  ⟨.binOp .neq 4 (.tmp 71) (.tmp 73) 4, some 74, (some (69, false))⟩,
  ⟨.pick (.tmp 69) (.const (Value.bool true)) (.tmp 74), some 75, none⟩,
  ⟨.move (.tmp 75), some 76, none⟩,
  ⟨.load 68 (.tmp 9), some 77, (some (76, false))⟩,
  ⟨.call (Go.Call.mk (.value (.func 40)) #[.tmp 77] #[68]), some 78, (some (76, false))⟩,
  ⟨.move (.tmp 78), some 79, (some (76, false))⟩,
  ⟨.fieldAddr 32 (.tmp 8) 1, some 80, (some (79, true))⟩,
  ⟨.load 30 (.tmp 80), some 81, (some (79, true))⟩,
  ⟨.call (Go.Call.mk (.builtin .len) #[.tmp 81] #[30]), some 82, (some (79, true))⟩,
  ⟨.binOp .gtr 3 (.tmp 82) (.const (Value.int .i64 0)) 3, some 83, (some (79, true))⟩,
  ⟨.pick (.tmp 79) (.tmp 83) (.const (Value.bool false)), some 84, (some (76, false))⟩,
  ⟨.pick (.tmp 76) (.const (Value.bool true)) (.tmp 84), some 85, none⟩] [0, 1, 0, 0, 12, 28, 60, 127, 255, 511, 1023, 511, 4095, 8191, 16383, 32767, 65535, 131071, 262143, 524287, 1048575, 2097151, 4194303, 8388607, 16777215] [false, true, false, false, false, false, true, false, false, true, true, true, true, false, false, false, true, true, false, false, true, false, false, false, false])
 (.cond (.tmp 85) (.seq (.region [⟨.assign (.const (Value.bool false)), some 2, none⟩])
 .ret)
 .skip)))))
 (.region [⟨.binOp .add 3 (.tmp 45) (.const (Value.int .i64 1)) 3, some 86, none⟩,
  ⟨.move (.tmp 86), some 45, none⟩])))))))
 (.seq (.region [⟨.call (Go.Call.mk (.value (.func 18)) #[] #[]), some 87, none⟩,
  ⟨.assign (.tmp 87), some 2, none⟩])
 .ret)))))))
theorem fc_law17_ViewTrees : FnC Tryz.prog 7 88 [.tmp 2] c_law17_ViewTrees := ⟨by kernel_rfl, Tryz.f7, _, Tryz.func7, rfl, rfl, rfl, by kernel_rfl⟩
def c_plain_Stack : AC := (.seq (.region [⟨.box 29 (.tmp 0), some 2, none⟩,
  ⟨.box 3 (.tmp 1), some 3, none⟩,
  ⟨.assign (.const (Value.bool false)), some 4, none⟩])
 (.seq (.region [⟨.fieldAddr 29 (.tmp 2) 2, some 5, none⟩,
  ⟨.load 27 (.tmp 5), some 6, none⟩,
  ⟨.call (Go.Call.mk (.builtin .len) #[.tmp 6] #[27]), some 7, none⟩,
  ⟨.binOp .leq 3 (.tmp 7) (.const (Value.int .i64 3)) 3, some 8, none⟩,
  ⟨.move (.tmp 8), some 9, none⟩,
  ⟨.fieldAddr 29 (.tmp 2) 1, some 10, (some (9, true))⟩,
  ⟨.load 26 (.tmp 10), some 11, (some (9, true))⟩,
  ⟨.load 3 (.tmp 3), some 12, (some (9, true))⟩,
  ⟨.call (Go.Call.mk (.value (.func 42)) #[.tmp 11, .tmp 12] #[26, 3]), some 13, (some (9, true))⟩,
  ⟨.pick (.tmp 9) (.tmp 13) (.const (Value.bool false)), some 14, none⟩,
  ⟨.move (.tmp 14), some 15, none⟩,
  ⟨.fieldAddr 29 (.tmp 2) 2, some 16, (some (15, true))⟩,
  ⟨.load 27 (.tmp 16), some 17, (some (15, true))⟩,
  ⟨.makeFunc (.func 44) #[] #[.tmp 3], some 18, (some (15, true))⟩,
  ⟨.call (Go.Call.mk (.value (.func 43)) #[.tmp 17, .tmp 18] #[27, 86]), some 19, (some (15, true))⟩,
  ⟨.unOp .not 4 (.tmp 19), some 20, (some (15, true))⟩,
  ⟨.pick (.tmp 15) (.tmp 20) (.const (Value.bool false)), some 21, none⟩,
  ⟨.assign (.tmp 21), some 4, none⟩])
 .ret))
theorem fc_plain_Stack : FnC Tryz.prog 8 22 [.tmp 4] c_plain_Stack := ⟨by kernel_rfl, Tryz.f8, _, Tryz.func8, rfl, rfl, rfl, by kernel_rfl⟩
def c_slices_Equal_string_string : AC := (.seq (.region [⟨.assign (.const (Value.bool false)), some 4, none⟩])
 (.seq (.seq (.region [⟨.move (.tmp 0), some 6, none⟩,
  ⟨.call (Go.Call.mk (.builtin .len) #[.tmp 6] #[42]), some 7, none⟩,
  ⟨.move (.tmp 1), some 8, none⟩,
  ⟨.call (Go.Call.mk (.builtin .len) #[.tmp 8] #[42]), some 9, none⟩,
  ⟨.binOp .neq 3 (.tmp 7) (.tmp 9) 3, some 10, none⟩])
 (.cond (.tmp 10) (.seq (.region [⟨.assign (.const (Value.bool false)), some 4, none⟩])
 .ret)
 .skip))
 (.seq (.seq (.region [⟨.move (.tmp 0), some 11, none⟩,
  ⟨.call (Go.Call.mk (.builtin .len) #[.tmp 11] #[42]), some 12, none⟩,
  ⟨.move (.const (Value.int .i64 0)), some 13, none⟩])
 (.block 0 (.loop (.seq (.region [⟨.binOp .lss 3 (.tmp 13) (.tmp 12) 3, some 14, none⟩])
 (.seq (.cond (.tmp 14) .skip
 (.exit 0))
 (.seq (.block 1 (.seq (.region [⟨.move (.tmp 13), some 15, none⟩,
  ⟨.assign (.tmp 15), some 5, none⟩])
 (.seq (.draw [⟨.move (.tmp 0), some 16, none⟩,
  ⟨.move (.tmp 5), some 17, none⟩,
  ⟨.indexAddr 42 (.tmp 16) (.tmp 17), some 18, none⟩,
  ⟨.load 9 (.tmp 18), some 19, none⟩,
  ⟨.move (.tmp 1), some 20, none⟩,
  ⟨.move (.tmp 5), some 21, none⟩,
  ⟨.indexAddr 42 (.tmp 20) (.tmp 21), some 22, none⟩,
  ⟨.load 9 (.tmp 22), some 23, none⟩,
  ⟨.binOp .neq 9 (.tmp 19) (.tmp 23) 9, some 24, none⟩] [0, 0, 3, 7, 0, 0, 48, 112, 255] [false, false, false, true, false, false, false, true, false])
 (.cond (.tmp 24) (.seq (.region [⟨.assign (.const (Value.bool false)), some 4, none⟩])
 .ret)
 .skip))))
 (.region [⟨.binOp .add 3 (.tmp 13) (.const (Value.int .i64 1)) 3, some 25, none⟩,
  ⟨.move (.tmp 25), some 13, none⟩])))))))
 (.seq (.region [⟨.assign (.const (Value.bool true)), some 4, none⟩])
 .ret))))
theorem fc_slices_Equal_string_string : FnC Tryz.prog 15 26 [.tmp 4] c_slices_Equal_string_string := ⟨by kernel_rfl, Tryz.f15, _, Tryz.func15, rfl, rfl, rfl, by kernel_rfl⟩
def c_law17_awake : AC := (.seq (.region [⟨.assign (.const (Value.bool false)), some 0, none⟩])
 (.seq (.region [⟨.call (Go.Call.mk (.value (.func 45)) #[] #[]), some 11, none⟩,
  ⟨.alloc 29, some 1, none⟩,
  ⟨.store 29 (.tmp 1) (.tmp 11), none, none⟩])
 (.seq (.region [⟨.load 29 (.tmp 1), some 12, none⟩,
  ⟨.call (Go.Call.mk (.value (.func 22)) #[.tmp 12] #[29]), some 13, none⟩,
  ⟨.alloc 32, some 2, none⟩,
  ⟨.store 32 (.tmp 2) (.tmp 13), none, none⟩])
 (.seq (.region [⟨.load 29 (.tmp 1), some 15, none⟩,
  ⟨.load 32 (.tmp 2), some 16, none⟩,
  ⟨.call (Go.Call.mk (.value (.func 19)) #[.tmp 15, .tmp 16, .const (Value.string (ByteArray.mk #[97]))] #[29, 32, 9]), some 17, none⟩,
  ⟨.move (.tmp 17), some 14, none⟩,
  ⟨.extract (.tmp 14) 0, some 18, none⟩,
  ⟨.extract (.tmp 14) 1, some 19, none⟩,
  ⟨.extract (.tmp 14) 2, some 20, none⟩,
  ⟨.alloc 32, some 4, none⟩,
  ⟨.alloc 45, some 5, none⟩,
  ⟨.assign (.tmp 18), some 3, none⟩,
  ⟨.store 32 (.tmp 4) (.tmp 19), none, none⟩,
  ⟨.store 45 (.tmp 5) (.tmp 20), none, none⟩])
 (.seq (.region [⟨.load 29 (.tmp 1), some 22, none⟩,
  ⟨.load 32 (.tmp 2), some 23, none⟩,
  ⟨.call (Go.Call.mk (.value (.func 19)) #[.tmp 22, .tmp 23, .const (Value.string (ByteArray.mk #[122]))] #[29, 32, 9]), some 24, none⟩,
  ⟨.move (.tmp 24), some 21, none⟩,
  ⟨.extract (.tmp 21) 0, some 25, none⟩,
  ⟨.extract (.tmp 21) 1, some 26, none⟩,
  ⟨.extract (.tmp 21) 2, some 27, none⟩,
  ⟨.alloc 32, some 7, none⟩,
  ⟨.alloc 45, some 8, none⟩,
  ⟨.assign (.tmp 25), some 6, none⟩,
  ⟨.store 32 (.tmp 7) (.tmp 26), none, none⟩,
  ⟨.store 45 (.tmp 8) (.tmp 27), none, none⟩])
 (.seq (.region [⟨.load 29 (.tmp 1), some 29, none⟩,
  ⟨.call (Go.Call.mk (.value (.func 35)) #[.tmp 29] #[29]), some 30, none⟩,
  ⟨.move (.tmp 30), some 28, none⟩,
  ⟨.extract (.tmp 28) 0, some 31, none⟩,
  ⟨.extract (.tmp 28) 1, some 32, none⟩,
  ⟨.assign (.tmp 31), some 9, none⟩,
  ⟨.assign (.tmp 32), some 10, none⟩])
 (.seq (.region [⟨.fieldAddr 32 (.tmp 2) 0, some 33, none⟩,
  ⟨.load 3 (.tmp 33), some 34, none⟩,
  ⟨.binOp .eql 3 (.tmp 34) (.const (Value.int .i64 1)) 3, some 35, none⟩,
  ⟨.move (.tmp 35), some 36, none⟩,
  ⟨.fieldAddr 32 (.tmp 2) 1, some 37, (some (36, true))⟩,
  ⟨.load 30 (.tmp 37), some 38, (some (36, true))⟩,
  ⟨.call (Go.Call.mk (.builtin .len) #[.tmp 38] #[30]), some 39, (some (36, true))⟩,
  ⟨.binOp .eql 3 (.tmp 39) (.const (Value.int .i64 1)) 3, some 40, (some (36, true))⟩,
  ⟨.pick (.tmp 36) (.tmp 40) (.const (Value.bool false)), some 41, none⟩,
  ⟨.move (.tmp 41), some 42, none⟩,
  ⟨.move (.tmp 3), some 43, (some (42, true))⟩,
  ⟨.binOp .eql 3 (.tmp 43) (.const (Value.int .i64 2)) 3, some 44, (some (42, true))⟩,
  ⟨.pick (.tmp 42) (.tmp 44) (.const (Value.bool false)), some 45, none⟩,
  ⟨.move (.tmp 45), some 46, none⟩,
  ⟨.load 45 (.tmp 5), some 47, (some (46, true))⟩,
  ⟨.build 45 #[(0, .const (Value.int .i64 1)), (1, .const (Value.int .i64 2))], some 48, (some (46, true))⟩,
  ⟨.binOp .eql 45 (.tmp 47) (.tmp 48) 45, some 49, (some (46, true))⟩,
  ⟨.pick (.tmp 46) (.tmp 49) (.const (Value.bool false)), some 50, none⟩,
  ⟨.move (.tmp 50), some 51, none⟩,
  ⟨.move (.tmp 6), some 52, (some (51, true))⟩,
  ⟨.binOp .eql 3 (.tmp 52) (.const (Value.int .i64 0)) 3, some 53, (some (51, true))⟩,
  ⟨.pick (.tmp 51) (.tmp 53) (.const (Value.bool false)), some 54, none⟩,
  ⟨.move (.tmp 54), some 55, none⟩,
  ⟨.load 29 (.tmp 1), some 56, (some (55, true))⟩,
  ⟨.load 32 (.tmp 2), some 57, (some (55, true))⟩,
  ⟨.call (Go.Call.mk (.value (.func 27)) #[.tmp 56, .tmp 57] #[29, 32]), some 58, (some (55, true))⟩,
  ⟨.buildSlice 42 1 #[(0, .const (Value.string (ByteArray.mk #[97])))], some 59, (some (55, true))⟩,
  ⟨.call (Go.Call.mk (.value (.func 15)) #[.tmp 58, .tmp 59] #[42, 42]), some 60, (some (55, true))⟩,
  ⟨.pick (.tmp 55) (.tmp 60) (.const (Value.bool false)), some 61, none⟩,
  ⟨.move (.tmp 61), some 62, none⟩,
  ⟨.move (.tmp 9), some 63, (some (62, true))⟩,
  ⟨.call (Go.Call.mk (.builtin .len) #[.tmp 63] #[73]), some 64, (some (62, true))⟩,
  ⟨.binOp .eql 3 (.tmp 64) (.const (Value.int .i64 1)) 3, some 65, (some (62, true))⟩,
  ⟨.pick (.tmp 62) (.tmp 65) (.const (Value.bool false)), some 66, none⟩,
  ⟨.move (.tmp 66), some 67, none⟩,
  ⟨.move (.tmp 10), some 68, (some (67, true))⟩,
  ⟨.call (Go.Call.mk (.builtin .len) #[.tmp 68] #[74]), some 69, (some (67, true))⟩,
  ⟨.binOp .eql 3 (.tmp 69) (.const (Value.int .i64 1)) 3, some 70, (some (67, true))⟩,
  ⟨.pick (.tmp 67) (.tmp 70) (.const (Value.bool false)), some 71, none⟩,
  ⟨.assign (.tmp 71), some 0, none⟩])
 .ret)))))))
theorem fc_law17_awake : FnC Tryz.prog 18 72 [.tmp 0] c_law17_awake := ⟨by kernel_rfl, Tryz.f18, _, Tryz.func18, rfl, rfl, rfl, by kernel_rfl⟩
def c_view_Step : AC := (.seq (.region [⟨.box 29 (.tmp 0), some 3, none⟩,
  ⟨.box 32 (.tmp 1), some 4, none⟩,
  ⟨.assign (.const (Value.int .i64 0)), some 6, none⟩,
  ⟨.alloc 32, some 7, none⟩,
  ⟨.alloc 45, some 8, none⟩])
 (.seq (.region [⟨.load 29 (.tmp 3), some 14, none⟩,
  ⟨.build 92 #[(0, .tmp 14)], some 15, none⟩,
  ⟨.alloc 92, some 9, none⟩,
  ⟨.store 92 (.tmp 9) (.tmp 15), none, none⟩])
 (.seq (.seq (.region [⟨.load 92 (.tmp 9), some 16, none⟩,
  ⟨.load 32 (.tmp 4), some 17, none⟩,
  ⟨.move (.tmp 2), some 18, none⟩,
  ⟨.call (Go.Call.mk (.value (.func 52)) #[.tmp 16, .tmp 17, .tmp 18] #[92, 32, 9]), some 19, none⟩,
  ⟨.assign (.tmp 19), some 10, none⟩])
 (.seq (.region [⟨.move (.tmp 10), some 20, none⟩,
  ⟨.binOp .gtr 3 (.tmp 20) (.const (Value.int .i64 0)) 3, some 21, none⟩])
 (.cond (.tmp 21) (.seq (.region [⟨.load 92 (.tmp 9), some 22, none⟩,
  ⟨.move (.tmp 10), some 23, none⟩,
  ⟨.call (Go.Call.mk (.value (.func 53)) #[.tmp 22, .tmp 23] #[92, 3]), some 24, none⟩,
  ⟨.alloc 68, some 11, none⟩,
  ⟨.store 68 (.tmp 11) (.tmp 24), none, none⟩])
 (.seq (.seq (.region [⟨.fieldAddr 68 (.tmp 11) 0, some 25, none⟩,
  ⟨.load 3 (.tmp 25), some 26, none⟩])
 (.block 0 (.seq (.region [⟨.binOp .eql 3 (.tmp 26) (.const (Value.int .i64 1)) 3, some 28, none⟩,
  ⟨.assign (.tmp 28), some 27, none⟩])
 (.cond (.tmp 27) (.seq (.region [⟨.move (.tmp 10), some 29, none⟩,
  ⟨.load 92 (.tmp 9), some 30, none⟩,
  ⟨.load 32 (.tmp 4), some 31, none⟩,
  ⟨.load 68 (.tmp 11), some 32, none⟩,
  ⟨.move (.tmp 2), some 33, none⟩,
  ⟨.call (Go.Call.mk (.value (.func 54)) #[.tmp 30, .tmp 31, .tmp 32, .tmp 33] #[92, 32, 68, 9]), some 34, none⟩,
  ⟨.build 32 #[(0, .tmp 29), (1, .tmp 34)], some 35, none⟩,
  ⟨.move (.tmp 10), some 36, none⟩,
  ⟨.build 45 #[(1, .tmp 36)], some 37, none⟩,
  ⟨.assign (.const (Value.int .i64 1)), some 6, none⟩,
  ⟨.store 32 (.tmp 7) (.tmp 35), none, none⟩,
  ⟨.store 45 (.tmp 8) (.tmp 37), none, none⟩])
 .ret)
 (.seq (.seq (.region [⟨.binOp .eql 3 (.tmp 26) (.const (Value.int .i64 2)) 3, some 39, none⟩,
  ⟨.assign (.tmp 39), some 38, none⟩])
 (.cond (.tmp 38) .skip
 (.region [⟨.binOp .eql 3 (.tmp 26) (.const (Value.int .i64 3)) 3, some 40, none⟩,
  ⟨.assign (.tmp 40), some 38, none⟩])))
 (.cond (.tmp 38) (.seq (.region [⟨.fieldAddr 68 (.tmp 11) 0, some 41, none⟩,
  ⟨.load 3 (.tmp 41), some 42, none⟩,
  ⟨.build 32 #[], some 43, none⟩,
  ⟨.move (.tmp 10), some 44, none⟩,
  ⟨.build 45 #[(1, .tmp 44)], some 45, none⟩,
  ⟨.assign (.tmp 42), some 6, none⟩,
  ⟨.store 32 (.tmp 7) (.tmp 43), none, none⟩,
  ⟨.store 45 (.tmp 8) (.tmp 45), none, none⟩])
 .ret)
 .skip))))))
 (.seq (.region [⟨.build 32 #[], some 46, none⟩,
  ⟨.build 45 #[], some 47, none⟩,
  ⟨.assign (.const (Value.int .i64 0)), some 6, none⟩,
  ⟨.store 32 (.tmp 7) (.tmp 46), none, none⟩,
  ⟨.store 45 (.tmp 8) (.tmp 47), none, none⟩])
 .ret)))
 .skip)))
 (.seq (.region [⟨.load 29 (.tmp 3), some 49, none⟩,
  ⟨.fieldAddr 32 (.tmp 4) 1, some 50, none⟩,
  ⟨.load 30 (.tmp 50), some 51, none⟩,
  ⟨.move (.tmp 2), some 52, none⟩,
  ⟨.call (Go.Call.mk (.value (.func 31)) #[.tmp 49, .tmp 51, .tmp 52] #[29, 30, 9]), some 53, none⟩,
  ⟨.move (.tmp 53), some 48, none⟩,
  ⟨.extract (.tmp 48) 0, some 54, none⟩,
  ⟨.extract (.tmp 48) 1, some 55, none⟩,
  ⟨.assign (.tmp 54), some 12, none⟩,
  ⟨.assign (.tmp 55), some 13, none⟩])
 (.seq (.seq (.region [⟨.move (.tmp 12), some 56, none⟩])
 (.block 1 (.seq (.region [⟨.binOp .eql 3 (.tmp 56) (.const (Value.int .i64 0)) 3, some 58, none⟩,
  ⟨.assign (.tmp 58), some 57, none⟩])
 (.cond (.tmp 57) (.seq (.region [⟨.build 32 #[], some 59, none⟩,
  ⟨.build 45 #[], some 60, none⟩,
  ⟨.assign (.const (Value.int .i64 0)), some 6, none⟩,
  ⟨.store 32 (.tmp 7) (.tmp 59), none, none⟩,
  ⟨.store 45 (.tmp 8) (.tmp 60), none, none⟩])
 .ret)
 (.seq (.region [⟨.binOp .eql 3 (.tmp 56) (.const (Value.int .i64 1)) 3, some 62, none⟩,
  ⟨.assign (.tmp 62), some 61, none⟩])
 (.cond (.tmp 61) (.seq (.draw [⟨.move (.tmp 12), some 63, none⟩,
  ⟨.move (.tmp 13), some 64, none⟩,
  ⟨.build 32 #[(1, .tmp 64)], some 65, none⟩,
  ⟨.move (.tmp 13), some 66, none⟩,
  ⟨.indexAddr 30 (.tmp 66) (.const (Value.int .i64 0)), some 67, none⟩,
  ⟨.load 45 (.tmp 67), some 68, none⟩,
  ⟨.assign (.tmp 63), some 6, none⟩,
  ⟨.store 32 (.tmp 7) (.tmp 65), none, none⟩,
  ⟨.store 45 (.tmp 8) (.tmp 68), none, none⟩] [0, 0, 2, 0, 8, 24, 1, 71, 255] [])
 .ret)
 .skip))))))
 (.seq (.draw [⟨.move (.tmp 12), some 69, none⟩,
  ⟨.build 32 #[], some 70, none⟩,
  ⟨.move (.tmp 13), some 71, none⟩,
  ⟨.indexAddr 30 (.tmp 71) (.const (Value.int .i64 0)), some 72, none⟩,
  ⟨.load 45 (.tmp 72), some 73, none⟩,
  ⟨.assign (.tmp 69), some 6, none⟩,
  ⟨.store 32 (.tmp 7) (.tmp 70), none, none⟩,
  ⟨.store 45 (.tmp 8) (.tmp 73), none, none⟩] [0, 0, 0, 4, 12, 1, 35, 127] [])
 .ret))))))
theorem fc_view_Step : FnC Tryz.prog 19 74 [.tmp 6, .cell 7 32, .cell 8 45] c_view_Step := ⟨by kernel_rfl, Tryz.f19, _, Tryz.func19, rfl, rfl, rfl, by kernel_rfl⟩
def c_ref17_SameView : AC := (.seq (.region [⟨.box 32 (.tmp 0), some 2, none⟩,
  ⟨.box 32 (.tmp 1), some 3, none⟩,
  ⟨.assign (.const (Value.bool false)), some 4, none⟩])
 (.seq (.region [⟨.fieldAddr 32 (.tmp 2) 0, some 5, none⟩,
  ⟨.load 3 (.tmp 5), some 6, none⟩,
  ⟨.fieldAddr 32 (.tmp 3) 0, some 7, none⟩,
  ⟨.load 3 (.tmp 7), some 8, none⟩,
  ⟨.binOp .eql 3 (.tmp 6) (.tmp 8) 3, some 9, none⟩,
  ⟨.move (.tmp 9), some 10, none⟩,
  ⟨.fieldAddr 32 (.tmp 2) 1, some 11, (some (10, true))⟩,
  ⟨.load 30 (.tmp 11), some 12, (some (10, true))⟩,
  ⟨.fieldAddr 32 (.tmp 3) 1, some 13, (some (10, true))⟩,
  ⟨.load 30 (.tmp 13), some 14, (some (10, true))⟩,
  ⟨.call (Go.Call.mk (.value (.func 55)) #[.tmp 12, .tmp 14] #[30, 30]), some 15, (some (10, true))⟩,
  ⟨.pick (.tmp 10) (.tmp 15) (.const (Value.bool false)), some 16, none⟩,
  ⟨.assign (.tmp 16), some 4, none⟩])
 .ret))
theorem fc_ref17_SameView : FnC Tryz.prog 21 17 [.tmp 4] c_ref17_SameView := ⟨by kernel_rfl, Tryz.f21, _, Tryz.func21, rfl, rfl, rfl, by kernel_rfl⟩
def c_view_Root : AC := (.seq (.region [⟨.box 29 (.tmp 0), some 1, none⟩,
  ⟨.alloc 32, some 2, none⟩])
 (.seq (.region [⟨.load 29 (.tmp 1), some 5, none⟩,
  ⟨.build 92 #[(0, .tmp 5)], some 6, none⟩,
  ⟨.call (Go.Call.mk (.value (.func 53)) #[.tmp 6, .const (Value.int .i64 1)] #[92, 3]), some 7, none⟩,
  ⟨.alloc 68, some 3, none⟩,
  ⟨.store 68 (.tmp 3) (.tmp 7), none, none⟩])
 (.seq (.region [⟨.alloc 32, some 4, none⟩])
 (.seq (.seq (.region [⟨.fieldAddr 68 (.tmp 3) 0, some 8, none⟩,
  ⟨.load 3 (.tmp 8), some 9, none⟩,
  ⟨.binOp .eql 3 (.tmp 9) (.const (Value.int .i64 1)) 3, some 10, none⟩])
 (.cond (.tmp 10) (.region [⟨.fieldAddr 32 (.tmp 4) 0, some 11, none⟩,
  ⟨.store 3 (.tmp 11) (.const (Value.int .i64 1)), none, none⟩])
 .skip))
 (.seq (.seq (.region [⟨.load 68 (.tmp 3), some 12, none⟩,
  ⟨.call (Go.Call.mk (.value (.func 40)) #[.tmp 12] #[68]), some 13, none⟩,
  ⟨.unOp .not 4 (.tmp 13), some 14, none⟩])
 (.cond (.tmp 14) (.region [⟨.load 29 (.tmp 1), some 15, none⟩,
  ⟨.call (Go.Call.mk (.value (.func 56)) #[.tmp 15] #[29]), some 16, none⟩,
  ⟨.fieldAddr 32 (.tmp 4) 1, some 17, none⟩,
  ⟨.store 30 (.tmp 17) (.tmp 16), none, none⟩])
 .skip))
 (.seq (.region [⟨.load 32 (.tmp 4), some 18, none⟩,
  ⟨.store 32 (.tmp 2) (.tmp 18), none, none⟩])
 .ret))))))
theorem fc_view_Root : FnC Tryz.prog 22 19 [.cell 2 32] c_view_Root := ⟨by kernel_rfl, Tryz.f22, _, Tryz.func22, rfl, rfl, rfl, by kernel_rfl⟩
def c_ref17_Root : AC := (.seq (.region [⟨.box 29 (.tmp 0), some 1, none⟩,
  ⟨.alloc 32, some 2, none⟩])
 (.seq (.region [⟨.fieldAddr 29 (.tmp 1) 1, some 4, none⟩,
  ⟨.load 26 (.tmp 4), some 5, none⟩,
  ⟨.call (Go.Call.mk (.value (.func 48)) #[.tmp 5, .const (Value.int .i64 1)] #[26, 3]), some 6, none⟩,
  ⟨.alloc 68, some 3, none⟩,
  ⟨.store 68 (.tmp 3) (.tmp 6), none, none⟩])
 (.seq (.seq (.region [⟨.fieldAddr 68 (.tmp 3) 0, some 7, none⟩,
  ⟨.load 3 (.tmp 7), some 8, none⟩,
  ⟨.binOp .neq 3 (.tmp 8) (.const (Value.int .i64 1)) 3, some 9, none⟩])
 (.cond (.tmp 9) (.seq (.region [⟨.load 29 (.tmp 1), some 10, none⟩,
  ⟨.call (Go.Call.mk (.value (.func 57)) #[.tmp 10] #[29]), some 11, none⟩,
  ⟨.build 32 #[(1, .tmp 11)], some 12, none⟩,
  ⟨.store 32 (.tmp 2) (.tmp 12), none, none⟩])
 .ret)
 .skip))
 (.seq (.seq (.region [⟨.load 68 (.tmp 3), some 13, none⟩,
  ⟨.call (Go.Call.mk (.value (.func 41)) #[.tmp 13] #[68]), some 14, none⟩])
 (.cond (.tmp 14) (.seq (.region [⟨.build 32 #[(0, .const (Value.int .i64 1))], some 15, none⟩,
  ⟨.store 32 (.tmp 2) (.tmp 15), none, none⟩])
 .ret)
 .skip))
 (.seq (.region [⟨.load 29 (.tmp 1), some 16, none⟩,
  ⟨.call (Go.Call.mk (.value (.func 57)) #[.tmp 16] #[29]), some 17, none⟩,
  ⟨.build 32 #[(0, .const (Value.int .i64 1)), (1, .tmp 17)], some 18, none⟩,
  ⟨.store 32 (.tmp 2) (.tmp 18), none, none⟩])
 .ret)))))
theorem fc_ref17_Root : FnC Tryz.prog 23 19 [.cell 2 32] c_ref17_Root := ⟨by kernel_rfl, Tryz.f23, _, Tryz.func23, rfl, rfl, rfl, by kernel_rfl⟩
def c_ref17_Part : AC := (.seq (.region [⟨.box 29 (.tmp 0), some 4, none⟩,
  ⟨.box 32 (.tmp 1), some 5, none⟩,
  ⟨.assign (.const (Value.slice none 0 0)), some 8, none⟩])
 (.seq (.region [⟨.fieldAddr 29 (.tmp 4) 1, some 17, none⟩,
  ⟨.load 26 (.tmp 17), some 18, none⟩,
  ⟨.move (.tmp 2), some 19, none⟩,
  ⟨.call (Go.Call.mk (.value (.func 48)) #[.tmp 18, .tmp 19] #[26, 3]), some 20, none⟩,
  ⟨.alloc 68, some 9, none⟩,
  ⟨.store 68 (.tmp 9) (.tmp 20), none, none⟩])
 (.seq (.seq (.region [⟨.fieldAddr 68 (.tmp 9) 0, some 21, none⟩,
  ⟨.load 3 (.tmp 21), some 22, none⟩,
  ⟨.binOp .neq 3 (.tmp 22) (.const (Value.int .i64 1)) 3, some 23, none⟩,
  ⟨.move (.tmp 23), some 24, none⟩,
  ⟨.load 68 (.tmp 9), some 25, (some (24, false))⟩,
  ⟨.call (Go.Call.mk (.value (.func 41)) #[.tmp 25] #[68]), some 26, (some (24, false))⟩,
  ⟨.pick (.tmp 24) (.const (Value.bool true)) (.tmp 26), some 27, none⟩])
 (.cond (.tmp 27) (.seq (.region [⟨.assign (.const (Value.slice none 0 0)), some 8, none⟩])
 .ret)
 .skip))
 (.seq (.seq (.region [⟨.fieldAddr 68 (.tmp 9) 6, some 28, none⟩,
  ⟨.load 66 (.tmp 28), some 29, none⟩,
  ⟨.call (Go.Call.mk (.value (.func 58)) #[.tmp 29, .const (Value.int .i64 2)] #[66, 3]), some 30, none⟩])
 (.cond (.tmp 30) (.seq (.region [⟨.fieldAddr 68 (.tmp 9) 6, some 32, none⟩,
  ⟨.fieldAddr 66 (.tmp 32) 2, some 33, none⟩,
  ⟨.load 9 (.tmp 33), some 34, none⟩,
  ⟨.call (Go.Call.mk (.value (.func 59)) #[.tmp 34] #[9]), some 35, none⟩,
  ⟨.move (.tmp 35), some 31, none⟩,
  ⟨.extract (.tmp 31) 0, some 36, none⟩,
  ⟨.extract (.tmp 31) 1, some 37, none⟩,
  ⟨.extract (.tmp 31) 2, some 38, none⟩,
  ⟨.assign (.tmp 36), some 10, none⟩,
  ⟨.assign (.tmp 37), some 11, none⟩,
  ⟨.assign (.tmp 38), some 12, none⟩])
 (.seq (.seq (.region [⟨.move (.tmp 12), some 39, none⟩,
  ⟨.unOp .not 4 (.tmp 39), some 40, none⟩])
 (.cond (.tmp 40) (.seq (.region [⟨.assign (.const (Value.slice none 0 0)), some 8, none⟩])
 .ret)
 .skip))
 (.seq (.seq (.region [⟨.move (.tmp 11), some 41, none⟩])
 (.cond (.tmp 41) (.seq (.draw [⟨.load 29 (.tmp 4), some 43, none⟩,
  ⟨.load 29 (.tmp 4), some 44, none⟩,
  ⟨.call (Go.Call.mk (.value (.func 57)) #[.tmp 44] #[29]), some 45, none⟩,
  ⟨.move (.tmp 10), some 46, none⟩,
  ⟨.call (Go.Call.mk (.value (.func 60)) #[.tmp 43, .tmp 45, .tmp 46] #[29, 30, 42]), some 47, none⟩,
  ⟨.move (.tmp 47), some 42, none⟩,
  ⟨.extract (.tmp 42) 0, some 48, none⟩,
  ⟨.extract (.tmp 42) 1, some 49, none⟩,
  ⟨.assign (.tmp 48), some 13, none⟩,
  ⟨.assign (.tmp 49), some 14, none⟩] [0, 0, 2, 0, 15, 31, 63, 63, 127, 511] [true, true, true, false, true, false, false, false, false, false])
 (.seq (.region [⟨.move (.tmp 13), some 50, none⟩,
  ⟨.assign (.tmp 50), some 8, none⟩])
 .ret))
 .skip))
 (.region [⟨.move (.tmp 10), some 51, none⟩,
  ⟨.indexAddr 42 (.tmp 51) (.const (Value.int .i64 0)), some 52, none⟩,
  ⟨.load 9 (.tmp 52), some 53, none⟩,
  ⟨.assign (.tmp 53), some 3, none⟩]))))
 .skip))
 (.seq (.region [⟨.load 29 (.tmp 4), some 55, none⟩,
  ⟨.fieldAddr 32 (.tmp 5) 1, some 56, none⟩,
  ⟨.load 30 (.tmp 56), some 57, none⟩,
  ⟨.move (.tmp 3), some 58, none⟩,
  ⟨.call (Go.Call.mk (.value (.func 49)) #[.tmp 55, .tmp 57, .tmp 58] #[29, 30, 9]), some 59, none⟩,
  ⟨.move (.tmp 59), some 54, none⟩,
  ⟨.extract (.tmp 54) 0, some 60, none⟩,
  ⟨.extract (.tmp 54) 1, some 61, none⟩,
  ⟨.assign (.tmp 60), some 15, none⟩,
  ⟨.assign (.tmp 61), some 16, none⟩])
 (.seq (.seq (.region [⟨.move (.tmp 15), some 62, none⟩,
  ⟨.binOp .neq 3 (.tmp 62) (.const (Value.int .i64 1)) 3, some 63, none⟩])
 (.cond (.tmp 63) (.seq (.region [⟨.assign (.const (Value.slice none 0 0)), some 8, none⟩])
 .ret)
 .skip))
 (.seq (.region [⟨.move (.tmp 16), some 64, none⟩,
  ⟨.assign (.tmp 64), some 8, none⟩])
 .ret)))))))
theorem fc_ref17_Part : FnC Tryz.prog 26 65 [.tmp 8] c_ref17_Part := ⟨by kernel_rfl, Tryz.f26, _, Tryz.func26, rfl, rfl, rfl, by kernel_rfl⟩
def c_view_Names : AC := (.seq (.region [⟨.box 29 (.tmp 0), some 2, none⟩,
  ⟨.box 32 (.tmp 1), some 3, none⟩,
  ⟨.assign (.const (Value.slice none 0 0)), some 4, none⟩])
 (.seq (.region [⟨.load 29 (.tmp 2), some 9, none⟩,
  ⟨.fieldAddr 32 (.tmp 3) 1, some 10, none⟩,
  ⟨.load 30 (.tmp 10), some 11, none⟩,
  ⟨.call (Go.Call.mk (.value (.func 61)) #[.tmp 9, .tmp 11] #[29, 30]), some 12, none⟩,
  ⟨.assign (.tmp 12), some 5, none⟩])
 (.seq (.seq (.region [⟨.load 29 (.tmp 2), some 13, none⟩,
  ⟨.build 92 #[(0, .tmp 13)], some 14, none⟩,
  ⟨.fieldAddr 32 (.tmp 3) 0, some 15, none⟩,
  ⟨.load 3 (.tmp 15), some 16, none⟩,
  ⟨.call (Go.Call.mk (.value (.func 53)) #[.tmp 14, .tmp 16] #[92, 3]), some 17, none⟩,
  ⟨.alloc 68, some 6, none⟩,
  ⟨.store 68 (.tmp 6) (.tmp 17), none, none⟩])
 (.seq (.region [⟨.fieldAddr 68 (.tmp 6) 0, some 18, none⟩,
  ⟨.load 3 (.tmp 18), some 19, none⟩,
  ⟨.binOp .eql 3 (.tmp 19) (.const (Value.int .i64 1)) 3, some 20, none⟩])
 (.cond (.tmp 20) (.seq (.region [⟨.fieldAddr 68 (.tmp 6) 5, some 21, none⟩,
  ⟨.load 62 (.tmp 21), some 22, none⟩,
  ⟨.call (Go.Call.mk (.builtin .len) #[.tmp 22] #[62]), some 23, none⟩,
  ⟨.move (.const (Value.int .i64 0)), some 24, none⟩])
 (.block 0 (.loop (.seq (.region [⟨.binOp .lss 3 (.tmp 24) (.tmp 23) 3, some 25, none⟩])
 (.seq (.cond (.tmp 25) .skip
 (.exit 0))
 (.seq (.block 1 (.seq (.region [⟨.indexAddr 62 (.tmp 22) (.tmp 24), some 26, none⟩,
  ⟨.load 55 (.tmp 26), some 27, none⟩,
  ⟨.alloc 55, some 8, none⟩,
  ⟨.store 55 (.tmp 8) (.tmp 27), none, none⟩])
 (.region [⟨.move (.tmp 5), some 28, none⟩,
  ⟨.fieldAddr 55 (.tmp 8) 2, some 29, none⟩,
  ⟨.load 9 (.tmp 29), some 30, none⟩,
  ⟨.buildSlice 42 1 #[(0, .tmp 30)], some 31, none⟩,
  ⟨.call (Go.Call.mk (.builtin .append) #[.tmp 28, .tmp 31] #[42, 42]), some 32, none⟩,
  ⟨.assign (.tmp 32), some 5, none⟩])))
 (.region [⟨.binOp .add 3 (.tmp 24) (.const (Value.int .i64 1)) 3, some 33, none⟩,
  ⟨.move (.tmp 33), some 24, none⟩])))))))
 .skip)))
 (.seq (.region [⟨.move (.tmp 5), some 34, none⟩,
  ⟨.call (Go.Call.mk (.value (.func 50)) #[.tmp 34] #[42]), some 35, none⟩,
  ⟨.makeFunc (.func 63) #[] #[.tmp 2, .tmp 3], some 36, none⟩,
  ⟨.call (Go.Call.mk (.value (.func 62)) #[.tmp 35, .tmp 36] #[42, 104]), some 37, none⟩,
  ⟨.assign (.tmp 37), some 4, none⟩])
 .ret))))
theorem fc_view_Names : FnC Tryz.prog 27 38 [.tmp 4] c_view_Names := ⟨by kernel_rfl, Tryz.f27, _, Tryz.func27, rfl, rfl, rfl, by kernel_rfl⟩
def c_lower_Find : AC := (.seq (.region [⟨.box 29 (.tmp 0), some 3, none⟩,
  ⟨.assign (.const (Value.int .i64 0)), some 6, none⟩,
  ⟨.assign (.const (Value.slice none 0 0)), some 7, none⟩])
 (.scope (.seq (.region [⟨.fieldAddr 29 (.tmp 3) 2, some 14, none⟩,
  ⟨.load 27 (.tmp 14), some 15, none⟩,
  ⟨.assign (.tmp 15), some 8, none⟩])
 (.seq (.region [⟨.assign (.const (Value.slice none 0 0)), some 9, none⟩])
 (.seq (.seq (.region [⟨.move (.tmp 1), some 16, none⟩,
  ⟨.call (Go.Call.mk (.builtin .len) #[.tmp 16] #[30]), some 17, none⟩,
  ⟨.move (.const (Value.int .i64 0)), some 18, none⟩])
 (.block 0 (.loop (.seq (.region [⟨.binOp .lss 3 (.tmp 18) (.tmp 17) 3, some 19, none⟩])
 (.seq (.cond (.tmp 19) .skip
 (.exit 0))
 (.seq (.block 1 (.seq (.region [⟨.indexAddr 30 (.tmp 16) (.tmp 18), some 20, none⟩,
  ⟨.load 45 (.tmp 20), some 21, none⟩,
  ⟨.alloc 45, some 11, none⟩,
  ⟨.store 45 (.tmp 11) (.tmp 21), none, none⟩])
 (.seq (.region [⟨.move (.tmp 8), some 23, none⟩,
  ⟨.load 45 (.tmp 11), some 24, none⟩,
  ⟨.move (.tmp 2), some 25, none⟩,
  ⟨.call (Go.Call.mk (.value (.func 66)) #[.tmp 23, .tmp 24, .tmp 25] #[106, 45, 9]), some 26, none⟩,
  ⟨.move (.tmp 26), some 22, none⟩,
  ⟨.extract (.tmp 22) 0, some 27, none⟩,
  ⟨.extract (.tmp 22) 1, some 28, none⟩,
  ⟨.alloc 45, some 12, none⟩,
  ⟨.alloc 68, some 13, none⟩,
  ⟨.store 45 (.tmp 12) (.tmp 27), none, none⟩,
  ⟨.store 68 (.tmp 13) (.tmp 28), none, none⟩])
 (.seq (.seq (.region [⟨.fieldAddr 68 (.tmp 13) 0, some 29, none⟩,
  ⟨.load 3 (.tmp 29), some 30, none⟩])
 (.block 2 (.seq (.region [⟨.binOp .eql 3 (.tmp 30) (.const (Value.int .i64 0)) 3, some 32, none⟩,
  ⟨.assign (.tmp 32), some 31, none⟩])
 (.cond (.tmp 31) (.exit 1)
 (.seq (.region [⟨.binOp .eql 3 (.tmp 30) (.const (Value.int .i64 1)) 3, some 34, none⟩,
  ⟨.assign (.tmp 34), some 33, none⟩])
 (.cond (.tmp 33) (.seq (.region [⟨.move (.tmp 9), some 35, none⟩,
  ⟨.load 45 (.tmp 12), some 36, none⟩,
  ⟨.buildSlice 30 1 #[(0, .tmp 36)], some 37, none⟩,
  ⟨.call (Go.Call.mk (.builtin .append) #[.tmp 35, .tmp 37] #[30, 30]), some 38, none⟩,
  ⟨.assign (.tmp 38), some 9, none⟩])
 (.seq (.region [⟨.load 68 (.tmp 13), some 39, none⟩,
  ⟨.call (Go.Call.mk (.value (.func 67)) #[.tmp 39] #[68]), some 40, none⟩,
  ⟨.unOp .not 4 (.tmp 40), some 41, none⟩])
 (.cond (.tmp 41) (.exit 1)
 .skip)))
 (.seq (.seq (.region [⟨.binOp .eql 3 (.tmp 30) (.const (Value.int .i64 2)) 3, some 43, none⟩,
  ⟨.assign (.tmp 43), some 42, none⟩])
 (.cond (.tmp 42) .skip
 (.region [⟨.binOp .eql 3 (.tmp 30) (.const (Value.int .i64 3)) 3, some 44, none⟩,
  ⟨.assign (.tmp 44), some 42, none⟩])))
 (.cond (.tmp 42) (.seq (.region [⟨.move (.tmp 9), some 45, none⟩,
  ⟨.call (Go.Call.mk (.builtin .len) #[.tmp 45] #[30]), some 46, none⟩,
  ⟨.binOp .eql 3 (.tmp 46) (.const (Value.int .i64 0)) 3, some 47, none⟩])
 (.cond (.tmp 47) (.seq (.draw [⟨.fieldAddr 68 (.tmp 13) 0, some 48, none⟩,
  ⟨.load 3 (.tmp 48), some 49, none⟩,
  ⟨.load 45 (.tmp 12), some 50, none⟩,
  ⟨.buildSlice 30 1 #[(0, .tmp 50)], some 51, none⟩,
  ⟨.assign (.tmp 49), some 6, none⟩,
  ⟨.assign (.tmp 51), some 7, none⟩] [0, 1, 0, 4, 3, 31] [false, true, true, false, false, false])
 .ret)
 .skip))
 .skip))))))))
 (.goto 0)))))
 (.region [⟨.binOp .add 3 (.tmp 18) (.const (Value.int .i64 1)) 3, some 52, none⟩,
  ⟨.move (.tmp 52), some 18, none⟩])))))))
 (.seq (.label 0)
 (.seq (.seq (.region [⟨.move (.tmp 9), some 53, none⟩,
  ⟨.call (Go.Call.mk (.builtin .len) #[.tmp 53] #[30]), some 54, none⟩,
  ⟨.binOp .eql 3 (.tmp 54) (.const (Value.int .i64 0)) 3, some 55, none⟩])
 (.cond (.tmp 55) (.seq (.region [⟨.assign (.const (Value.int .i64 0)), some 6, none⟩,
  ⟨.assign (.const (Value.slice none 0 0)), some 7, none⟩])
 .ret)
 .skip))
 (.seq (.region [⟨.move (.tmp 9), some 56, none⟩,
  ⟨.assign (.const (Value.int .i64 1)), some 6, none⟩,
  ⟨.assign (.tmp 56), some 7, none⟩])
 .ret))))))))
theorem fc_lower_Find : FnC Tryz.prog 31 57 [.tmp 6, .tmp 7] c_lower_Find := ⟨by kernel_rfl, Tryz.f31, _, Tryz.func31, rfl, rfl, rfl, by kernel_rfl⟩
def c_slices_ContainsFunc_api_Entry_api_Entry : AC := (.seq (.region [⟨.assign (.const (Value.bool false)), some 4, none⟩])
 (.seq (.region [⟨.move (.tmp 0), some 5, none⟩,
  ⟨.move (.tmp 1), some 6, none⟩,
  ⟨.call (Go.Call.mk (.value (.func 68)) #[.tmp 5, .tmp 6] #[62, 71]), some 7, none⟩,
  ⟨.binOp .geq 3 (.tmp 7) (.const (Value.int .i64 0)) 3, some 8, none⟩,
  ⟨.assign (.tmp 8), some 4, none⟩])
 .ret))
theorem fc_slices_ContainsFunc_api_Entry_api_Entry : FnC Tryz.prog 33 9 [.tmp 4] c_slices_ContainsFunc_api_Entry_api_Entry := ⟨by kernel_rfl, Tryz.f33, _, Tryz.func33, rfl, rfl, rfl, by kernel_rfl⟩
def c_view_Tree : AC := (.seq (.region [⟨.box 29 (.tmp 0), some 1, none⟩,
  ⟨.assign (.const (Value.slice none 0 0)), some 2, none⟩,
  ⟨.assign (.const (Value.slice none 0 0)), some 3, none⟩])
 (.seq (.region [⟨.load 29 (.tmp 1), some 10, none⟩,
  ⟨.build 92 #[(0, .tmp 10)], some 11, none⟩,
  ⟨.alloc 92, some 4, none⟩,
  ⟨.store 92 (.tmp 4) (.tmp 11), none, none⟩])
 (.seq (.region [⟨.fieldAddr 29 (.tmp 1) 1, some 12, none⟩,
  ⟨.load 26 (.tmp 12), some 13, none⟩,
  ⟨.buildSlice 111 1 #[(0, .const (Value.int .i64 1))], some 14, none⟩,
  ⟨.call (Go.Call.mk (.value (.func 39)) #[.tmp 13, .tmp 14] #[26, 111]), some 15, none⟩,
  ⟨.assign (.tmp 15), some 5, none⟩])
 (.seq (.region [⟨.assign (.const (Value.slice none 0 0)), some 6, none⟩])
 (.seq (.seq (.region [⟨.move (.tmp 5), some 16, none⟩,
  ⟨.call (Go.Call.mk (.builtin .len) #[.tmp 16] #[73]), some 17, none⟩,
  ⟨.move (.const (Value.int .i64 0)), some 18, none⟩])
 (.block 0 (.loop (.seq (.region [⟨.binOp .lss 3 (.tmp 18) (.tmp 17) 3, some 19, none⟩])
 (.seq (.cond (.tmp 19) .skip
 (.exit 0))
 (.seq (.block 1 (.seq (.region [⟨.indexAddr 73 (.tmp 16) (.tmp 18), some 20, none⟩,
  ⟨.load 79 (.tmp 20), some 21, none⟩,
  ⟨.alloc 79, some 8, none⟩,
  ⟨.store 79 (.tmp 8) (.tmp 21), none, none⟩])
 (.seq (.region [⟨.load 29 (.tmp 1), some 22, none⟩,
  ⟨.call (Go.Call.mk (.value (.func 22)) #[.tmp 22] #[29]), some 23, none⟩,
  ⟨.alloc 32, some 9, none⟩,
  ⟨.store 32 (.tmp 9) (.tmp 23), none, none⟩])
 (.seq (.seq (.region [⟨.fieldAddr 79 (.tmp 8) 1, some 24, none⟩,
  ⟨.load 3 (.tmp 24), some 25, none⟩,
  ⟨.binOp .geq 3 (.tmp 25) (.const (Value.int .i64 0)) 3, some 26, none⟩])
 (.cond (.tmp 26) (.draw [⟨.fieldAddr 79 (.tmp 8) 0, some 27, none⟩,
  ⟨.load 3 (.tmp 27), some 28, none⟩,
  ⟨.load 92 (.tmp 4), some 29, none⟩,
  ⟨.move (.tmp 6), some 30, none⟩,
  ⟨.fieldAddr 79 (.tmp 8) 1, some 31, none⟩,
  ⟨.load 3 (.tmp 31), some 32, none⟩,
  ⟨.indexAddr 74 (.tmp 30) (.tmp 32), some 33, none⟩,
  ⟨.load 32 (.tmp 33), some 34, none⟩,
  ⟨.load 92 (.tmp 4), some 35, none⟩,
  ⟨.fieldAddr 79 (.tmp 8) 0, some 36, none⟩,
  ⟨.load 3 (.tmp 36), some 37, none⟩,
  ⟨.call (Go.Call.mk (.value (.func 53)) #[.tmp 35, .tmp 37] #[92, 3]), some 38, none⟩,
  ⟨.fieldAddr 79 (.tmp 8) 2, some 39, none⟩,
  ⟨.load 9 (.tmp 39), some 40, none⟩,
  ⟨.call (Go.Call.mk (.value (.func 54)) #[.tmp 29, .tmp 34, .tmp 38, .tmp 40] #[92, 32, 68, 9]), some 41, none⟩,
  ⟨.build 32 #[(0, .tmp 28), (1, .tmp 41)], some 42, none⟩,
  ⟨.store 32 (.tmp 9) (.tmp 42), none, none⟩] [0, 1, 0, 0, 0, 16, 56, 120, 0, 0, 512, 1792, 0, 4096, 16380, 32767, 65535] [false, true, true, false, false, true, false, true, true, false, true, true, false, true, true, false, true])
 .skip))
 (.region [⟨.move (.tmp 6), some 43, none⟩,
  ⟨.load 32 (.tmp 9), some 44, none⟩,
  ⟨.buildSlice 74 1 #[(0, .tmp 44)], some 45, none⟩,
  ⟨.call (Go.Call.mk (.builtin .append) #[.tmp 43, .tmp 45] #[74, 74]), some 46, none⟩,
  ⟨.assign (.tmp 46), some 6, none⟩])))))
 (.region [⟨.binOp .add 3 (.tmp 18) (.const (Value.int .i64 1)) 3, some 47, none⟩,
  ⟨.move (.tmp 47), some 18, none⟩])))))))
 (.seq (.region [⟨.move (.tmp 5), some 48, none⟩,
  ⟨.move (.tmp 6), some 49, none⟩,
  ⟨.assign (.tmp 48), some 2, none⟩,
  ⟨.assign (.tmp 49), some 3, none⟩])
 .ret))))))
theorem fc_view_Tree : FnC Tryz.prog 35 50 [.tmp 2, .tmp 3] c_view_Tree := ⟨by kernel_rfl, Tryz.f35, _, Tryz.func35, rfl, rfl, rfl, by kernel_rfl⟩
def c_ref17_Tree : AC := (.seq (.region [⟨.box 29 (.tmp 0), some 1, none⟩,
  ⟨.assign (.const (Value.slice none 0 0)), some 2, none⟩,
  ⟨.assign (.const (Value.slice none 0 0)), some 3, none⟩])
 (.seq (.region [⟨.fieldAddr 29 (.tmp 1) 1, some 7, none⟩,
  ⟨.load 26 (.tmp 7), some 8, none⟩,
  ⟨.buildSlice 111 1 #[(0, .const (Value.int .i64 1))], some 9, none⟩,
  ⟨.call (Go.Call.mk (.value (.func 69)) #[.tmp 8, .tmp 9] #[26, 111]), some 10, none⟩,
  ⟨.assign (.tmp 10), some 4, none⟩])
 (.seq (.region [⟨.buildSlice 74 0 #[], some 11, none⟩,
  ⟨.assign (.tmp 11), some 5, none⟩])
 (.seq (.seq (.region [⟨.assign (.const (Value.int .i64 0)), some 6, none⟩])
 (.block 0 (.loop (.seq (.seq (.region [⟨.move (.tmp 6), some 12, none⟩,
  ⟨.move (.tmp 4), some 13, none⟩,
  ⟨.call (Go.Call.mk (.builtin .len) #[.tmp 13] #[73]), some 14, none⟩,
  ⟨.binOp .lss 3 (.tmp 12) (.tmp 14) 3, some 15, none⟩])
 (.cond (.tmp 15) .skip
 (.exit 0)))
 (.seq (.block 1 (.seq (.region [⟨.move (.tmp 4), some 18, none⟩,
  ⟨.move (.tmp 6), some 19, none⟩,
  ⟨.indexAddr 73 (.tmp 18) (.tmp 19), some 20, none⟩,
  ⟨.fieldAddr 79 (.tmp 20) 1, some 21, none⟩,
  ⟨.load 3 (.tmp 21), some 22, none⟩,
  ⟨.binOp .lss 3 (.tmp 22) (.const (Value.int .i64 0)) 3, some 23, none⟩])
 (.cond (.tmp 23) (.region [⟨.move (.tmp 5), some 24, none⟩,
  ⟨.load 29 (.tmp 1), some 25, none⟩,
  ⟨.call (Go.Call.mk (.value (.func 23)) #[.tmp 25] #[29]), some 26, none⟩,
  ⟨.buildSlice 74 1 #[(0, .tmp 26)], some 27, none⟩,
  ⟨.call (Go.Call.mk (.builtin .append) #[.tmp 24, .tmp 27] #[74, 74]), some 28, none⟩,
  ⟨.assign (.tmp 28), some 5, none⟩])
 (.draw [⟨.move (.tmp 5), some 29, none⟩,
  ⟨.move (.tmp 4), some 30, none⟩,
  ⟨.move (.tmp 6), some 31, none⟩,
  ⟨.indexAddr 73 (.tmp 30) (.tmp 31), some 32, none⟩,
  ⟨.fieldAddr 79 (.tmp 32) 0, some 33, none⟩,
  ⟨.load 3 (.tmp 33), some 34, none⟩,
  ⟨.load 29 (.tmp 1), some 35, none⟩,
  ⟨.move (.tmp 5), some 36, none⟩,
  ⟨.move (.tmp 4), some 37, none⟩,
  ⟨.move (.tmp 6), some 38, none⟩,
  ⟨.indexAddr 73 (.tmp 37) (.tmp 38), some 39, none⟩,
  ⟨.fieldAddr 79 (.tmp 39) 1, some 40, none⟩,
  ⟨.load 3 (.tmp 40), some 41, none⟩,
  ⟨.indexAddr 74 (.tmp 36) (.tmp 41), some 42, none⟩,
  ⟨.load 32 (.tmp 42), some 43, none⟩,
  ⟨.move (.tmp 4), some 44, none⟩,
  ⟨.move (.tmp 6), some 45, none⟩,
  ⟨.indexAddr 73 (.tmp 44) (.tmp 45), some 46, none⟩,
  ⟨.fieldAddr 79 (.tmp 46) 0, some 47, none⟩,
  ⟨.load 3 (.tmp 47), some 48, none⟩,
  ⟨.move (.tmp 4), some 49, none⟩,
  ⟨.move (.tmp 6), some 50, none⟩,
  ⟨.indexAddr 73 (.tmp 49) (.tmp 50), some 51, none⟩,
  ⟨.fieldAddr 79 (.tmp 51) 2, some 52, none⟩,
  ⟨.load 9 (.tmp 52), some 53, none⟩,
  ⟨.call (Go.Call.mk (.value (.func 26)) #[.tmp 35, .tmp 43, .tmp 48, .tmp 53] #[29, 32, 3, 9]), some 54, none⟩,
  ⟨.build 32 #[(0, .tmp 34), (1, .tmp 54)], some 55, none⟩,
  ⟨.buildSlice 74 1 #[(0, .tmp 55)], some 56, none⟩,
  ⟨.call (Go.Call.mk (.builtin .append) #[.tmp 29, .tmp 56] #[74, 74]), some 57, none⟩,
  ⟨.assign (.tmp 57), some 5, none⟩] [0, 0, 0, 6, 14, 30, 0, 0, 0, 0, 768, 1792, 3840, 8064, 16256, 0, 0, 98304, 229376, 491520, 0, 0, 3145728, 7340032, 15728640, 33554368, 67108862, 134217726, 268435455, 536870911] [false, false, false, false, false, true, true, false, false, false, false, false, true, false, true, false, false, false, false, true, false, false, false, false, true, true, false, false, true, false]))))
 (.region [⟨.move (.tmp 6), some 16, none⟩,
  ⟨.binOp .add 3 (.tmp 16) (.const (Value.int .i64 1)) 3, some 17, none⟩,
  ⟨.assign (.tmp 17), some 6, none⟩]))))))
 (.seq (.region [⟨.move (.tmp 4), some 58, none⟩,
  ⟨.move (.tmp 5), some 59, none⟩,
  ⟨.assign (.tmp 58), some 2, none⟩,
  ⟨.assign (.tmp 59), some 3, none⟩])
 .ret)))))
theorem fc_ref17_Tree : FnC Tryz.prog 36 60 [.tmp 2, .tmp 3] c_ref17_Tree := ⟨by kernel_rfl, Tryz.f36, _, Tryz.func36, rfl, rfl, rfl, by kernel_rfl⟩
def c_slices_Equal_api_Way_api_Way : AC := (.seq (.region [⟨.assign (.const (Value.bool false)), some 4, none⟩])
 (.seq (.seq (.region [⟨.move (.tmp 0), some 6, none⟩,
  ⟨.call (Go.Call.mk (.builtin .len) #[.tmp 6] #[73]), some 7, none⟩,
  ⟨.move (.tmp 1), some 8, none⟩,
  ⟨.call (Go.Call.mk (.builtin .len) #[.tmp 8] #[73]), some 9, none⟩,
  ⟨.binOp .neq 3 (.tmp 7) (.tmp 9) 3, some 10, none⟩])
 (.cond (.tmp 10) (.seq (.region [⟨.assign (.const (Value.bool false)), some 4, none⟩])
 .ret)
 .skip))
 (.seq (.seq (.region [⟨.move (.tmp 0), some 11, none⟩,
  ⟨.call (Go.Call.mk (.builtin .len) #[.tmp 11] #[73]), some 12, none⟩,
  ⟨.move (.const (Value.int .i64 0)), some 13, none⟩])
 (.block 0 (.loop (.seq (.region [⟨.binOp .lss 3 (.tmp 13) (.tmp 12) 3, some 14, none⟩])
 (.seq (.cond (.tmp 14) .skip
 (.exit 0))
 (.seq (.block 1 (.seq (.region [⟨.move (.tmp 13), some 15, none⟩,
  ⟨.assign (.tmp 15), some 5, none⟩])
 (.seq (.draw [⟨.move (.tmp 0), some 16, none⟩,
  ⟨.move (.tmp 5), some 17, none⟩,
  ⟨.indexAddr 73 (.tmp 16) (.tmp 17), some 18, none⟩,
  ⟨.load 79 (.tmp 18), some 19, none⟩,
  ⟨.move (.tmp 1), some 20, none⟩,
  ⟨.move (.tmp 5), some 21, none⟩,
  ⟨.indexAddr 73 (.tmp 20) (.tmp 21), some 22, none⟩,
  ⟨.load 79 (.tmp 22), some 23, none⟩,
  ⟨.binOp .neq 79 (.tmp 19) (.tmp 23) 79, some 24, none⟩] [0, 0, 3, 7, 0, 0, 48, 112, 255] [false, false, false, true, false, false, false, true, false])
 (.cond (.tmp 24) (.seq (.region [⟨.assign (.const (Value.bool false)), some 4, none⟩])
 .ret)
 .skip))))
 (.region [⟨.binOp .add 3 (.tmp 13) (.const (Value.int .i64 1)) 3, some 25, none⟩,
  ⟨.move (.tmp 25), some 13, none⟩])))))))
 (.seq (.region [⟨.assign (.const (Value.bool true)), some 4, none⟩])
 .ret))))
theorem fc_slices_Equal_api_Way_api_Way : FnC Tryz.prog 37 26 [.tmp 4] c_slices_Equal_api_Way_api_Way := ⟨by kernel_rfl, Tryz.f37, _, Tryz.func37, rfl, rfl, rfl, by kernel_rfl⟩
def c_slices_EqualFunc_api_View_api_View_api_View_api_View : AC := (.seq (.region [⟨.assign (.const (Value.bool false)), some 6, none⟩])
 (.seq (.seq (.region [⟨.move (.tmp 0), some 10, none⟩,
  ⟨.call (Go.Call.mk (.builtin .len) #[.tmp 10] #[74]), some 11, none⟩,
  ⟨.move (.tmp 1), some 12, none⟩,
  ⟨.call (Go.Call.mk (.builtin .len) #[.tmp 12] #[74]), some 13, none⟩,
  ⟨.binOp .neq 3 (.tmp 11) (.tmp 13) 3, some 14, none⟩])
 (.cond (.tmp 14) (.seq (.region [⟨.assign (.const (Value.bool false)), some 6, none⟩])
 .ret)
 .skip))
 (.seq (.seq (.region [⟨.move (.tmp 0), some 15, none⟩,
  ⟨.call (Go.Call.mk (.builtin .len) #[.tmp 15] #[74]), some 16, none⟩,
  ⟨.move (.const (Value.int .i64 0)), some 17, none⟩])
 (.block 0 (.loop (.seq (.region [⟨.binOp .lss 3 (.tmp 17) (.tmp 16) 3, some 18, none⟩])
 (.seq (.cond (.tmp 18) .skip
 (.exit 0))
 (.seq (.block 1 (.seq (.region [⟨.move (.tmp 17), some 19, none⟩,
  ⟨.indexAddr 74 (.tmp 15) (.tmp 17), some 20, none⟩,
  ⟨.load 32 (.tmp 20), some 21, none⟩,
  ⟨.alloc 32, some 8, none⟩,
  ⟨.assign (.tmp 19), some 7, none⟩,
  ⟨.store 32 (.tmp 8) (.tmp 21), none, none⟩])
 (.seq (.region [⟨.move (.tmp 1), some 22, none⟩,
  ⟨.move (.tmp 7), some 23, none⟩,
  ⟨.indexAddr 74 (.tmp 22) (.tmp 23), some 24, none⟩,
  ⟨.load 32 (.tmp 24), some 25, none⟩,
  ⟨.alloc 32, some 9, none⟩,
  ⟨.store 32 (.tmp 9) (.tmp 25), none, none⟩])
 (.seq (.region [⟨.move (.tmp 2), some 26, none⟩,
  ⟨.load 32 (.tmp 8), some 27, none⟩,
  ⟨.load 32 (.tmp 9), some 28, none⟩,
  ⟨.call (Go.Call.mk (.value (.tmp 26)) #[.tmp 27, .tmp 28] #[32, 32]), some 29, none⟩,
  ⟨.unOp .not 4 (.tmp 29), some 30, none⟩])
 (.cond (.tmp 30) (.seq (.region [⟨.assign (.const (Value.bool false)), some 6, none⟩])
 .ret)
 .skip)))))
 (.region [⟨.binOp .add 3 (.tmp 17) (.const (Value.int .i64 1)) 3, some 31, none⟩,
  ⟨.move (.tmp 31), some 17, none⟩])))))))
 (.seq (.region [⟨.assign (.const (Value.bool true)), some 6, none⟩])
 .ret))))
theorem fc_slices_EqualFunc_api_View_api_View_api_View_api_View : FnC Tryz.prog 38 32 [.tmp 6] c_slices_EqualFunc_api_View_api_View_api_View_api_View := ⟨by kernel_rfl, Tryz.f38, _, Tryz.func38, rfl, rfl, rfl, by kernel_rfl⟩
def c_walk_Dirs : AC := (.seq (.region [⟨.box 26 (.tmp 0), some 2, none⟩,
  ⟨.assign (.const (Value.slice none 0 0)), some 4, none⟩])
 (.seq (.region [⟨.load 26 (.tmp 2), some 5, none⟩,
  ⟨.move (.tmp 1), some 6, none⟩,
  ⟨.call (Go.Call.mk (.value (.func 70)) #[.tmp 5, .tmp 6] #[26, 111]), some 7, none⟩,
  ⟨.nilCheck (.tmp 7), some 8, none⟩,
  ⟨.fieldAddr 115 (.tmp 8) 1, some 9, none⟩,
  ⟨.load 73 (.tmp 9), some 10, none⟩,
  ⟨.assign (.tmp 10), some 4, none⟩])
 .ret))
theorem fc_walk_Dirs : FnC Tryz.prog 39 11 [.tmp 4] c_walk_Dirs := ⟨by kernel_rfl, Tryz.f39, _, Tryz.func39, rfl, rfl, rfl, by kernel_rfl⟩
def c_view_Opaque : AC := (.seq (.region [⟨.box 68 (.tmp 0), some 1, none⟩,
  ⟨.assign (.const (Value.bool false)), some 2, none⟩])
 (.seq (.region [⟨.fieldAddr 68 (.tmp 1) 0, some 3, none⟩,
  ⟨.load 3 (.tmp 3), some 4, none⟩,
  ⟨.binOp .eql 3 (.tmp 4) (.const (Value.int .i64 1)) 3, some 5, none⟩,
  ⟨.move (.tmp 5), some 6, none⟩,
  ⟨.fieldAddr 68 (.tmp 1) 6, some 7, (some (6, true))⟩,
  ⟨.fieldAddr 66 (.tmp 7) 0, some 8, (some (6, true))⟩,
  ⟨.load 3 (.tmp 8), some 9, (some (6, true))⟩,
  ⟨.binOp .geq 3 (.tmp 9) (.const (Value.int .i64 0)) 3, some 10, (some (6, true))⟩,
  ⟨.pick (.tmp 6) (.tmp 10) (.const (Value.bool false)), some 11, none⟩,
  ⟨.move (.tmp 11), some 12, none⟩,
  ⟨.fieldAddr 68 (.tmp 1) 6, some 13, (some (12, true))⟩,
  ⟨.fieldAddr 66 (.tmp 13) 0, some 14, (some (12, true))⟩,
  ⟨.load 3 (.tmp 14), some 15, (some (12, true))⟩,
  ⟨.binOp .and 3 (.tmp 15) (.const (Value.int .i64 1)) 3, some 16, (some (12, true))⟩,
  ⟨.binOp .neq 3 (.tmp 16) (.const (Value.int .i64 0)) 3, some 17, (some (12, true))⟩,
  ⟨.pick (.tmp 12) (.tmp 17) (.const (Value.bool false)), some 18, none⟩,
  ⟨.move (.tmp 18), some 19, none⟩,
  ⟨.fieldAddr 68 (.tmp 1) 6, some 20, (some (19, true))⟩,
  ⟨.fieldAddr 66 (.tmp 20) 1, some 21, (some (19, true))⟩,
  ⟨.load 3 (.tmp 21), some 22, (some (19, true))⟩,
  ⟨.binOp .eql 3 (.tmp 22) (.const (Value.int .i64 121)) 3, some 23, (some (19, true))⟩,
  ⟨.pick (.tmp 19) (.tmp 23) (.const (Value.bool false)), some 24, none⟩,
  ⟨.assign (.tmp 24), some 2, none⟩])
 .ret))
theorem fc_view_Opaque : FnC Tryz.prog 40 25 [.tmp 2] c_view_Opaque := ⟨by kernel_rfl, Tryz.f40, _, Tryz.func40, rfl, rfl, rfl, by kernel_rfl⟩
def c_ref17_Opaque : AC := (.seq (.region [⟨.box 68 (.tmp 0), some 1, none⟩,
  ⟨.assign (.const (Value.bool false)), some 2, none⟩])
 (.seq (.region [⟨.fieldAddr 68 (.tmp 1) 0, some 3, none⟩,
  ⟨.load 3 (.tmp 3), some 4, none⟩,
  ⟨.binOp .eql 3 (.tmp 4) (.const (Value.int .i64 1)) 3, some 5, none⟩,
  ⟨.move (.tmp 5), some 6, none⟩,
  ⟨.load 68 (.tmp 1), some 7, (some (6, true))⟩,
  ⟨.call (Go.Call.mk (.value (.func 71)) #[.tmp 7] #[68]), some 8, (some (6, true))⟩,
  ⟨.pick (.tmp 6) (.tmp 8) (.const (Value.bool false)), some 9, none⟩,
  ⟨.assign (.tmp 9), some 2, none⟩])
 .ret))
theorem fc_ref17_Opaque : FnC Tryz.prog 41 10 [.tmp 2] c_ref17_Opaque := ⟨by kernel_rfl, Tryz.f41, _, Tryz.func41, rfl, rfl, rfl, by kernel_rfl⟩
def c_plain_Branch : AC := (.seq (.region [⟨.box 26 (.tmp 0), some 2, none⟩,
  ⟨.assign (.const (Value.bool false)), some 4, none⟩])
 (.seq (.region [⟨.fieldAddr 26 (.tmp 2) 0, some 5, none⟩,
  ⟨.load 24 (.tmp 5), some 6, none⟩,
  ⟨.call (Go.Call.mk (.builtin .len) #[.tmp 6] #[24]), some 7, none⟩,
  ⟨.move (.tmp 1), some 8, none⟩,
  ⟨.binOp .leq 3 (.tmp 7) (.tmp 8) 3, some 9, none⟩,
  ⟨.move (.tmp 9), some 10, none⟩,
  ⟨.fieldAddr 26 (.tmp 2) 0, some 11, (some (10, true))⟩,
  ⟨.load 24 (.tmp 11), some 12, (some (10, true))⟩,
  ⟨.call (Go.Call.mk (.value (.func 72)) #[.tmp 12, .func 73] #[24, 82]), some 13, (some (10, true))⟩,
  ⟨.unOp .not 4 (.tmp 13), some 14, (some (10, true))⟩,
  ⟨.pick (.tmp 10) (.tmp 14) (.const (Value.bool false)), some 15, none⟩,
  ⟨.assign (.tmp 15), some 4, none⟩])
 .ret))
theorem fc_plain_Branch : FnC Tryz.prog 42 16 [.tmp 4] c_plain_Branch := ⟨by kernel_rfl, Tryz.f42, _, Tryz.func42, rfl, rfl, rfl, by kernel_rfl⟩
def c_slices_ContainsFunc_api_Branch_api_Branch : AC := (.seq (.region [⟨.assign (.const (Value.bool false)), some 4, none⟩])
 (.seq (.region [⟨.move (.tmp 0), some 5, none⟩,
  ⟨.move (.tmp 1), some 6, none⟩,
  ⟨.call (Go.Call.mk (.value (.func 75)) #[.tmp 5, .tmp 6] #[27, 86]), some 7, none⟩,
  ⟨.binOp .geq 3 (.tmp 7) (.const (Value.int .i64 0)) 3, some 8, none⟩,
  ⟨.assign (.tmp 8), some 4, none⟩])
 .ret))
theorem fc_slices_ContainsFunc_api_Branch_api_Branch : FnC Tryz.prog 43 9 [.tmp 4] c_slices_ContainsFunc_api_Branch_api_Branch := ⟨by kernel_rfl, Tryz.f43, _, Tryz.func43, rfl, rfl, rfl, by kernel_rfl⟩
def c_plain_Stack_1 : AC := (.seq (.region [⟨.box 26 (.tmp 0), some 2, none⟩,
  ⟨.assign (.const (Value.bool false)), some 3, none⟩])
 (.seq (.region [⟨.load 26 (.tmp 2), some 4, none⟩,
  ⟨.load 3 (.tmp 1), some 5, none⟩,
  ⟨.call (Go.Call.mk (.value (.func 42)) #[.tmp 4, .tmp 5] #[26, 3]), some 6, none⟩,
  ⟨.unOp .not 4 (.tmp 6), some 7, none⟩,
  ⟨.assign (.tmp 7), some 3, none⟩])
 .ret))
theorem fc_plain_Stack_1 : FnC Tryz.prog 44 8 [.tmp 3] c_plain_Stack_1 := ⟨by kernel_rfl, Tryz.f44, _, Tryz.func44, rfl, rfl, rfl, by kernel_rfl⟩
def c_plain_Idle : AC := (.seq (.region [⟨.alloc 29, some 0, none⟩])
 (.seq (.region [⟨.call (Go.Call.mk (.value (.func 46)) #[] #[]), some 2, none⟩,
  ⟨.alloc 29, some 1, none⟩,
  ⟨.store 29 (.tmp 1) (.tmp 2), none, none⟩])
 (.seq (.draw [⟨.fieldAddr 29 (.tmp 1) 1, some 3, none⟩,
  ⟨.fieldAddr 26 (.tmp 3) 0, some 4, none⟩,
  ⟨.load 24 (.tmp 4), some 5, none⟩,
  ⟨.build 55 #[(0, .const (Value.int .i64 1)), (1, .const (Value.int .i64 4)), (2, .const (Value.string (ByteArray.mk #[122])))], some 6, none⟩,
  ⟨.buildSlice 62 1 #[(0, .tmp 6)], some 7, none⟩,
  ⟨.call (Go.Call.mk (.value (.func 76)) #[.tmp 7] #[62]), some 8, none⟩,
  ⟨.indexAddr 24 (.tmp 5) (.const (Value.int .i64 0)), some 9, none⟩,
  ⟨.store 68 (.tmp 9) (.tmp 8), none, none⟩] [0, 1, 3, 0, 8, 24, 63, 127] [false, false, true, false, false, true, false, true])
 (.seq (.region [⟨.fieldAddr 29 (.tmp 1) 1, some 10, none⟩,
  ⟨.fieldAddr 26 (.tmp 10) 0, some 11, none⟩,
  ⟨.load 24 (.tmp 11), some 12, none⟩,
  ⟨.build 68 #[(0, .const (Value.int .i64 4)), (2, .const (Value.int .i64 1))], some 13, none⟩,
  ⟨.indexAddr 24 (.tmp 12) (.const (Value.int .i64 3)), some 14, none⟩,
  ⟨.store 68 (.tmp 14) (.tmp 13), none, none⟩])
 (.seq (.region [⟨.load 29 (.tmp 1), some 15, none⟩,
  ⟨.store 29 (.tmp 0) (.tmp 15), none, none⟩])
 .ret)))))
theorem fc_plain_Idle : FnC Tryz.prog 45 16 [.cell 0 29] c_plain_Idle := ⟨by kernel_rfl, Tryz.f45, _, Tryz.func45, rfl, rfl, rfl, by kernel_rfl⟩
def c_plain_Base : AC := (.seq (.region [⟨.alloc 29, some 0, none⟩])
 (.seq (.region [⟨.build 23 #[(0, .const (Value.int .i64 1)), (1, .const (Value.int .i64 5)), (2, .const (Value.int .i64 6)), (3, .const (Value.int .i64 5))], some 2, none⟩,
  ⟨.build 29 #[(0, .tmp 2)], some 3, none⟩,
  ⟨.alloc 29, some 1, none⟩,
  ⟨.store 29 (.tmp 1) (.tmp 3), none, none⟩])
 (.seq (.region [⟨.build 55 #[(1, .const (Value.int .i64 2)), (2, .const (Value.string (ByteArray.mk #[97])))], some 4, none⟩,
  ⟨.buildSlice 62 1 #[(0, .tmp 4)], some 5, none⟩,
  ⟨.call (Go.Call.mk (.value (.func 76)) #[.tmp 5] #[62]), some 6, none⟩,
  ⟨.buildSlice 61 1 #[(0, .const (Value.int .u8 120))], some 7, none⟩,
  ⟨.build 68 #[(0, .const (Value.int .i64 2)), (2, .const (Value.int .i64 1)), (3, .const (Value.int .i64 3)), (4, .tmp 7)], some 8, none⟩,
  ⟨.build 68 #[], some 9, none⟩,
  ⟨.build 68 #[], some 10, none⟩,
  ⟨.build 68 #[], some 11, none⟩,
  ⟨.buildSlice 24 5 #[(0, .tmp 6), (1, .tmp 8), (2, .tmp 9), (3, .tmp 10), (4, .tmp 11)], some 12, none⟩,
  ⟨.build 26 #[(0, .tmp 12)], some 13, none⟩,
  ⟨.buildSlice 27 1 #[(0, .tmp 13)], some 14, none⟩,
  ⟨.fieldAddr 29 (.tmp 1) 2, some 15, none⟩,
  ⟨.store 27 (.tmp 15) (.tmp 14), none, none⟩])
 (.seq (.region [⟨.call (Go.Call.mk (.value (.func 76)) #[.const (Value.slice none 0 0)] #[62]), some 16, none⟩,
  ⟨.call (Go.Call.mk (.value (.func 76)) #[.const (Value.slice none 0 0)] #[62]), some 17, none⟩,
  ⟨.call (Go.Call.mk (.value (.func 76)) #[.const (Value.slice none 0 0)] #[62]), some 18, none⟩,
  ⟨.build 68 #[], some 19, none⟩,
  ⟨.build 68 #[], some 20, none⟩,
  ⟨.buildSlice 24 5 #[(0, .tmp 16), (1, .tmp 17), (2, .tmp 18), (3, .tmp 19), (4, .tmp 20)], some 21, none⟩,
  ⟨.build 26 #[(0, .tmp 21)], some 22, none⟩,
  ⟨.fieldAddr 29 (.tmp 1) 1, some 23, none⟩,
  ⟨.store 26 (.tmp 23) (.tmp 22), none, none⟩])
 (.seq (.region [⟨.load 29 (.tmp 1), some 24, none⟩,
  ⟨.store 29 (.tmp 0) (.tmp 24), none, none⟩])
 .ret)))))
theorem fc_plain_Base : FnC Tryz.prog 46 25 [.cell 0 29] c_plain_Base := ⟨by kernel_rfl, Tryz.f46, _, Tryz.func46, rfl, rfl, rfl, by kernel_rfl⟩
def c_ref13_At : AC := (.seq (.region [⟨.box 26 (.tmp 0), some 2, none⟩,
  ⟨.alloc 68, some 4, none⟩])
 (.seq (.seq (.region [⟨.move (.tmp 1), some 5, none⟩,
  ⟨.binOp .lss 3 (.tmp 5) (.const (Value.int .i64 1)) 3, some 6, none⟩,
  ⟨.move (.tmp 6), some 7, none⟩,
  ⟨.move (.tmp 1), some 8, (some (7, false))⟩,
  ⟨.fieldAddr 26 (.tmp 2) 0, some 9, (some (7, false))⟩,
  ⟨.load 24 (.tmp 9), some 10, (some (7, false))⟩,
  ⟨.call (Go.Call.mk (.builtin .len) #[.tmp 10] #[24]), some 11, (some (7, false))⟩,
  ⟨.binOp .gtr 3 (.tmp 8) (.tmp 11) 3, some 12, (some (7, false))⟩,
  ⟨.pick (.tmp 7) (.const (Value.bool true)) (.tmp 12), some 13, none⟩])
 (.cond (.tmp 13) (.seq (.region [⟨.build 68 #[], some 14, none⟩,
  ⟨.store 68 (.tmp 4) (.tmp 14), none, none⟩])
 .ret)
 .skip))
 (.seq (.region [⟨.fieldAddr 26 (.tmp 2) 0, some 15, none⟩,
  ⟨.load 24 (.tmp 15), some 16, none⟩,
  ⟨.move (.tmp 1), some 17, none⟩,
  ⟨.binOp .sub 3 (.tmp 17) (.const (Value.int .i64 1)) 3, some 18, none⟩,
  ⟨.indexAddr 24 (.tmp 16) (.tmp 18), some 19, none⟩,
  ⟨.load 68 (.tmp 19), some 20, none⟩,
  ⟨.store 68 (.tmp 4) (.tmp 20), none, none⟩])
 .ret)))
theorem fc_ref13_At : FnC Tryz.prog 48 21 [.cell 4 68] c_ref13_At := ⟨by kernel_rfl, Tryz.f48, _, Tryz.func48, rfl, rfl, rfl, by kernel_rfl⟩
def c_ref16_Find : AC := (.seq (.region [⟨.box 29 (.tmp 0), some 3, none⟩,
  ⟨.assign (.const (Value.int .i64 0)), some 6, none⟩,
  ⟨.assign (.const (Value.slice none 0 0)), some 7, none⟩])
 (.seq (.region [⟨.buildSlice 30 0 #[], some 13, none⟩,
  ⟨.assign (.tmp 13), some 8, none⟩])
 (.seq (.seq (.region [⟨.assign (.const (Value.int .i64 0)), some 9, none⟩])
 (.block 0 (.loop (.seq (.seq (.region [⟨.move (.tmp 9), some 14, none⟩,
  ⟨.move (.tmp 1), some 15, none⟩,
  ⟨.call (Go.Call.mk (.builtin .len) #[.tmp 15] #[30]), some 16, none⟩,
  ⟨.binOp .lss 3 (.tmp 14) (.tmp 16) 3, some 17, none⟩])
 (.cond (.tmp 17) .skip
 (.exit 0)))
 (.seq (.block 1 (.seq (.draw [⟨.load 29 (.tmp 3), some 21, none⟩,
  ⟨.move (.tmp 1), some 22, none⟩,
  ⟨.move (.tmp 9), some 23, none⟩,
  ⟨.indexAddr 30 (.tmp 22) (.tmp 23), some 24, none⟩,
  ⟨.load 45 (.tmp 24), some 25, none⟩,
  ⟨.move (.tmp 2), some 26, none⟩,
  ⟨.call (Go.Call.mk (.value (.func 77)) #[.tmp 21, .tmp 25, .tmp 26] #[29, 45, 9]), some 27, none⟩,
  ⟨.move (.tmp 27), some 20, none⟩,
  ⟨.extract (.tmp 20) 0, some 28, none⟩,
  ⟨.extract (.tmp 20) 1, some 29, none⟩,
  ⟨.alloc 45, some 10, none⟩,
  ⟨.store 45 (.tmp 10) (.tmp 28), none, none⟩,
  ⟨.assign (.tmp 29), some 11, none⟩] [0, 0, 0, 6, 14, 0, 63, 127, 255, 255, 0, 1535, 4095] [true, false, false, false, true, false, true, false, false, false, false, true, false])
 (.seq (.seq (.region [⟨.move (.tmp 11), some 30, none⟩,
  ⟨.unOp .not 4 (.tmp 30), some 31, none⟩])
 (.cond (.tmp 31) (.exit 1)
 .skip))
 (.seq (.region [⟨.load 29 (.tmp 3), some 32, none⟩,
  ⟨.load 45 (.tmp 10), some 33, none⟩,
  ⟨.call (Go.Call.mk (.value (.func 78)) #[.tmp 32, .tmp 33] #[29, 45]), some 34, none⟩,
  ⟨.alloc 68, some 12, none⟩,
  ⟨.store 68 (.tmp 12) (.tmp 34), none, none⟩])
 (.seq (.seq (.region [⟨.fieldAddr 68 (.tmp 12) 0, some 35, none⟩,
  ⟨.load 3 (.tmp 35), some 36, none⟩,
  ⟨.binOp .eql 3 (.tmp 36) (.const (Value.int .i64 1)) 3, some 37, none⟩])
 (.cond (.tmp 37) (.seq (.region [⟨.move (.tmp 8), some 38, none⟩,
  ⟨.load 45 (.tmp 10), some 39, none⟩,
  ⟨.buildSlice 30 1 #[(0, .tmp 39)], some 40, none⟩,
  ⟨.call (Go.Call.mk (.builtin .append) #[.tmp 38, .tmp 40] #[30, 30]), some 41, none⟩,
  ⟨.assign (.tmp 41), some 8, none⟩])
 (.seq (.seq (.region [⟨.load 68 (.tmp 12), some 42, none⟩,
  ⟨.call (Go.Call.mk (.value (.func 71)) #[.tmp 42] #[68]), some 43, none⟩])
 (.cond (.tmp 43) (.seq (.region [⟨.move (.tmp 8), some 44, none⟩,
  ⟨.assign (.const (Value.int .i64 1)), some 6, none⟩,
  ⟨.assign (.tmp 44), some 7, none⟩])
 .ret)
 .skip))
 (.exit 1)))
 .skip))
 (.seq (.seq (.region [⟨.move (.tmp 8), some 45, none⟩,
  ⟨.call (Go.Call.mk (.builtin .len) #[.tmp 45] #[30]), some 46, none⟩,
  ⟨.binOp .gtr 3 (.tmp 46) (.const (Value.int .i64 0)) 3, some 47, none⟩])
 (.cond (.tmp 47) (.seq (.region [⟨.move (.tmp 8), some 48, none⟩,
  ⟨.assign (.const (Value.int .i64 1)), some 6, none⟩,
  ⟨.assign (.tmp 48), some 7, none⟩])
 .ret)
 .skip))
 (.seq (.seq (.region [⟨.fieldAddr 68 (.tmp 12) 0, some 49, none⟩,
  ⟨.load 3 (.tmp 49), some 50, none⟩,
  ⟨.binOp .eql 3 (.tmp 50) (.const (Value.int .i64 2)) 3, some 51, none⟩,
  ⟨.move (.tmp 51), some 52, none⟩,
  ⟨.fieldAddr 68 (.tmp 12) 0, some 53, (some (52, false))⟩,
  ⟨.load 3 (.tmp 53), some 54, (some (52, false))⟩,
  ⟨.binOp .eql 3 (.tmp 54) (.const (Value.int .i64 3)) 3, some 55, (some (52, false))⟩,
  ⟨.pick (.tmp 52) (.const (Value.bool true)) (.tmp 55), some 56, none⟩])
 (.cond (.tmp 56) (.seq (.draw [⟨.fieldAddr 68 (.tmp 12) 0, some 57, none⟩,
  ⟨.load 3 (.tmp 57), some 58, none⟩,
  ⟨.load 45 (.tmp 10), some 59, none⟩,
  ⟨.buildSlice 30 1 #[(0, .tmp 59)], some 60, none⟩,
  ⟨.assign (.tmp 58), some 6, none⟩,
  ⟨.assign (.tmp 60), some 7, none⟩] [0, 1, 0, 4, 3, 31] [false, true, true, false, false, false])
 .ret)
 .skip))
 (.seq (.region [⟨.assign (.const (Value.int .i64 0)), some 6, none⟩,
  ⟨.assign (.const (Value.slice none 0 0)), some 7, none⟩])
 .ret))))))))
 (.region [⟨.move (.tmp 9), some 18, none⟩,
  ⟨.binOp .add 3 (.tmp 18) (.const (Value.int .i64 1)) 3, some 19, none⟩,
  ⟨.assign (.tmp 19), some 9, none⟩]))))))
 (.seq (.seq (.region [⟨.move (.tmp 8), some 61, none⟩,
  ⟨.call (Go.Call.mk (.builtin .len) #[.tmp 61] #[30]), some 62, none⟩,
  ⟨.binOp .gtr 3 (.tmp 62) (.const (Value.int .i64 0)) 3, some 63, none⟩])
 (.cond (.tmp 63) (.seq (.region [⟨.move (.tmp 8), some 64, none⟩,
  ⟨.assign (.const (Value.int .i64 1)), some 6, none⟩,
  ⟨.assign (.tmp 64), some 7, none⟩])
 .ret)
 .skip))
 (.seq (.region [⟨.assign (.const (Value.int .i64 0)), some 6, none⟩,
  ⟨.assign (.const (Value.slice none 0 0)), some 7, none⟩])
 .ret)))))
theorem fc_ref16_Find : FnC Tryz.prog 49 65 [.tmp 6, .tmp 7] c_ref16_Find := ⟨by kernel_rfl, Tryz.f49, _, Tryz.func49, rfl, rfl, rfl, by kernel_rfl⟩
def c_name_Sort : AC := (.seq (.region [⟨.assign (.const (Value.slice none 0 0)), some 2, none⟩])
 (.seq (.region [⟨.move (.tmp 0), some 4, none⟩,
  ⟨.call (Go.Call.mk (.value (.func 79)) #[.tmp 4] #[42]), some 5, none⟩,
  ⟨.assign (.tmp 5), some 3, none⟩])
 (.seq (.region [⟨.move (.tmp 3), some 6, none⟩,
  ⟨.call (Go.Call.mk (.value (.func 80)) #[.tmp 6] #[42]), some 7, none⟩])
 (.seq (.region [⟨.move (.tmp 3), some 8, none⟩,
  ⟨.call (Go.Call.mk (.value (.func 81)) #[.tmp 8] #[42]), some 9, none⟩,
  ⟨.assign (.tmp 9), some 2, none⟩])
 .ret))))
theorem fc_name_Sort : FnC Tryz.prog 50 10 [.tmp 2] c_name_Sort := ⟨by kernel_rfl, Tryz.f50, _, Tryz.func50, rfl, rfl, rfl, by kernel_rfl⟩
end Go.Proofs.YtapdjibjnfeipaaGreatDoor.AL

