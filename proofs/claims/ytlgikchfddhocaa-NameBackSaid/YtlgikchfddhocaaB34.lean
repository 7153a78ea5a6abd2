/- What of the attributes of any stack, and of any node, may not be, is what the document says: part 34 of 46. -/
import Derived.Test.YtlgikchfddhocaaChecked
import Derived.Test.YtlgikchfddhocaaB33
set_option linter.all false
/- AL: the functions of this seat's translation in AL's short form, written by gencode.py out of Lean's own print of them; each with the fact that it is so. -/
set_option maxRecDepth 100000
namespace Go.Proofs.Ytlgikchfddhocaa.AL
open Go Go.Proofs
/-- craquelure/craquelurelaw03.NameTells -/
def c_law03_NameTells : AC := (.seq (.region [⟨.assign (.const (Value.bool false)), some 2, none⟩])
 (.seq (.seq (.region [⟨.move (.tmp 0), some 3, none⟩,
  ⟨.call (Go.Call.mk (.builtin .len) #[.tmp 3] #[9]), some 4, none⟩,
  ⟨.binOp .gtr 3 (.tmp 4) (.const (Value.int .i64 2000)) 3, some 5, none⟩])
 (.cond (.tmp 5) (.seq (.region [⟨.call (Go.Call.mk (.value (.func 8)) #[] #[]), some 6, none⟩,
  ⟨.assign (.tmp 6), some 2, none⟩])
 .ret)
 .skip))
 (.seq (.region [⟨.move (.tmp 0), some 7, none⟩,
  ⟨.call (Go.Call.mk (.value (.func 9)) #[.tmp 7] #[9]), some 8, none⟩,
  ⟨.move (.tmp 0), some 9, none⟩,
  ⟨.call (Go.Call.mk (.value (.func 10)) #[.tmp 9] #[9]), some 10, none⟩,
  ⟨.binOp .eql 4 (.tmp 8) (.tmp 10) 4, some 11, none⟩,
  ⟨.move (.tmp 11), some 12, none⟩,
  ⟨.move (.tmp 0), some 13, (some (12, true))⟩,
  ⟨.call (Go.Call.mk (.value (.func 12)) #[.tmp 13] #[9]), some 14, (some (12, true))⟩,
  ⟨.move (.tmp 0), some 15, (some (12, true))⟩,
  ⟨.call (Go.Call.mk (.value (.func 13)) #[.tmp 15] #[9]), some 16, (some (12, true))⟩,
  ⟨.call (Go.Call.mk (.value (.func 11)) #[.tmp 14, .tmp 16] #[25, 25]), some 17, (some (12, true))⟩,
  ⟨.pick (.tmp 12) (.tmp 17) (.const (Value.bool false)), some 18, none⟩,
  ⟨.move (.tmp 18), some 19, none⟩,
  ⟨.call (Go.Call.mk (.value (.func 8)) #[] #[]), some 20, (some (19, true))⟩,
  ⟨.pick (.tmp 19) (.tmp 20) (.const (Value.bool false)), some 21, none⟩,
  ⟨.assign (.tmp 21), some 2, none⟩])
 .ret)))
theorem fc_law03_NameTells : FnC Try.prog 3 22 [.tmp 2] c_law03_NameTells := ⟨by kernel_rfl, Try.f3, _, Try.func3, rfl, rfl, rfl, by kernel_rfl⟩
/-- craquelure/craquelurelaw03.NameBack -/
def c_law03_NameBack : AC := (.seq (.region [⟨.assign (.const (Value.bool false)), some 4, none⟩])
 (.seq (.seq (.region [⟨.move (.tmp 0), some 11, none⟩,
  ⟨.call (Go.Call.mk (.builtin .len) #[.tmp 11] #[25]), some 12, none⟩,
  ⟨.binOp .gtr 3 (.tmp 12) (.const (Value.int .i64 2000)) 3, some 13, none⟩,
  ⟨.move (.tmp 13), some 14, none⟩,
  ⟨.move (.tmp 1), some 15, (some (14, false))⟩,
  ⟨.call (Go.Call.mk (.builtin .len) #[.tmp 15] #[9]), some 16, (some (14, false))⟩,
  ⟨.binOp .gtr 3 (.tmp 16) (.const (Value.int .i64 2000)) 3, some 17, (some (14, false))⟩,
  ⟨.pick (.tmp 14) (.const (Value.bool true)) (.tmp 17), some 18, none⟩])
 (.cond (.tmp 18) (.seq (.region [⟨.call (Go.Call.mk (.value (.func 8)) #[] #[]), some 19, none⟩,
  ⟨.assign (.tmp 19), some 4, none⟩])
 .ret)
 .skip))
 (.seq (.region [⟨.move (.tmp 0), some 21, none⟩,
  ⟨.call (Go.Call.mk (.value (.func 14)) #[.tmp 21] #[25]), some 22, none⟩,
  ⟨.move (.tmp 22), some 20, none⟩,
  ⟨.extract (.tmp 20) 0, some 23, none⟩,
  ⟨.extract (.tmp 20) 1, some 24, none⟩,
  ⟨.assign (.tmp 23), some 5, none⟩,
  ⟨.assign (.tmp 24), some 6, none⟩])
 (.seq (.region [⟨.move (.tmp 0), some 26, none⟩,
  ⟨.call (Go.Call.mk (.value (.func 15)) #[.tmp 26] #[25]), some 27, none⟩,
  ⟨.move (.tmp 27), some 25, none⟩,
  ⟨.extract (.tmp 25) 0, some 28, none⟩,
  ⟨.extract (.tmp 25) 1, some 29, none⟩,
  ⟨.assign (.tmp 28), some 7, none⟩,
  ⟨.assign (.tmp 29), some 8, none⟩])
 (.seq (.seq (.region [⟨.move (.tmp 5), some 30, none⟩,
  ⟨.move (.tmp 7), some 31, none⟩,
  ⟨.binOp .neq 9 (.tmp 30) (.tmp 31) 9, some 32, none⟩,
  ⟨.move (.tmp 32), some 33, none⟩,
  ⟨.move (.tmp 6), some 34, (some (33, false))⟩,
  ⟨.move (.tmp 8), some 35, (some (33, false))⟩,
  ⟨.binOp .neq 4 (.tmp 34) (.tmp 35) 4, some 36, (some (33, false))⟩,
  ⟨.pick (.tmp 33) (.const (Value.bool true)) (.tmp 36), some 37, none⟩,
  ⟨.move (.tmp 37), some 38, none⟩,
  ⟨.move (.tmp 6), some 39, (some (38, false))⟩,
  ⟨.move (.tmp 39), some 40, (some (38, false))⟩,
  ⟨.move (.tmp 5), some 41, (some (40, true))⟩,
  ⟨.call (Go.Call.mk (.value (.func 12)) #[.tmp 41] #[9]), some 42, (some (40, true))⟩,
  ⟨.move (.tmp 0), some 43, (some (40, true))⟩,
  ⟨.call (Go.Call.mk (.value (.func 11)) #[.tmp 42, .tmp 43] #[25, 25]), some 44, (some (40, true))⟩,
  ⟨.unOp .not 4 (.tmp 44), some 45, (some (40, true))⟩,
  ⟨.pick (.tmp 40) (.tmp 45) (.const (Value.bool false)), some 46, (some (38, false))⟩,
  ⟨.pick (.tmp 38) (.const (Value.bool true)) (.tmp 46), some 47, none⟩])
 (.cond (.tmp 47) (.seq (.region [⟨.assign (.const (Value.bool false)), some 4, none⟩])
 .ret)
 .skip))
 (.seq (.region [⟨.move (.tmp 1), some 49, none⟩,
  ⟨.call (Go.Call.mk (.value (.func 12)) #[.tmp 49] #[9]), some 50, none⟩,
  ⟨.call (Go.Call.mk (.value (.func 14)) #[.tmp 50] #[25]), some 51, none⟩,
  ⟨.move (.tmp 51), some 48, none⟩,
  ⟨.extract (.tmp 48) 0, some 52, none⟩,
  ⟨.extract (.tmp 48) 1, some 53, none⟩,
  ⟨.assign (.tmp 52), some 9, none⟩,
  ⟨.assign (.tmp 53), some 10, none⟩])
 (.seq (.region [⟨.move (.tmp 10), some 54, none⟩,
  ⟨.move (.tmp 1), some 55, none⟩,
  ⟨.call (Go.Call.mk (.value (.func 9)) #[.tmp 55] #[9]), some 56, none⟩,
  ⟨.binOp .eql 4 (.tmp 54) (.tmp 56) 4, some 57, none⟩,
  ⟨.move (.tmp 57), some 58, none⟩,
  ⟨.move (.tmp 10), some 59, (some (58, true))⟩,
  ⟨.unOp .not 4 (.tmp 59), some 60, (some (58, true))⟩,
  ⟨.move (.tmp 60), some 61, (some (58, true))⟩,
  ⟨.move (.tmp 9), some 62, (some (61, false))⟩,
  ⟨.move (.tmp 1), some 63, (some (61, false))⟩,
  ⟨.binOp .eql 9 (.tmp 62) (.tmp 63) 9, some 64, (some (61, false))⟩,
  ⟨.pick (.tmp 61) (.const (Value.bool true)) (.tmp 64), some 65, (some (58, true))⟩,
  ⟨.pick (.tmp 58) (.tmp 65) (.const (Value.bool false)), some 66, none⟩,
  ⟨.move (.tmp 66), some 67, none⟩,
  ⟨.call (Go.Call.mk (.value (.func 8)) #[] #[]), some 68, (some (67, true))⟩,
  ⟨.pick (.tmp 67) (.tmp 68) (.const (Value.bool false)), some 69, none⟩,
  ⟨.assign (.tmp 69), some 4, none⟩])
 .ret)))))))
theorem fc_law03_NameBack : FnC Try.prog 4 70 [.tmp 4] c_law03_NameBack := ⟨by kernel_rfl, Try.f4, _, Try.func4, rfl, rfl, rfl, by kernel_rfl⟩
/-- craquelure/craquelurelaw03.NameSorts -/
def c_law03_NameSorts : AC := (.seq (.region [⟨.assign (.const (Value.bool false)), some 2, none⟩])
 (.seq (.seq (.region [⟨.move (.tmp 0), some 4, none⟩,
  ⟨.call (Go.Call.mk (.builtin .len) #[.tmp 4] #[30]), some 5, none⟩,
  ⟨.binOp .gtr 3 (.tmp 5) (.const (Value.int .i64 60)) 3, some 6, none⟩])
 (.cond (.tmp 6) (.seq (.region [⟨.call (Go.Call.mk (.value (.func 8)) #[] #[]), some 7, none⟩,
  ⟨.assign (.tmp 7), some 2, none⟩])
 .ret)
 .skip))
 (.seq (.region [⟨.move (.tmp 0), some 8, none⟩,
  ⟨.call (Go.Call.mk (.value (.func 16)) #[.tmp 8] #[30]), some 9, none⟩,
  ⟨.assign (.tmp 9), some 3, none⟩])
 (.seq (.region [⟨.move (.tmp 3), some 10, none⟩,
  ⟨.move (.tmp 0), some 11, none⟩,
  ⟨.call (Go.Call.mk (.value (.func 18)) #[.tmp 11] #[30]), some 12, none⟩,
  ⟨.call (Go.Call.mk (.value (.func 17)) #[.tmp 10, .tmp 12] #[30, 30]), some 13, none⟩,
  ⟨.move (.tmp 13), some 14, none⟩,
  ⟨.move (.tmp 3), some 15, (some (14, true))⟩,
  ⟨.call (Go.Call.mk (.value (.func 19)) #[.tmp 15] #[30]), some 16, (some (14, true))⟩,
  ⟨.pick (.tmp 14) (.tmp 16) (.const (Value.bool false)), some 17, none⟩,
  ⟨.move (.tmp 17), some 18, none⟩,
  ⟨.move (.tmp 3), some 19, (some (18, true))⟩,
  ⟨.call (Go.Call.mk (.value (.func 16)) #[.tmp 19] #[30]), some 20, (some (18, true))⟩,
  ⟨.move (.tmp 3), some 21, (some (18, true))⟩,
  ⟨.call (Go.Call.mk (.value (.func 17)) #[.tmp 20, .tmp 21] #[30, 30]), some 22, (some (18, true))⟩,
  ⟨.pick (.tmp 18) (.tmp 22) (.const (Value.bool false)), some 23, none⟩,
  ⟨.move (.tmp 23), some 24, none⟩,
  ⟨.call (Go.Call.mk (.value (.func 8)) #[] #[]), some 25, (some (24, true))⟩,
  ⟨.pick (.tmp 24) (.tmp 25) (.const (Value.bool false)), some 26, none⟩,
  ⟨.assign (.tmp 26), some 2, none⟩])
 .ret))))
theorem fc_law03_NameSorts : FnC Try.prog 5 27 [.tmp 2] c_law03_NameSorts := ⟨by kernel_rfl, Try.f5, _, Try.func5, rfl, rfl, rfl, by kernel_rfl⟩
/-- craquelure/craquelurelaw03.awake -/
def c_law03_awake : AC := (.seq (.region [⟨.assign (.const (Value.bool false)), some 0, none⟩])
 (.seq (.region [⟨.call (Go.Call.mk (.value (.func 12)) #[.const (Value.string (ByteArray.mk #[97, 46, 98]))] #[9]), some 4, none⟩,
  ⟨.call (Go.Call.mk (.value (.func 14)) #[.tmp 4] #[25]), some 5, none⟩,
  ⟨.move (.tmp 5), some 3, none⟩,
  ⟨.extract (.tmp 3) 0, some 6, none⟩,
  ⟨.extract (.tmp 3) 1, some 7, none⟩,
  ⟨.assign (.tmp 6), some 1, none⟩,
  ⟨.assign (.tmp 7), some 2, none⟩])
 (.seq (.region [⟨.move (.tmp 1), some 8, none⟩,
  ⟨.binOp .eql 9 (.tmp 8) (.const (Value.string (ByteArray.mk #[97, 46, 98]))) 9, some 9, none⟩,
  ⟨.move (.tmp 9), some 10, none⟩,
  ⟨.move (.tmp 2), some 11, (some (10, true))⟩,
  ⟨.pick (.tmp 10) (.tmp 11) (.const (Value.bool false)), some 12, none⟩,
  ⟨.move (.tmp 12), some 13, none⟩,
  ⟨.call (Go.Call.mk (.value (.func 9)) #[.const (Value.string (ByteArray.mk #[46, 46, 97]))] #[9]), some 14, (some (13, true))⟩,
  ⟨.pick (.tmp 13) (.tmp 14) (.const (Value.bool false)), some 15, none⟩,
  ⟨.move (.tmp 15), some 16, none⟩,
  ⟨.call (Go.Call.mk (.value (.func 9)) #[.const (Value.string (ByteArray.mk #[46, 46]))] #[9]), some 17, (some (16, true))⟩,
  ⟨.unOp .not 4 (.tmp 17), some 18, (some (16, true))⟩,
  ⟨.pick (.tmp 16) (.tmp 18) (.const (Value.bool false)), some 19, none⟩,
  ⟨.move (.tmp 19), some 20, none⟩,
  ⟨.buildSlice 30 3 #[(0, .const (Value.string (ByteArray.mk #[98]))), (1, .const (Value.string (ByteArray.mk #[97]))), (2, .const (Value.string (ByteArray.mk #[98])))], some 21, (some (20, true))⟩,
  ⟨.call (Go.Call.mk (.value (.func 16)) #[.tmp 21] #[30]), some 22, (some (20, true))⟩,
  ⟨.buildSlice 30 2 #[(0, .const (Value.string (ByteArray.mk #[97]))), (1, .const (Value.string (ByteArray.mk #[98])))], some 23, (some (20, true))⟩,
  ⟨.call (Go.Call.mk (.value (.func 17)) #[.tmp 22, .tmp 23] #[30, 30]), some 24, (some (20, true))⟩,
  ⟨.pick (.tmp 20) (.tmp 24) (.const (Value.bool false)), some 25, none⟩,
  ⟨.assign (.tmp 25), some 0, none⟩])
 .ret)))
theorem fc_law03_awake : FnC Try.prog 8 26 [.tmp 0] c_law03_awake := ⟨by kernel_rfl, Try.f8, _, Try.func8, rfl, rfl, rfl, by kernel_rfl⟩
/-- craquelure/name.Right -/
def c_name_Right : AC := (.seq (.region [⟨.assign (.const (Value.bool false)), some 2, none⟩])
 (.seq (.seq (.region [⟨.move (.tmp 0), some 3, none⟩,
  ⟨.call (Go.Call.mk (.builtin .len) #[.tmp 3] #[9]), some 4, none⟩,
  ⟨.binOp .eql 3 (.tmp 4) (.const (Value.int .i64 0)) 3, some 5, none⟩,
  ⟨.move (.tmp 5), some 6, none⟩,
  ⟨.move (.tmp 0), some 7, (some (6, false))⟩,
  ⟨.call (Go.Call.mk (.builtin .len) #[.tmp 7] #[9]), some 8, (some (6, false))⟩,
  ⟨.binOp .gtr 3 (.tmp 8) (.const (Value.int .i64 12)) 3, some 9, (some (6, false))⟩,
  ⟨.pick (.tmp 6) (.const (Value.bool true)) (.tmp 9), some 10, none⟩,
  ⟨.move (.tmp 10), some 11, none⟩,
  ⟨.move (.tmp 0), some 12, (some (11, false))⟩,
  ⟨.binOp .eql 9 (.tmp 12) (.const (Value.string (ByteArray.mk #[46]))) 9, some 13, (some (11, false))⟩,
  ⟨.pick (.tmp 11) (.const (Value.bool true)) (.tmp 13), some 14, none⟩,
  ⟨.move (.tmp 14), some 15, none⟩,
  ⟨.move (.tmp 0), some 16, (some (15, false))⟩,
  ⟨.binOp .eql 9 (.tmp 16) (.const (Value.string (ByteArray.mk #[46, 46]))) 9, some 17, (some (15, false))⟩,
  ⟨.pick (.tmp 15) (.const (Value.bool true)) (.tmp 17), some 18, none⟩])
 (.cond (.tmp 18) (.seq (.region [⟨.assign (.const (Value.bool false)), some 2, none⟩])
 .ret)
 .skip))
 (.seq (.region [⟨.move (.tmp 0), some 19, none⟩,
  ⟨.call (Go.Call.mk (.value (.func 32)) #[.tmp 19, .func 33] #[9, 57]), some 20, none⟩,
  ⟨.binOp .lss 3 (.tmp 20) (.const (Value.int .i64 0)) 3, some 21, none⟩,
  ⟨.assign (.tmp 21), some 2, none⟩])
 .ret)))
theorem fc_name_Right : FnC Try.prog 9 22 [.tmp 2] c_name_Right := ⟨by kernel_rfl, Try.f9, _, Try.func9, rfl, rfl, rfl, by kernel_rfl⟩
/-- craquelure/craquelureref03.Right -/
def c_ref03_Right : AC := (.seq (.region [⟨.assign (.const (Value.bool false)), some 2, none⟩])
 (.seq (.seq (.region [⟨.move (.tmp 0), some 4, none⟩,
  ⟨.call (Go.Call.mk (.builtin .len) #[.tmp 4] #[9]), some 5, none⟩,
  ⟨.binOp .lss 3 (.tmp 5) (.const (Value.int .i64 1)) 3, some 6, none⟩,
  ⟨.move (.tmp 6), some 7, none⟩,
  ⟨.move (.tmp 0), some 8, (some (7, false))⟩,
  ⟨.call (Go.Call.mk (.builtin .len) #[.tmp 8] #[9]), some 9, (some (7, false))⟩,
  ⟨.binOp .gtr 3 (.tmp 9) (.const (Value.int .i64 12)) 3, some 10, (some (7, false))⟩,
  ⟨.pick (.tmp 7) (.const (Value.bool true)) (.tmp 10), some 11, none⟩,
  ⟨.move (.tmp 11), some 12, none⟩,
  ⟨.move (.tmp 0), some 13, (some (12, false))⟩,
  ⟨.binOp .eql 9 (.tmp 13) (.const (Value.string (ByteArray.mk #[46]))) 9, some 14, (some (12, false))⟩,
  ⟨.pick (.tmp 12) (.const (Value.bool true)) (.tmp 14), some 15, none⟩,
  ⟨.move (.tmp 15), some 16, none⟩,
  ⟨.move (.tmp 0), some 17, (some (16, false))⟩,
  ⟨.binOp .eql 9 (.tmp 17) (.const (Value.string (ByteArray.mk #[46, 46]))) 9, some 18, (some (16, false))⟩,
  ⟨.pick (.tmp 16) (.const (Value.bool true)) (.tmp 18), some 19, none⟩])
 (.cond (.tmp 19) (.seq (.region [⟨.assign (.const (Value.bool false)), some 2, none⟩])
 .ret)
 .skip))
 (.seq (.seq (.region [⟨.assign (.const (Value.int .i64 0)), some 3, none⟩])
 (.block 0 (.loop (.seq (.seq (.region [⟨.move (.tmp 3), some 20, none⟩,
  ⟨.move (.tmp 0), some 21, none⟩,
  ⟨.call (Go.Call.mk (.builtin .len) #[.tmp 21] #[9]), some 22, none⟩,
  ⟨.binOp .lss 3 (.tmp 20) (.tmp 22) 3, some 23, none⟩])
 (.cond (.tmp 23) .skip
 (.exit 0)))
 (.seq (.block 1 (.seq (.region [⟨.move (.tmp 0), some 26, none⟩,
  ⟨.move (.tmp 3), some 27, none⟩,
  ⟨.index 9 (.tmp 26) (.tmp 27), some 28, none⟩,
  ⟨.call (Go.Call.mk (.value (.func 35)) #[.tmp 28] #[5]), some 29, none⟩,
  ⟨.unOp .not 4 (.tmp 29), some 30, none⟩])
 (.cond (.tmp 30) (.seq (.region [⟨.assign (.const (Value.bool false)), some 2, none⟩])
 .ret)
 .skip)))
 (.region [⟨.move (.tmp 3), some 24, none⟩,
  ⟨.binOp .add 3 (.tmp 24) (.const (Value.int .i64 1)) 3, some 25, none⟩,
  ⟨.assign (.tmp 25), some 3, none⟩]))))))
 (.seq (.region [⟨.assign (.const (Value.bool true)), some 2, none⟩])
 .ret))))
theorem fc_ref03_Right : FnC Try.prog 10 31 [.tmp 2] c_ref03_Right := ⟨by kernel_rfl, Try.f10, _, Try.func10, rfl, rfl, rfl, by kernel_rfl⟩
/-- bytes.Equal -/
def c_bytes_Equal : AC := (.seq (.region [⟨.assign (.const (Value.bool false)), some 4, none⟩])
 (.seq (.region [⟨.move (.tmp 0), some 5, none⟩,
  ⟨.convert 25 9 (.tmp 5), some 6, none⟩,
  ⟨.move (.tmp 1), some 7, none⟩,
  ⟨.convert 25 9 (.tmp 7), some 8, none⟩,
  ⟨.binOp .eql 9 (.tmp 6) (.tmp 8) 9, some 9, none⟩,
  ⟨.assign (.tmp 9), some 4, none⟩])
 .ret))
theorem fc_bytes_Equal : FnC Try.prog 11 10 [.tmp 4] c_bytes_Equal := ⟨by kernel_rfl, Try.f11, _, Try.func11, rfl, rfl, rfl, by kernel_rfl⟩
/-- craquelure/name.Pack -/
def c_name_Pack : AC := (.seq (.region [⟨.assign (.const (Value.slice none 0 0)), some 2, none⟩])
 (.seq (.seq (.region [⟨.move (.tmp 0), some 4, none⟩,
  ⟨.call (Go.Call.mk (.value (.func 9)) #[.tmp 4] #[9]), some 5, none⟩,
  ⟨.unOp .not 4 (.tmp 5), some 6, none⟩])
 (.cond (.tmp 6) (.seq (.region [⟨.assign (.const (Value.slice none 0 0)), some 2, none⟩])
 .ret)
 .skip))
 (.seq (.region [⟨.alloc 59, some 3, none⟩])
 (.seq (.region [⟨.move (.tmp 0), some 7, none⟩,
  ⟨.call (Go.Call.mk (.builtin .len) #[.tmp 7] #[9]), some 8, none⟩,
  ⟨.convert 3 5 (.tmp 8), some 9, none⟩,
  ⟨.indexAddr 59 (.tmp 3) (.const (Value.int .i64 0)), some 10, none⟩,
  ⟨.store 5 (.tmp 10) (.tmp 9), none, none⟩])
 (.seq (.region [⟨.slice 59 (.tmp 3) (some (.const (Value.int .i64 1))) none none, some 11, none⟩,
  ⟨.move (.tmp 0), some 12, none⟩,
  ⟨.call (Go.Call.mk (.builtin .copy) #[.tmp 11, .tmp 12] #[25, 9]), some 13, none⟩])
 (.seq (.region [⟨.slice 59 (.tmp 3) none none none, some 14, none⟩,
  ⟨.assign (.tmp 14), some 2, none⟩])
 .ret))))))
theorem fc_name_Pack : FnC Try.prog 12 15 [.tmp 2] c_name_Pack := ⟨by kernel_rfl, Try.f12, _, Try.func12, rfl, rfl, rfl, by kernel_rfl⟩
/-- craquelure/craquelureref03.Pack -/
def c_ref03_Pack : AC := (.seq (.region [⟨.assign (.const (Value.slice none 0 0)), some 2, none⟩])
 (.seq (.seq (.region [⟨.move (.tmp 0), some 5, none⟩,
  ⟨.call (Go.Call.mk (.value (.func 10)) #[.tmp 5] #[9]), some 6, none⟩,
  ⟨.unOp .not 4 (.tmp 6), some 7, none⟩])
 (.cond (.tmp 7) (.seq (.region [⟨.assign (.const (Value.slice none 0 0)), some 2, none⟩])
 .ret)
 .skip))
 (.seq (.region [⟨.move (.tmp 0), some 8, none⟩,
  ⟨.call (Go.Call.mk (.builtin .len) #[.tmp 8] #[9]), some 9, none⟩,
  ⟨.convert 3 5 (.tmp 9), some 10, none⟩,
  ⟨.buildSlice 25 1 #[(0, .tmp 10)], some 11, none⟩,
  ⟨.assign (.tmp 11), some 3, none⟩])
 (.seq (.seq (.region [⟨.assign (.const (Value.int .i64 0)), some 4, none⟩])
 (.block 0 (.loop (.seq (.seq (.region [⟨.move (.tmp 4), some 12, none⟩,
  ⟨.binOp .lss 3 (.tmp 12) (.const (Value.int .i64 13)) 3, some 13, none⟩])
 (.cond (.tmp 13) .skip
 (.exit 0)))
 (.seq (.block 1 (.seq (.region [⟨.move (.tmp 4), some 16, none⟩,
  ⟨.move (.tmp 0), some 17, none⟩,
  ⟨.call (Go.Call.mk (.builtin .len) #[.tmp 17] #[9]), some 18, none⟩,
  ⟨.binOp .lss 3 (.tmp 16) (.tmp 18) 3, some 19, none⟩])
 (.cond (.tmp 19) (.region [⟨.move (.tmp 3), some 20, none⟩,
  ⟨.move (.tmp 0), some 21, none⟩,
  ⟨.move (.tmp 4), some 22, none⟩,
  ⟨.index 9 (.tmp 21) (.tmp 22), some 23, none⟩,
  ⟨.buildSlice 25 1 #[(0, .tmp 23)], some 24, none⟩,
  ⟨.call (Go.Call.mk (.builtin .append) #[.tmp 20, .tmp 24] #[25, 25]), some 25, none⟩,
  ⟨.assign (.tmp 25), some 3, none⟩])
 (.region [⟨.move (.tmp 3), some 26, none⟩,
  ⟨.buildSlice 25 1 #[(0, .const (Value.int .u8 0))], some 27, none⟩,
  ⟨.call (Go.Call.mk (.builtin .append) #[.tmp 26, .tmp 27] #[25, 25]), some 28, none⟩,
  ⟨.assign (.tmp 28), some 3, none⟩]))))
 (.region [⟨.move (.tmp 4), some 14, none⟩,
  ⟨.binOp .add 3 (.tmp 14) (.const (Value.int .i64 1)) 3, some 15, none⟩,
  ⟨.assign (.tmp 15), some 4, none⟩]))))))
 (.seq (.region [⟨.move (.tmp 3), some 29, none⟩,
  ⟨.assign (.tmp 29), some 2, none⟩])
 .ret)))))
theorem fc_ref03_Pack : FnC Try.prog 13 30 [.tmp 2] c_ref03_Pack := ⟨by kernel_rfl, Try.f13, _, Try.func13, rfl, rfl, rfl, by kernel_rfl⟩
/-- craquelure/name.Unpack -/
def c_name_Unpack : AC := (.seq (.region [⟨.assign (.const (Value.string (ByteArray.mk #[]))), some 2, none⟩,
  ⟨.assign (.const (Value.bool false)), some 3, none⟩])
 (.seq (.seq (.region [⟨.move (.tmp 0), some 5, none⟩,
  ⟨.call (Go.Call.mk (.builtin .len) #[.tmp 5] #[25]), some 6, none⟩,
  ⟨.binOp .neq 3 (.tmp 6) (.const (Value.int .i64 14)) 3, some 7, none⟩,
  ⟨.move (.tmp 7), some 8, none⟩,
  ⟨.move (.tmp 0), some 9, (some (8, false))⟩,
  ⟨.indexAddr 25 (.tmp 9) (.const (Value.int .i64 0)), some 10, (some (8, false))⟩,
  ⟨.load 5 (.tmp 10), some 11, (some (8, false))⟩,
  ⟨.binOp .gtr 5 (.tmp 11) (.const (Value.int .u8 12)) 5, some 12, (some (8, false))⟩,
  ⟨.pick (.tmp 8) (.const (Value.bool true)) (.tmp 12), some 13, none⟩])
 (.cond (.tmp 13) (.seq (.region [⟨.assign (.const (Value.string (ByteArray.mk #[]))), some 2, none⟩,
  ⟨.assign (.const (Value.bool false)), some 3, none⟩])
 .ret)
 .skip))
 (.seq (.region [⟨.move (.tmp 0), some 14, none⟩,
  ⟨.move (.tmp 0), some 15, none⟩,
  ⟨.indexAddr 25 (.tmp 15) (.const (Value.int .i64 0)), some 16, none⟩,
  ⟨.load 5 (.tmp 16), some 17, none⟩,
  ⟨.binOp .add 5 (.const (Value.int .u8 1)) (.tmp 17) 5, some 18, none⟩,
  ⟨.slice 25 (.tmp 14) (some (.const (Value.int .i64 1))) (some (.tmp 18)) none, some 19, none⟩,
  ⟨.convert 25 9 (.tmp 19), some 20, none⟩,
  ⟨.assign (.tmp 20), some 4, none⟩])
 (.seq (.seq (.region [⟨.move (.tmp 4), some 21, none⟩,
  ⟨.call (Go.Call.mk (.value (.func 9)) #[.tmp 21] #[9]), some 22, none⟩,
  ⟨.unOp .not 4 (.tmp 22), some 23, none⟩,
  ⟨.move (.tmp 23), some 24, none⟩,
  ⟨.move (.tmp 4), some 25, (some (24, false))⟩,
  ⟨.call (Go.Call.mk (.value (.func 12)) #[.tmp 25] #[9]), some 26, (some (24, false))⟩,
  ⟨.move (.tmp 0), some 27, (some (24, false))⟩,
  ⟨.call (Go.Call.mk (.value (.func 11)) #[.tmp 26, .tmp 27] #[25, 25]), some 28, (some (24, false))⟩,
  ⟨.unOp .not 4 (.tmp 28), some 29, (some (24, false))⟩,
  ⟨.pick (.tmp 24) (.const (Value.bool true)) (.tmp 29), some 30, none⟩])
 (.cond (.tmp 30) (.seq (.region [⟨.assign (.const (Value.string (ByteArray.mk #[]))), some 2, none⟩,
  ⟨.assign (.const (Value.bool false)), some 3, none⟩])
 .ret)
 .skip))
 (.seq (.region [⟨.move (.tmp 4), some 31, none⟩,
  ⟨.assign (.tmp 31), some 2, none⟩,
  ⟨.assign (.const (Value.bool true)), some 3, none⟩])
 .ret)))))
theorem fc_name_Unpack : FnC Try.prog 14 32 [.tmp 2, .tmp 3] c_name_Unpack := ⟨by kernel_rfl, Try.f14, _, Try.func14, rfl, rfl, rfl, by kernel_rfl⟩
/-- craquelure/craquelureref03.Unpack -/
def c_ref03_Unpack : AC := (.seq (.region [⟨.assign (.const (Value.string (ByteArray.mk #[]))), some 2, none⟩,
  ⟨.assign (.const (Value.bool false)), some 3, none⟩])
 (.seq (.seq (.region [⟨.move (.tmp 0), some 7, none⟩,
  ⟨.call (Go.Call.mk (.builtin .len) #[.tmp 7] #[25]), some 8, none⟩,
  ⟨.binOp .neq 3 (.tmp 8) (.const (Value.int .i64 14)) 3, some 9, none⟩,
  ⟨.move (.tmp 9), some 10, none⟩,
  ⟨.move (.tmp 0), some 11, (some (10, false))⟩,
  ⟨.indexAddr 25 (.tmp 11) (.const (Value.int .i64 0)), some 12, (some (10, false))⟩,
  ⟨.load 5 (.tmp 12), some 13, (some (10, false))⟩,
  ⟨.convert 5 3 (.tmp 13), some 14, (some (10, false))⟩,
  ⟨.binOp .gtr 3 (.tmp 14) (.const (Value.int .i64 12)) 3, some 15, (some (10, false))⟩,
  ⟨.pick (.tmp 10) (.const (Value.bool true)) (.tmp 15), some 16, none⟩])
 (.cond (.tmp 16) (.seq (.region [⟨.assign (.const (Value.string (ByteArray.mk #[]))), some 2, none⟩,
  ⟨.assign (.const (Value.bool false)), some 3, none⟩])
 .ret)
 .skip))
 (.seq (.region [⟨.move (.tmp 0), some 17, none⟩,
  ⟨.move (.tmp 0), some 18, none⟩,
  ⟨.indexAddr 25 (.tmp 18) (.const (Value.int .i64 0)), some 19, none⟩,
  ⟨.load 5 (.tmp 19), some 20, none⟩,
  ⟨.convert 5 3 (.tmp 20), some 21, none⟩,
  ⟨.binOp .add 3 (.const (Value.int .i64 1)) (.tmp 21) 3, some 22, none⟩,
  ⟨.slice 25 (.tmp 17) (some (.const (Value.int .i64 1))) (some (.tmp 22)) none, some 23, none⟩,
  ⟨.convert 25 9 (.tmp 23), some 24, none⟩,
  ⟨.assign (.tmp 24), some 4, none⟩])
 (.seq (.region [⟨.move (.tmp 4), some 25, none⟩,
  ⟨.call (Go.Call.mk (.value (.func 13)) #[.tmp 25] #[9]), some 26, none⟩,
  ⟨.assign (.tmp 26), some 5, none⟩])
 (.seq (.seq (.region [⟨.move (.tmp 5), some 27, none⟩,
  ⟨.call (Go.Call.mk (.builtin .len) #[.tmp 27] #[25]), some 28, none⟩,
  ⟨.binOp .neq 3 (.tmp 28) (.const (Value.int .i64 14)) 3, some 29, none⟩])
 (.cond (.tmp 29) (.seq (.region [⟨.assign (.const (Value.string (ByteArray.mk #[]))), some 2, none⟩,
  ⟨.assign (.const (Value.bool false)), some 3, none⟩])
 .ret)
 .skip))
 (.seq (.seq (.region [⟨.assign (.const (Value.int .i64 0)), some 6, none⟩])
 (.block 0 (.loop (.seq (.seq (.region [⟨.move (.tmp 6), some 30, none⟩,
  ⟨.binOp .lss 3 (.tmp 30) (.const (Value.int .i64 14)) 3, some 31, none⟩])
 (.cond (.tmp 31) .skip
 (.exit 0)))
 (.seq (.block 1 (.seq (.draw [⟨.move (.tmp 5), some 34, none⟩,
  ⟨.move (.tmp 6), some 35, none⟩,
  ⟨.indexAddr 25 (.tmp 34) (.tmp 35), some 36, none⟩,
  ⟨.load 5 (.tmp 36), some 37, none⟩,
  ⟨.move (.tmp 0), some 38, none⟩,
  ⟨.move (.tmp 6), some 39, none⟩,
  ⟨.indexAddr 25 (.tmp 38) (.tmp 39), some 40, none⟩,
  ⟨.load 5 (.tmp 40), some 41, none⟩,
  ⟨.binOp .neq 5 (.tmp 37) (.tmp 41) 5, some 42, none⟩] [0, 0, 3, 7, 0, 0, 48, 112, 255] [false, false, false, true, false, false, false, true, false])
 (.cond (.tmp 42) (.seq (.region [⟨.assign (.const (Value.string (ByteArray.mk #[]))), some 2, none⟩,
  ⟨.assign (.const (Value.bool false)), some 3, none⟩])
 .ret)
 .skip)))
 (.region [⟨.move (.tmp 6), some 32, none⟩,
  ⟨.binOp .add 3 (.tmp 32) (.const (Value.int .i64 1)) 3, some 33, none⟩,
  ⟨.assign (.tmp 33), some 6, none⟩]))))))
 (.seq (.region [⟨.move (.tmp 4), some 43, none⟩,
  ⟨.assign (.tmp 43), some 2, none⟩,
  ⟨.assign (.const (Value.bool true)), some 3, none⟩])
 .ret)))))))
theorem fc_ref03_Unpack : FnC Try.prog 15 44 [.tmp 2, .tmp 3] c_ref03_Unpack := ⟨by kernel_rfl, Try.f15, _, Try.func15, rfl, rfl, rfl, by kernel_rfl⟩
/-- craquelure/name.Sort -/
def c_name_Sort : AC := (.seq (.region [⟨.assign (.const (Value.slice none 0 0)), some 2, none⟩])
 (.seq (.region [⟨.move (.tmp 0), some 4, none⟩,
  ⟨.call (Go.Call.mk (.value (.func 36)) #[.tmp 4] #[30]), some 5, none⟩,
  ⟨.assign (.tmp 5), some 3, none⟩])
 (.seq (.region [⟨.move (.tmp 3), some 6, none⟩,
  ⟨.call (Go.Call.mk (.value (.func 37)) #[.tmp 6] #[30]), some 7, none⟩])
 (.seq (.region [⟨.move (.tmp 3), some 8, none⟩,
  ⟨.call (Go.Call.mk (.value (.func 38)) #[.tmp 8] #[30]), some 9, none⟩,
  ⟨.assign (.tmp 9), some 2, none⟩])
 .ret))))
theorem fc_name_Sort : FnC Try.prog 16 10 [.tmp 2] c_name_Sort := ⟨by kernel_rfl, Try.f16, _, Try.func16, rfl, rfl, rfl, by kernel_rfl⟩
/-- slices.Equal[[]string,string] -/
def c_slices_Equal_string_string : AC := (.seq (.region [⟨.assign (.const (Value.bool false)), some 4, none⟩])
 (.seq (.seq (.region [⟨.move (.tmp 0), some 6, none⟩,
  ⟨.call (Go.Call.mk (.builtin .len) #[.tmp 6] #[30]), some 7, none⟩,
  ⟨.move (.tmp 1), some 8, none⟩,
  ⟨.call (Go.Call.mk (.builtin .len) #[.tmp 8] #[30]), some 9, none⟩,
  ⟨.binOp .neq 3 (.tmp 7) (.tmp 9) 3, some 10, none⟩])
 (.cond (.tmp 10) (.seq (.region [⟨.assign (.const (Value.bool false)), some 4, none⟩])
 .ret)
 .skip))
 (.seq (.seq (.region [⟨.move (.tmp 0), some 11, none⟩,
  ⟨.call (Go.Call.mk (.builtin .len) #[.tmp 11] #[30]), some 12, none⟩,
  ⟨.move (.const (Value.int .i64 0)), some 13, none⟩])
 (.block 0 (.loop (.seq (.region [⟨.binOp .lss 3 (.tmp 13) (.tmp 12) 3, some 14, none⟩])
 (.seq (.cond (.tmp 14) .skip
 (.exit 0))
 (.seq (.block 1 (.seq (.region [⟨.move (.tmp 13), some 15, none⟩,
  ⟨.assign (.tmp 15), some 5, none⟩])
 (.seq (.draw [⟨.move (.tmp 0), some 16, none⟩,
  ⟨.move (.tmp 5), some 17, none⟩,
  ⟨.indexAddr 30 (.tmp 16) (.tmp 17), some 18, none⟩,
  ⟨.load 9 (.tmp 18), some 19, none⟩,
  ⟨.move (.tmp 1), some 20, none⟩,
  ⟨.move (.tmp 5), some 21, none⟩,
  ⟨.indexAddr 30 (.tmp 20) (.tmp 21), some 22, none⟩,
  ⟨.load 9 (.tmp 22), some 23, none⟩,
  ⟨.binOp .neq 9 (.tmp 19) (.tmp 23) 9, some 24, none⟩] [0, 0, 3, 7, 0, 0, 48, 112, 255] [false, false, false, true, false, false, false, true, false])
 (.cond (.tmp 24) (.seq (.region [⟨.assign (.const (Value.bool false)), some 4, none⟩])
 .ret)
 .skip))))
 (.region [⟨.binOp .add 3 (.tmp 13) (.const (Value.int .i64 1)) 3, some 25, none⟩,
  ⟨.move (.tmp 25), some 13, none⟩])))))))
 (.seq (.region [⟨.assign (.const (Value.bool true)), some 4, none⟩])
 .ret))))
theorem fc_slices_Equal_string_string : FnC Try.prog 17 26 [.tmp 4] c_slices_Equal_string_string := ⟨by kernel_rfl, Try.f17, _, Try.func17, rfl, rfl, rfl, by kernel_rfl⟩
/-- craquelure/craquelureref03.Sort -/
def c_ref03_Sort : AC := (.seq (.region [⟨.assign (.const (Value.slice none 0 0)), some 2, none⟩])
 (.seq (.region [⟨.buildSlice 30 0 #[], some 7, none⟩,
  ⟨.assign (.tmp 7), some 3, none⟩])
 (.seq (.seq (.region [⟨.assign (.const (Value.int .i64 0)), some 4, none⟩])
 (.block 0 (.loop (.seq (.seq (.region [⟨.move (.tmp 4), some 8, none⟩,
  ⟨.move (.tmp 0), some 9, none⟩,
  ⟨.call (Go.Call.mk (.builtin .len) #[.tmp 9] #[30]), some 10, none⟩,
  ⟨.binOp .lss 3 (.tmp 8) (.tmp 10) 3, some 11, none⟩])
 (.cond (.tmp 11) .skip
 (.exit 0)))
 (.seq (.block 1 (.seq (.region [⟨.assign (.const (Value.int .i64 0)), some 5, none⟩])
 (.seq (.block 2 (.loop (.seq (.seq (.draw [⟨.move (.tmp 5), some 14, none⟩,
  ⟨.move (.tmp 3), some 15, none⟩,
  ⟨.call (Go.Call.mk (.builtin .len) #[.tmp 15] #[30]), some 16, none⟩,
  ⟨.binOp .lss 3 (.tmp 14) (.tmp 16) 3, some 17, none⟩,
  ⟨.move (.tmp 17), some 18, none⟩,
  ⟨.move (.tmp 3), some 19, (some (18, true))⟩,
  ⟨.move (.tmp 5), some 20, (some (18, true))⟩,
  ⟨.indexAddr 30 (.tmp 19) (.tmp 20), some 21, (some (18, true))⟩,
  ⟨.load 9 (.tmp 21), some 22, (some (18, true))⟩,
  ⟨.move (.tmp 0), some 23, (some (18, true))⟩,
  ⟨.move (.tmp 4), some 24, (some (18, true))⟩,
  ⟨.indexAddr 30 (.tmp 23) (.tmp 24), some 25, (some (18, true))⟩,
  ⟨.load 9 (.tmp 25), some 26, (some (18, true))⟩,
  ⟨.binOp .lss 9 (.tmp 22) (.tmp 26) 9, some 27, (some (18, true))⟩,
  ⟨.pick (.tmp 18) (.tmp 27) (.const (Value.bool false)), some 28, none⟩] [0, 0, 2, 7, 15, 31, 31, 127, 255, 31, 31, 1567, 3615, 8191, 16383] [false, false, false, false, false, false, false, false, true, false, false, false, true, false, false])
 (.cond (.tmp 28) .skip
 (.exit 2)))
 (.block 3 (.region [⟨.move (.tmp 5), some 29, none⟩,
  ⟨.binOp .add 3 (.tmp 29) (.const (Value.int .i64 1)) 3, some 30, none⟩,
  ⟨.assign (.tmp 30), some 5, none⟩])))))
 (.seq (.seq (.draw [⟨.move (.tmp 5), some 31, none⟩,
  ⟨.move (.tmp 3), some 32, none⟩,
  ⟨.call (Go.Call.mk (.builtin .len) #[.tmp 32] #[30]), some 33, none⟩,
  ⟨.binOp .lss 3 (.tmp 31) (.tmp 33) 3, some 34, none⟩,
  ⟨.move (.tmp 34), some 35, none⟩,
  ⟨.move (.tmp 3), some 36, (some (35, true))⟩,
  ⟨.move (.tmp 5), some 37, (some (35, true))⟩,
  ⟨.indexAddr 30 (.tmp 36) (.tmp 37), some 38, (some (35, true))⟩,
  ⟨.load 9 (.tmp 38), some 39, (some (35, true))⟩,
  ⟨.move (.tmp 0), some 40, (some (35, true))⟩,
  ⟨.move (.tmp 4), some 41, (some (35, true))⟩,
  ⟨.indexAddr 30 (.tmp 40) (.tmp 41), some 42, (some (35, true))⟩,
  ⟨.load 9 (.tmp 42), some 43, (some (35, true))⟩,
  ⟨.binOp .eql 9 (.tmp 39) (.tmp 43) 9, some 44, (some (35, true))⟩,
  ⟨.pick (.tmp 35) (.tmp 44) (.const (Value.bool false)), some 45, none⟩] [0, 0, 2, 7, 15, 31, 31, 127, 255, 31, 31, 1567, 3615, 8191, 16383] [false, false, false, false, false, false, false, false, true, false, false, false, true, false, false])
 (.cond (.tmp 45) (.exit 1)
 .skip))
 (.seq (.region [⟨.move (.tmp 3), some 46, none⟩,
  ⟨.buildSlice 30 1 #[(0, .const (Value.string (ByteArray.mk #[])))], some 47, none⟩,
  ⟨.call (Go.Call.mk (.builtin .append) #[.tmp 46, .tmp 47] #[30, 30]), some 48, none⟩,
  ⟨.assign (.tmp 48), some 3, none⟩])
 (.seq (.seq (.region [⟨.move (.tmp 3), some 49, none⟩,
  ⟨.call (Go.Call.mk (.builtin .len) #[.tmp 49] #[30]), some 50, none⟩,
  ⟨.binOp .sub 3 (.tmp 50) (.const (Value.int .i64 1)) 3, some 51, none⟩,
  ⟨.assign (.tmp 51), some 6, none⟩])
 (.block 4 (.loop (.seq (.seq (.region [⟨.move (.tmp 6), some 52, none⟩,
  ⟨.move (.tmp 5), some 53, none⟩,
  ⟨.binOp .gtr 3 (.tmp 52) (.tmp 53) 3, some 54, none⟩])
 (.cond (.tmp 54) .skip
 (.exit 4)))
 (.seq (.block 5 (.region [⟨.move (.tmp 3), some 57, none⟩,
  ⟨.move (.tmp 6), some 58, none⟩,
  ⟨.move (.tmp 3), some 59, none⟩,
  ⟨.move (.tmp 6), some 60, none⟩,
  ⟨.binOp .sub 3 (.tmp 60) (.const (Value.int .i64 1)) 3, some 61, none⟩,
  ⟨.indexAddr 30 (.tmp 59) (.tmp 61), some 62, none⟩,
  ⟨.load 9 (.tmp 62), some 63, none⟩,
  ⟨.indexAddr 30 (.tmp 57) (.tmp 58), some 64, none⟩,
  ⟨.store 9 (.tmp 64) (.tmp 63), none, none⟩]))
 (.region [⟨.move (.tmp 6), some 55, none⟩,
  ⟨.binOp .sub 3 (.tmp 55) (.const (Value.int .i64 1)) 3, some 56, none⟩,
  ⟨.assign (.tmp 56), some 6, none⟩]))))))
 (.region [⟨.move (.tmp 3), some 65, none⟩,
  ⟨.move (.tmp 5), some 66, none⟩,
  ⟨.move (.tmp 0), some 67, none⟩,
  ⟨.move (.tmp 4), some 68, none⟩,
  ⟨.indexAddr 30 (.tmp 67) (.tmp 68), some 69, none⟩,
  ⟨.load 9 (.tmp 69), some 70, none⟩,
  ⟨.indexAddr 30 (.tmp 65) (.tmp 66), some 71, none⟩,
  ⟨.store 9 (.tmp 71) (.tmp 70), none, none⟩])))))))
 (.region [⟨.move (.tmp 4), some 12, none⟩,
  ⟨.binOp .add 3 (.tmp 12) (.const (Value.int .i64 1)) 3, some 13, none⟩,
  ⟨.assign (.tmp 13), some 4, none⟩]))))))
 (.seq (.region [⟨.move (.tmp 3), some 72, none⟩,
  ⟨.assign (.tmp 72), some 2, none⟩])
 .ret))))
theorem fc_ref03_Sort : FnC Try.prog 18 73 [.tmp 2] c_ref03_Sort := ⟨by kernel_rfl, Try.f18, _, Try.func18, rfl, rfl, rfl, by kernel_rfl⟩
/-- slices.IsSorted[[]string,string] -/
def c_slices_IsSorted_string_string : AC := (.seq (.region [⟨.assign (.const (Value.bool false)), some 2, none⟩])
 (.seq (.seq (.region [⟨.move (.tmp 0), some 4, none⟩,
  ⟨.call (Go.Call.mk (.builtin .len) #[.tmp 4] #[30]), some 5, none⟩,
  ⟨.binOp .sub 3 (.tmp 5) (.const (Value.int .i64 1)) 3, some 6, none⟩,
  ⟨.assign (.tmp 6), some 3, none⟩])
 (.block 0 (.loop (.seq (.seq (.region [⟨.move (.tmp 3), some 7, none⟩,
  ⟨.binOp .gtr 3 (.tmp 7) (.const (Value.int .i64 0)) 3, some 8, none⟩])
 (.cond (.tmp 8) .skip
 (.exit 0)))
 (.seq (.block 1 (.seq (.draw [⟨.move (.tmp 0), some 11, none⟩,
  ⟨.move (.tmp 3), some 12, none⟩,
  ⟨.indexAddr 30 (.tmp 11) (.tmp 12), some 13, none⟩,
  ⟨.load 9 (.tmp 13), some 14, none⟩,
  ⟨.move (.tmp 0), some 15, none⟩,
  ⟨.move (.tmp 3), some 16, none⟩,
  ⟨.binOp .sub 3 (.tmp 16) (.const (Value.int .i64 1)) 3, some 17, none⟩,
  ⟨.indexAddr 30 (.tmp 15) (.tmp 17), some 18, none⟩,
  ⟨.load 9 (.tmp 18), some 19, none⟩,
  ⟨.call (Go.Call.mk (.value (.func 39)) #[.tmp 14, .tmp 19] #[9, 9]), some 20, none⟩] [0, 0, 3, 7, 0, 0, 32, 112, 240, 511] [false, false, false, true, false, false, false, false, true, true])
 (.cond (.tmp 20) (.seq (.region [⟨.assign (.const (Value.bool false)), some 2, none⟩])
 .ret)
 .skip)))
 (.region [⟨.move (.tmp 3), some 9, none⟩,
  ⟨.binOp .sub 3 (.tmp 9) (.const (Value.int .i64 1)) 3, some 10, none⟩,
  ⟨.assign (.tmp 10), some 3, none⟩]))))))
 (.seq (.region [⟨.assign (.const (Value.bool true)), some 2, none⟩])
 .ret)))
theorem fc_slices_IsSorted_string_string : FnC Try.prog 19 21 [.tmp 2] c_slices_IsSorted_string_string := ⟨by kernel_rfl, Try.f19, _, Try.func19, rfl, rfl, rfl, by kernel_rfl⟩
/-- craquelure/name.Right$1 -/
def c_name_Right_1 : AC := (.seq (.region [⟨.assign (.const (Value.bool false)), some 2, none⟩])
 (.seq (.region [⟨.move (.tmp 0), some 3, none⟩,
  ⟨.call (Go.Call.mk (.value (.func 34)) #[.tmp 3] #[21]), some 4, none⟩,
  ⟨.unOp .not 4 (.tmp 4), some 5, none⟩,
  ⟨.assign (.tmp 5), some 2, none⟩])
 .ret))
theorem fc_name_Right_1 : FnC Try.prog 33 6 [.tmp 2] c_name_Right_1 := ⟨by kernel_rfl, Try.f33, _, Try.func33, rfl, rfl, rfl, by kernel_rfl⟩
/-- craquelure/name.letter -/
def c_name_letter : AC := (.seq (.region [⟨.assign (.const (Value.bool false)), some 2, none⟩])
 (.seq (.block 0 (.seq (.seq (.region [⟨.move (.tmp 0), some 4, none⟩,
  ⟨.binOp .geq 21 (.tmp 4) (.const (Value.int .i32 97)) 21, some 5, none⟩,
  ⟨.move (.tmp 5), some 6, none⟩,
  ⟨.move (.tmp 0), some 7, (some (6, true))⟩,
  ⟨.binOp .leq 21 (.tmp 7) (.const (Value.int .i32 122)) 21, some 8, (some (6, true))⟩,
  ⟨.pick (.tmp 6) (.tmp 8) (.const (Value.bool false)), some 9, none⟩,
  ⟨.assign (.tmp 9), some 3, none⟩])
 (.cond (.tmp 3) .skip
 (.region [⟨.move (.tmp 0), some 10, none⟩,
  ⟨.binOp .geq 21 (.tmp 10) (.const (Value.int .i32 48)) 21, some 11, none⟩,
  ⟨.move (.tmp 11), some 12, none⟩,
  ⟨.move (.tmp 0), some 13, (some (12, true))⟩,
  ⟨.binOp .leq 21 (.tmp 13) (.const (Value.int .i32 57)) 21, some 14, (some (12, true))⟩,
  ⟨.pick (.tmp 12) (.tmp 14) (.const (Value.bool false)), some 15, none⟩,
  ⟨.assign (.tmp 15), some 3, none⟩])))
 (.cond (.tmp 3) (.seq (.region [⟨.assign (.const (Value.bool true)), some 2, none⟩])
 .ret)
 .skip)))
 (.seq (.region [⟨.move (.tmp 0), some 16, none⟩,
  ⟨.binOp .eql 21 (.tmp 16) (.const (Value.int .i32 46)) 21, some 17, none⟩,
  ⟨.move (.tmp 17), some 18, none⟩,
  ⟨.move (.tmp 0), some 19, (some (18, false))⟩,
  ⟨.binOp .eql 21 (.tmp 19) (.const (Value.int .i32 95)) 21, some 20, (some (18, false))⟩,
  ⟨.pick (.tmp 18) (.const (Value.bool true)) (.tmp 20), some 21, none⟩,
  ⟨.move (.tmp 21), some 22, none⟩,
  ⟨.move (.tmp 0), some 23, (some (22, false))⟩,
  ⟨.binOp .eql 21 (.tmp 23) (.const (Value.int .i32 45)) 21, some 24, (some (22, false))⟩,
  ⟨.pick (.tmp 22) (.const (Value.bool true)) (.tmp 24), some 25, none⟩,
  ⟨.assign (.tmp 25), some 2, none⟩])
 .ret)))
theorem fc_name_letter : FnC Try.prog 34 26 [.tmp 2] c_name_letter := ⟨by kernel_rfl, Try.f34, _, Try.func34, rfl, rfl, rfl, by kernel_rfl⟩
/-- craquelure/craquelureref03.letter -/
def c_ref03_letter : AC := (.seq (.region [⟨.assign (.const (Value.bool false)), some 2, none⟩])
 (.seq (.region [⟨.move (.tmp 0), some 3, none⟩,
  ⟨.binOp .geq 5 (.tmp 3) (.const (Value.int .u8 97)) 5, some 4, none⟩,
  ⟨.move (.tmp 4), some 5, none⟩,
  ⟨.move (.tmp 0), some 6, (some (5, true))⟩,
  ⟨.binOp .leq 5 (.tmp 6) (.const (Value.int .u8 122)) 5, some 7, (some (5, true))⟩,
  ⟨.pick (.tmp 5) (.tmp 7) (.const (Value.bool false)), some 8, none⟩,
  ⟨.move (.tmp 8), some 9, none⟩,
  ⟨.move (.tmp 0), some 10, (some (9, false))⟩,
  ⟨.binOp .geq 5 (.tmp 10) (.const (Value.int .u8 48)) 5, some 11, (some (9, false))⟩,
  ⟨.move (.tmp 11), some 12, (some (9, false))⟩,
  ⟨.move (.tmp 0), some 13, (some (12, true))⟩,
  ⟨.binOp .leq 5 (.tmp 13) (.const (Value.int .u8 57)) 5, some 14, (some (12, true))⟩,
  ⟨.pick (.tmp 12) (.tmp 14) (.const (Value.bool false)), some 15, (some (9, false))⟩,
  ⟨.pick (.tmp 9) (.const (Value.bool true)) (.tmp 15), some 16, none⟩,
  ⟨.move (.tmp 16), some 17, none⟩,
  ⟨.move (.tmp 0), some 18, (some (17, false))⟩,
  ⟨.binOp .eql 5 (.tmp 18) (.const (Value.int .u8 46)) 5, some 19, (some (17, false))⟩,
  ⟨.pick (.tmp 17) (.const (Value.bool true)) (.tmp 19), some 20, none⟩,
  ⟨.move (.tmp 20), some 21, none⟩,
  ⟨.move (.tmp 0), some 22, (some (21, false))⟩,
  ⟨.binOp .eql 5 (.tmp 22) (.const (Value.int .u8 95)) 5, some 23, (some (21, false))⟩,
  ⟨.pick (.tmp 21) (.const (Value.bool true)) (.tmp 23), some 24, none⟩,
  ⟨.move (.tmp 24), some 25, none⟩,
  ⟨.move (.tmp 0), some 26, (some (25, false))⟩,
  ⟨.binOp .eql 5 (.tmp 26) (.const (Value.int .u8 45)) 5, some 27, (some (25, false))⟩,
  ⟨.pick (.tmp 25) (.const (Value.bool true)) (.tmp 27), some 28, none⟩,
  ⟨.assign (.tmp 28), some 2, none⟩])
 .ret))
theorem fc_ref03_letter : FnC Try.prog 35 29 [.tmp 2] c_ref03_letter := ⟨by kernel_rfl, Try.f35, _, Try.func35, rfl, rfl, rfl, by kernel_rfl⟩
/-- slices.Clone[[]string,string] -/
def c_slices_Clone_string_string : AC := (.seq (.region [⟨.assign (.const (Value.slice none 0 0)), some 2, none⟩])
 (.seq (.seq (.region [⟨.move (.tmp 0), some 3, none⟩,
  ⟨.binOp .eql 30 (.tmp 3) (.const (Value.slice none 0 0)) 30, some 4, none⟩])
 (.cond (.tmp 4) (.seq (.region [⟨.assign (.const (Value.slice none 0 0)), some 2, none⟩])
 .ret)
 .skip))
 (.seq (.region [⟨.buildSlice 30 0 #[], some 5, none⟩,
  ⟨.move (.tmp 0), some 6, none⟩,
  ⟨.call (Go.Call.mk (.builtin .append) #[.tmp 5, .tmp 6] #[30, 30]), some 7, none⟩,
  ⟨.assign (.tmp 7), some 2, none⟩])
 .ret)))
theorem fc_slices_Clone_string_string : FnC Try.prog 36 8 [.tmp 2] c_slices_Clone_string_string := ⟨by kernel_rfl, Try.f36, _, Try.func36, rfl, rfl, rfl, by kernel_rfl⟩
/-- cmp.Less[string] -/
def c_cmp_Less_string : AC := (.seq (.region [⟨.assign (.const (Value.bool false)), some 4, none⟩])
 (.seq (.region [⟨.move (.tmp 0), some 5, none⟩,
  ⟨.call (Go.Call.mk (.value (.func 57)) #[.tmp 5] #[9]), some 6, none⟩,
  ⟨.move (.tmp 6), some 7, none⟩,
  ⟨.move (.tmp 1), some 8, (some (7, true))⟩,
  ⟨.call (Go.Call.mk (.value (.func 57)) #[.tmp 8] #[9]), some 9, (some (7, true))⟩,
  ⟨.unOp .not 4 (.tmp 9), some 10, (some (7, true))⟩,
  ⟨.pick (.tmp 7) (.tmp 10) (.const (Value.bool false)), some 11, none⟩,
  ⟨.move (.tmp 11), some 12, none⟩,
  ⟨.move (.tmp 0), some 13, (some (12, false))⟩,
  ⟨.move (.tmp 1), some 14, (some (12, false))⟩,
  ⟨.binOp .lss 9 (.tmp 13) (.tmp 14) 9, some 15, (some (12, false))⟩,
  ⟨.pick (.tmp 12) (.const (Value.bool true)) (.tmp 15), some 16, none⟩,
  ⟨.assign (.tmp 16), some 4, none⟩])
 .ret))
theorem fc_cmp_Less_string : FnC Try.prog 39 17 [.tmp 4] c_cmp_Less_string := ⟨by kernel_rfl, Try.f39, _, Try.func39, rfl, rfl, rfl, by kernel_rfl⟩
end Go.Proofs.Ytlgikchfddhocaa.AL

