/- What any node of any stack should say of copies, and which say otherwise, is what the document says: part 34 of 45. -/
import Derived.Test.YtlgikchfddhocaaChecked
import Derived.Test.YtlgikchfddhocaaA33
set_option linter.all false
/- AL: the functions of this seat's translation in AL's short form, written by gencode.py out of Lean's own print of them; each with the fact that it is so. -/
set_option maxRecDepth 100000
namespace Go.Proofs.Ytlgikchfddhocaa.AL
open Go Go.Proofs
/-- craquelure/craquelurelaw16.LowerTells -/
def c_law16_LowerTells : AC := (.seq (.region [⟨.box 41 (.tmp 0), some 3, none⟩,
  ⟨.assign (.const (Value.bool false)), some 6, none⟩])
 (.seq (.seq (.region [⟨.load 41 (.tmp 3), some 17, none⟩,
  ⟨.call (Go.Call.mk (.value (.func 20)) #[.tmp 17, .const (Value.int .i64 24)] #[41, 3]), some 18, none⟩,
  ⟨.unOp .not 4 (.tmp 18), some 19, none⟩,
  ⟨.move (.tmp 19), some 20, none⟩,
  ⟨.move (.tmp 1), some 21, (some (20, false))⟩,
  ⟨.call (Go.Call.mk (.builtin .len) #[.tmp 21] #[42]), some 22, (some (20, false))⟩,
  ⟨.binOp .gtr 3 (.tmp 22) (.const (Value.int .i64 8)) 3, some 23, (some (20, false))⟩,
  ⟨.pick (.tmp 20) (.const (Value.bool true)) (.tmp 23), some 24, none⟩,
  ⟨.move (.tmp 24), some 25, none⟩,
  ⟨.move (.tmp 2), some 26, (some (25, false))⟩,
  ⟨.call (Go.Call.mk (.builtin .len) #[.tmp 26] #[30]), some 27, (some (25, false))⟩,
  ⟨.binOp .gtr 3 (.tmp 27) (.const (Value.int .i64 8)) 3, some 28, (some (25, false))⟩,
  ⟨.pick (.tmp 25) (.const (Value.bool true)) (.tmp 28), some 29, none⟩])
 (.cond (.tmp 29) (.seq (.region [⟨.call (Go.Call.mk (.value (.func 21)) #[] #[]), some 30, none⟩,
  ⟨.assign (.tmp 30), some 6, none⟩])
 .ret)
 .skip))
 (.seq (.seq (.region [⟨.move (.tmp 2), some 31, none⟩,
  ⟨.call (Go.Call.mk (.builtin .len) #[.tmp 31] #[30]), some 32, none⟩,
  ⟨.move (.const (Value.int .i64 0)), some 33, none⟩])
 (.block 0 (.loop (.seq (.region [⟨.binOp .lss 3 (.tmp 33) (.tmp 32) 3, some 34, none⟩])
 (.seq (.cond (.tmp 34) .skip
 (.exit 0))
 (.seq (.block 1 (.seq (.region [⟨.indexAddr 30 (.tmp 31) (.tmp 33), some 35, none⟩,
  ⟨.load 9 (.tmp 35), some 36, none⟩,
  ⟨.assign (.tmp 36), some 8, none⟩])
 (.seq (.region [⟨.load 41 (.tmp 3), some 38, none⟩,
  ⟨.move (.tmp 1), some 39, none⟩,
  ⟨.move (.tmp 8), some 40, none⟩,
  ⟨.call (Go.Call.mk (.value (.func 22)) #[.tmp 38, .tmp 39, .tmp 40] #[41, 42, 9]), some 41, none⟩,
  ⟨.move (.tmp 41), some 37, none⟩,
  ⟨.extract (.tmp 37) 0, some 42, none⟩,
  ⟨.extract (.tmp 37) 1, some 43, none⟩,
  ⟨.assign (.tmp 42), some 9, none⟩,
  ⟨.assign (.tmp 43), some 10, none⟩])
 (.seq (.region [⟨.load 41 (.tmp 3), some 45, none⟩,
  ⟨.move (.tmp 1), some 46, none⟩,
  ⟨.move (.tmp 8), some 47, none⟩,
  ⟨.call (Go.Call.mk (.value (.func 23)) #[.tmp 45, .tmp 46, .tmp 47] #[41, 42, 9]), some 48, none⟩,
  ⟨.move (.tmp 48), some 44, none⟩,
  ⟨.extract (.tmp 44) 0, some 49, none⟩,
  ⟨.extract (.tmp 44) 1, some 50, none⟩,
  ⟨.assign (.tmp 49), some 11, none⟩,
  ⟨.assign (.tmp 50), some 12, none⟩])
 (.seq (.region [⟨.move (.tmp 9), some 51, none⟩,
  ⟨.move (.tmp 11), some 52, none⟩,
  ⟨.binOp .neq 3 (.tmp 51) (.tmp 52) 3, some 53, none⟩,
  ⟨.move (.tmp 53), some 54, none⟩,
  ⟨.move (.tmp 10), some 55, (some (54, false))⟩,
  ⟨.move (.tmp 12), some 56, (some (54, false))⟩,
  ⟨.call (Go.Call.mk (.value (.func 24)) #[.tmp 55, .tmp 56] #[42, 42]), some 57, (some (54, false))⟩,
  ⟨.unOp .not 4 (.tmp 57), some 58, (some (54, false))⟩,
  ⟨.pick (.tmp 54) (.const (Value.bool true)) (.tmp 58), some 59, none⟩])
 (.cond (.tmp 59) (.seq (.region [⟨.assign (.const (Value.bool false)), some 6, none⟩])
 .ret)
 .skip))))))
 (.region [⟨.binOp .add 3 (.tmp 33) (.const (Value.int .i64 1)) 3, some 60, none⟩,
  ⟨.move (.tmp 60), some 33, none⟩])))))))
 (.seq (.region [⟨.load 41 (.tmp 3), some 62, none⟩,
  ⟨.move (.tmp 1), some 63, none⟩,
  ⟨.move (.tmp 2), some 64, none⟩,
  ⟨.call (Go.Call.mk (.value (.func 25)) #[.tmp 62, .tmp 63, .tmp 64] #[41, 42, 30]), some 65, none⟩,
  ⟨.move (.tmp 65), some 61, none⟩,
  ⟨.extract (.tmp 61) 0, some 66, none⟩,
  ⟨.extract (.tmp 61) 1, some 67, none⟩,
  ⟨.assign (.tmp 66), some 13, none⟩,
  ⟨.assign (.tmp 67), some 14, none⟩])
 (.seq (.region [⟨.load 41 (.tmp 3), some 69, none⟩,
  ⟨.move (.tmp 1), some 70, none⟩,
  ⟨.move (.tmp 2), some 71, none⟩,
  ⟨.call (Go.Call.mk (.value (.func 26)) #[.tmp 69, .tmp 70, .tmp 71] #[41, 42, 30]), some 72, none⟩,
  ⟨.move (.tmp 72), some 68, none⟩,
  ⟨.extract (.tmp 68) 0, some 73, none⟩,
  ⟨.extract (.tmp 68) 1, some 74, none⟩,
  ⟨.assign (.tmp 73), some 15, none⟩,
  ⟨.assign (.tmp 74), some 16, none⟩])
 (.seq (.draw [⟨.move (.tmp 13), some 75, none⟩,
  ⟨.move (.tmp 15), some 76, none⟩,
  ⟨.call (Go.Call.mk (.value (.func 24)) #[.tmp 75, .tmp 76] #[42, 42]), some 77, none⟩,
  ⟨.move (.tmp 77), some 78, none⟩,
  ⟨.move (.tmp 14), some 79, (some (78, true))⟩,
  ⟨.move (.tmp 16), some 80, (some (78, true))⟩,
  ⟨.binOp .eql 4 (.tmp 79) (.tmp 80) 4, some 81, (some (78, true))⟩,
  ⟨.pick (.tmp 78) (.tmp 81) (.const (Value.bool false)), some 82, none⟩,
  ⟨.move (.tmp 82), some 83, none⟩,
  ⟨.load 41 (.tmp 3), some 84, (some (83, true))⟩,
  ⟨.call (Go.Call.mk (.value (.func 27)) #[.tmp 84] #[41]), some 85, (some (83, true))⟩,
  ⟨.load 41 (.tmp 3), some 86, (some (83, true))⟩,
  ⟨.call (Go.Call.mk (.value (.func 28)) #[.tmp 86] #[41]), some 87, (some (83, true))⟩,
  ⟨.call (Go.Call.mk (.value (.func 24)) #[.tmp 85, .tmp 87] #[42, 42]), some 88, (some (83, true))⟩,
  ⟨.pick (.tmp 83) (.tmp 88) (.const (Value.bool false)), some 89, none⟩,
  ⟨.move (.tmp 89), some 90, none⟩,
  ⟨.load 41 (.tmp 3), some 91, (some (90, true))⟩,
  ⟨.move (.tmp 1), some 92, (some (90, true))⟩,
  ⟨.call (Go.Call.mk (.value (.func 29)) #[.tmp 91, .tmp 92] #[41, 42]), some 93, (some (90, true))⟩,
  ⟨.load 41 (.tmp 3), some 94, (some (90, true))⟩,
  ⟨.move (.tmp 1), some 95, (some (90, true))⟩,
  ⟨.call (Go.Call.mk (.value (.func 30)) #[.tmp 94, .tmp 95] #[41, 42]), some 96, (some (90, true))⟩,
  ⟨.call (Go.Call.mk (.value (.func 17)) #[.tmp 93, .tmp 96] #[30, 30]), some 97, (some (90, true))⟩,
  ⟨.pick (.tmp 90) (.tmp 97) (.const (Value.bool false)), some 98, none⟩,
  ⟨.move (.tmp 98), some 99, none⟩,
  ⟨.call (Go.Call.mk (.value (.func 21)) #[] #[]), some 100, (some (99, true))⟩,
  ⟨.pick (.tmp 99) (.tmp 100) (.const (Value.bool false)), some 101, none⟩,
  ⟨.assign (.tmp 101), some 6, none⟩] [0, 0, 3, 7, 15, 15, 63, 127, 255, 511, 1023, 511, 4095, 8191, 16383, 32767, 65535, 65535, 262143, 65535, 65535, 2097151, 4194303, 8388607, 16777215, 33554431, 67108863, 134217727] [false, false, true, false, false, false, false, false, false, true, true, true, true, true, false, false, true, false, true, true, false, true, true, false, false, true, false, false])
 .ret))))))
theorem fc_law16_LowerTells : FnC Try.prog 6 102 [.tmp 6] c_law16_LowerTells := ⟨by kernel_rfl, Try.f6, _, Try.func6, rfl, rfl, rfl, by kernel_rfl⟩
/-- craquelure/craquelurelaw16.LowerNames -/
def c_law16_LowerNames : AC := (.seq (.region [⟨.box 41 (.tmp 0), some 3, none⟩,
  ⟨.assign (.const (Value.bool false)), some 6, none⟩])
 (.seq (.seq (.region [⟨.load 41 (.tmp 3), some 14, none⟩,
  ⟨.call (Go.Call.mk (.value (.func 20)) #[.tmp 14, .const (Value.int .i64 24)] #[41, 3]), some 15, none⟩,
  ⟨.unOp .not 4 (.tmp 15), some 16, none⟩,
  ⟨.move (.tmp 16), some 17, none⟩,
  ⟨.move (.tmp 1), some 18, (some (17, false))⟩,
  ⟨.call (Go.Call.mk (.builtin .len) #[.tmp 18] #[42]), some 19, (some (17, false))⟩,
  ⟨.binOp .gtr 3 (.tmp 19) (.const (Value.int .i64 8)) 3, some 20, (some (17, false))⟩,
  ⟨.pick (.tmp 17) (.const (Value.bool true)) (.tmp 20), some 21, none⟩])
 (.cond (.tmp 21) (.seq (.region [⟨.call (Go.Call.mk (.value (.func 21)) #[] #[]), some 22, none⟩,
  ⟨.assign (.tmp 22), some 6, none⟩])
 .ret)
 .skip))
 (.seq (.region [⟨.load 41 (.tmp 3), some 23, none⟩,
  ⟨.move (.tmp 1), some 24, none⟩,
  ⟨.call (Go.Call.mk (.value (.func 29)) #[.tmp 23, .tmp 24] #[41, 42]), some 25, none⟩,
  ⟨.assign (.tmp 25), some 7, none⟩])
 (.seq (.seq (.region [⟨.move (.tmp 7), some 26, none⟩,
  ⟨.call (Go.Call.mk (.builtin .len) #[.tmp 26] #[30]), some 27, none⟩,
  ⟨.move (.const (Value.int .i64 0)), some 28, none⟩])
 (.block 0 (.loop (.seq (.region [⟨.binOp .lss 3 (.tmp 28) (.tmp 27) 3, some 29, none⟩])
 (.seq (.cond (.tmp 29) .skip
 (.exit 0))
 (.seq (.block 1 (.seq (.region [⟨.indexAddr 30 (.tmp 26) (.tmp 28), some 30, none⟩,
  ⟨.load 9 (.tmp 30), some 31, none⟩,
  ⟨.assign (.tmp 31), some 9, none⟩])
 (.seq (.region [⟨.load 41 (.tmp 3), some 33, none⟩,
  ⟨.move (.tmp 1), some 34, none⟩,
  ⟨.move (.tmp 9), some 35, none⟩,
  ⟨.call (Go.Call.mk (.value (.func 22)) #[.tmp 33, .tmp 34, .tmp 35] #[41, 42, 9]), some 36, none⟩,
  ⟨.move (.tmp 36), some 32, none⟩,
  ⟨.extract (.tmp 32) 0, some 37, none⟩,
  ⟨.extract (.tmp 32) 1, some 38, none⟩,
  ⟨.assign (.tmp 37), some 10, none⟩,
  ⟨.assign (.tmp 38), some 11, none⟩])
 (.seq (.region [⟨.move (.tmp 10), some 39, none⟩,
  ⟨.binOp .eql 3 (.tmp 39) (.const (Value.int .i64 0)) 3, some 40, none⟩,
  ⟨.move (.tmp 40), some 41, none⟩,
  ⟨.move (.tmp 11), some 42, (some (41, false))⟩,
  ⟨.call (Go.Call.mk (.builtin .len) #[.tmp 42] #[42]), some 43, (some (41, false))⟩,
  ⟨.binOp .eql 3 (.tmp 43) (.const (Value.int .i64 0)) 3, some 44, (some (41, false))⟩,
  ⟨.pick (.tmp 41) (.const (Value.bool true)) (.tmp 44), some 45, none⟩])
 (.cond (.tmp 45) (.seq (.region [⟨.assign (.const (Value.bool false)), some 6, none⟩])
 .ret)
 .skip)))))
 (.region [⟨.binOp .add 3 (.tmp 28) (.const (Value.int .i64 1)) 3, some 46, none⟩,
  ⟨.move (.tmp 46), some 28, none⟩])))))))
 (.seq (.region [⟨.load 41 (.tmp 3), some 48, none⟩,
  ⟨.move (.tmp 1), some 49, none⟩,
  ⟨.move (.tmp 2), some 50, none⟩,
  ⟨.call (Go.Call.mk (.value (.func 22)) #[.tmp 48, .tmp 49, .tmp 50] #[41, 42, 9]), some 51, none⟩,
  ⟨.move (.tmp 51), some 47, none⟩,
  ⟨.extract (.tmp 47) 0, some 52, none⟩,
  ⟨.extract (.tmp 47) 1, some 53, none⟩,
  ⟨.assign (.tmp 52), some 12, none⟩,
  ⟨.assign (.tmp 53), some 13, none⟩])
 (.seq (.region [⟨.move (.tmp 12), some 54, none⟩,
  ⟨.binOp .neq 3 (.tmp 54) (.const (Value.int .i64 0)) 3, some 55, none⟩,
  ⟨.move (.tmp 7), some 56, none⟩,
  ⟨.move (.tmp 2), some 57, none⟩,
  ⟨.call (Go.Call.mk (.value (.func 31)) #[.tmp 56, .tmp 57] #[30, 9]), some 58, none⟩,
  ⟨.binOp .eql 4 (.tmp 55) (.tmp 58) 4, some 59, none⟩,
  ⟨.move (.tmp 59), some 60, none⟩,
  ⟨.move (.tmp 12), some 61, (some (60, true))⟩,
  ⟨.binOp .neq 3 (.tmp 61) (.const (Value.int .i64 0)) 3, some 62, (some (60, true))⟩,
  ⟨.move (.tmp 13), some 63, (some (60, true))⟩,
  ⟨.call (Go.Call.mk (.builtin .len) #[.tmp 63] #[42]), some 64, (some (60, true))⟩,
  ⟨.binOp .gtr 3 (.tmp 64) (.const (Value.int .i64 0)) 3, some 65, (some (60, true))⟩,
  ⟨.binOp .eql 4 (.tmp 62) (.tmp 65) 4, some 66, (some (60, true))⟩,
  ⟨.pick (.tmp 60) (.tmp 66) (.const (Value.bool false)), some 67, none⟩,
  ⟨.move (.tmp 67), some 68, none⟩,
  ⟨.move (.tmp 12), some 69, (some (68, true))⟩,
  ⟨.binOp .neq 3 (.tmp 69) (.const (Value.int .i64 2)) 3, some 70, (some (68, true))⟩,
  ⟨.move (.tmp 70), some 71, (some (68, true))⟩,
  ⟨.move (.tmp 13), some 72, (some (71, false))⟩,
  ⟨.call (Go.Call.mk (.builtin .len) #[.tmp 72] #[42]), some 73, (some (71, false))⟩,
  ⟨.binOp .eql 3 (.tmp 73) (.const (Value.int .i64 1)) 3, some 74, (some (71, false))⟩,
  ⟨.pick (.tmp 71) (.const (Value.bool true)) (.tmp 74), some 75, (some (68, true))⟩,
  ⟨.pick (.tmp 68) (.tmp 75) (.const (Value.bool false)), some 76, none⟩,
  ⟨.move (.tmp 76), some 77, none⟩,
  ⟨.move (.tmp 7), some 78, (some (77, true))⟩,
  ⟨.call (Go.Call.mk (.value (.func 19)) #[.tmp 78] #[30]), some 79, (some (77, true))⟩,
  ⟨.pick (.tmp 77) (.tmp 79) (.const (Value.bool false)), some 80, none⟩,
  ⟨.move (.tmp 80), some 81, none⟩,
  ⟨.call (Go.Call.mk (.value (.func 21)) #[] #[]), some 82, (some (81, true))⟩,
  ⟨.pick (.tmp 81) (.tmp 82) (.const (Value.bool false)), some 83, none⟩,
  ⟨.assign (.tmp 83), some 6, none⟩])
 .ret))))))
theorem fc_law16_LowerNames : FnC Try.prog 7 84 [.tmp 6] c_law16_LowerNames := ⟨by kernel_rfl, Try.f7, _, Try.func7, rfl, rfl, rfl, by kernel_rfl⟩
/-- craquelure/craquelureref03.Right -/
def c_ref03_Right : AC := (.seq (.region [⟨.assign (.const (Value.bool false)), some 2, none⟩])
 (.seq (.seq (.region [⟨.move (.tmp 0), some 4, none⟩,
  ⟨.call (Go.Call.mk (.builtin .len) #[.tmp 4] #[9]), some 5, none⟩,
  ⟨.binOp .lss 3 (.tmp 5) (.const (Value.int .i64 1)) 3, some 6, none⟩,
  ⟨.move (.tmp 6), some 7, none⟩,
  ⟨.move (.tmp 0), some 8, (some (7, false))⟩,
  ⟨.call (Go.Call.mk (.builtin .len) #[.tmp 8] #[9]), some 9, (some (7, false))⟩,
  ⟨.binOp .gtr 3 (.tmp 9) (.const (Value.int .i64 12)) 3, some 10, (some (7, false))⟩,
  ⟨.pick (.tmp 7) (.const (Value.bool true)) (.tmp 10), some 11, none⟩,
  ⟨.move (.tmp 11), some 12, none⟩,
  ⟨.move (.tmp 0), some 13, (some (12, false))⟩,
  ⟨.binOp .eql 9 (.tmp 13) (.const (Value.string (ByteArray.mk #[46]))) 9, some 14, (some (12, false))⟩,
  ⟨.pick (.tmp 12) (.const (Value.bool true)) (.tmp 14), some 15, none⟩,
  ⟨.move (.tmp 15), some 16, none⟩,
  ⟨.move (.tmp 0), some 17, (some (16, false))⟩,
  ⟨.binOp .eql 9 (.tmp 17) (.const (Value.string (ByteArray.mk #[46, 46]))) 9, some 18, (some (16, false))⟩,
  ⟨.pick (.tmp 16) (.const (Value.bool true)) (.tmp 18), some 19, none⟩])
 (.cond (.tmp 19) (.seq (.region [⟨.assign (.const (Value.bool false)), some 2, none⟩])
 .ret)
 .skip))
 (.seq (.seq (.region [⟨.assign (.const (Value.int .i64 0)), some 3, none⟩])
 (.block 0 (.loop (.seq (.seq (.region [⟨.move (.tmp 3), some 20, none⟩,
  ⟨.move (.tmp 0), some 21, none⟩,
  ⟨.call (Go.Call.mk (.builtin .len) #[.tmp 21] #[9]), some 22, none⟩,
  ⟨.binOp .lss 3 (.tmp 20) (.tmp 22) 3, some 23, none⟩])
 (.cond (.tmp 23) .skip
 (.exit 0)))
 (.seq (.block 1 (.seq (.region [⟨.move (.tmp 0), some 26, none⟩,
  ⟨.move (.tmp 3), some 27, none⟩,
  ⟨.index 9 (.tmp 26) (.tmp 27), some 28, none⟩,
  ⟨.call (Go.Call.mk (.value (.func 35)) #[.tmp 28] #[5]), some 29, none⟩,
  ⟨.unOp .not 4 (.tmp 29), some 30, none⟩])
 (.cond (.tmp 30) (.seq (.region [⟨.assign (.const (Value.bool false)), some 2, none⟩])
 .ret)
 .skip)))
 (.region [⟨.move (.tmp 3), some 24, none⟩,
  ⟨.binOp .add 3 (.tmp 24) (.const (Value.int .i64 1)) 3, some 25, none⟩,
  ⟨.assign (.tmp 25), some 3, none⟩]))))))
 (.seq (.region [⟨.assign (.const (Value.bool true)), some 2, none⟩])
 .ret))))
theorem fc_ref03_Right : FnC Try.prog 10 31 [.tmp 2] c_ref03_Right := ⟨by kernel_rfl, Try.f10, _, Try.func10, rfl, rfl, rfl, by kernel_rfl⟩
/-- craquelure/name.Sort -/
def c_name_Sort : AC := (.seq (.region [⟨.assign (.const (Value.slice none 0 0)), some 2, none⟩])
 (.seq (.region [⟨.move (.tmp 0), some 4, none⟩,
  ⟨.call (Go.Call.mk (.value (.func 36)) #[.tmp 4] #[30]), some 5, none⟩,
  ⟨.assign (.tmp 5), some 3, none⟩])
 (.seq (.region [⟨.move (.tmp 3), some 6, none⟩,
  ⟨.call (Go.Call.mk (.value (.func 37)) #[.tmp 6] #[30]), some 7, none⟩])
 (.seq (.region [⟨.move (.tmp 3), some 8, none⟩,
  ⟨.call (Go.Call.mk (.value (.func 38)) #[.tmp 8] #[30]), some 9, none⟩,
  ⟨.assign (.tmp 9), some 2, none⟩])
 .ret))))
theorem fc_name_Sort : FnC Try.prog 16 10 [.tmp 2] c_name_Sort := ⟨by kernel_rfl, Try.f16, _, Try.func16, rfl, rfl, rfl, by kernel_rfl⟩
/-- slices.Equal[[]string,string] -/
def c_slices_Equal_string_string : AC := (.seq (.region [⟨.assign (.const (Value.bool false)), some 4, none⟩])
 (.seq (.seq (.region [⟨.move (.tmp 0), some 6, none⟩,
  ⟨.call (Go.Call.mk (.builtin .len) #[.tmp 6] #[30]), some 7, none⟩,
  ⟨.move (.tmp 1), some 8, none⟩,
  ⟨.call (Go.Call.mk (.builtin .len) #[.tmp 8] #[30]), some 9, none⟩,
  ⟨.binOp .neq 3 (.tmp 7) (.tmp 9) 3, some 10, none⟩])
 (.cond (.tmp 10) (.seq (.region [⟨.assign (.const (Value.bool false)), some 4, none⟩])
 .ret)
 .skip))
 (.seq (.seq (.region [⟨.move (.tmp 0), some 11, none⟩,
  ⟨.call (Go.Call.mk (.builtin .len) #[.tmp 11] #[30]), some 12, none⟩,
  ⟨.move (.const (Value.int .i64 0)), some 13, none⟩])
 (.block 0 (.loop (.seq (.region [⟨.binOp .lss 3 (.tmp 13) (.tmp 12) 3, some 14, none⟩])
 (.seq (.cond (.tmp 14) .skip
 (.exit 0))
 (.seq (.block 1 (.seq (.region [⟨.move (.tmp 13), some 15, none⟩,
  ⟨.assign (.tmp 15), some 5, none⟩])
 (.seq (.draw [⟨.move (.tmp 0), some 16, none⟩,
  ⟨.move (.tmp 5), some 17, none⟩,
  ⟨.indexAddr 30 (.tmp 16) (.tmp 17), some 18, none⟩,
  ⟨.load 9 (.tmp 18), some 19, none⟩,
  ⟨.move (.tmp 1), some 20, none⟩,
  ⟨.move (.tmp 5), some 21, none⟩,
  ⟨.indexAddr 30 (.tmp 20) (.tmp 21), some 22, none⟩,
  ⟨.load 9 (.tmp 22), some 23, none⟩,
  ⟨.binOp .neq 9 (.tmp 19) (.tmp 23) 9, some 24, none⟩] [0, 0, 3, 7, 0, 0, 48, 112, 255] [false, false, false, true, false, false, false, true, false])
 (.cond (.tmp 24) (.seq (.region [⟨.assign (.const (Value.bool false)), some 4, none⟩])
 .ret)
 .skip))))
 (.region [⟨.binOp .add 3 (.tmp 13) (.const (Value.int .i64 1)) 3, some 25, none⟩,
  ⟨.move (.tmp 25), some 13, none⟩])))))))
 (.seq (.region [⟨.assign (.const (Value.bool true)), some 4, none⟩])
 .ret))))
theorem fc_slices_Equal_string_string : FnC Try.prog 17 26 [.tmp 4] c_slices_Equal_string_string := ⟨by kernel_rfl, Try.f17, _, Try.func17, rfl, rfl, rfl, by kernel_rfl⟩
/-- craquelure/craquelureref03.Sort -/
def c_ref03_Sort : AC := (.seq (.region [⟨.assign (.const (Value.slice none 0 0)), some 2, none⟩])
 (.seq (.region [⟨.buildSlice 30 0 #[], some 7, none⟩,
  ⟨.assign (.tmp 7), some 3, none⟩])
 (.seq (.seq (.region [⟨.assign (.const (Value.int .i64 0)), some 4, none⟩])
 (.block 0 (.loop (.seq (.seq (.region [⟨.move (.tmp 4), some 8, none⟩,
  ⟨.move (.tmp 0), some 9, none⟩,
  ⟨.call (Go.Call.mk (.builtin .len) #[.tmp 9] #[30]), some 10, none⟩,
  ⟨.binOp .lss 3 (.tmp 8) (.tmp 10) 3, some 11, none⟩])
 (.cond (.tmp 11) .skip
 (.exit 0)))
 (.seq (.block 1 (.seq (.region [⟨.assign (.const (Value.int .i64 0)), some 5, none⟩])
 (.seq (.block 2 (.loop (.seq (.seq (.draw [⟨.move (.tmp 5), some 14, none⟩,
  ⟨.move (.tmp 3), some 15, none⟩,
  ⟨.call (Go.Call.mk (.builtin .len) #[.tmp 15] #[30]), some 16, none⟩,
  ⟨.binOp .lss 3 (.tmp 14) (.tmp 16) 3, some 17, none⟩,
  ⟨.move (.tmp 17), some 18, none⟩,
  ⟨.move (.tmp 3), some 19, (some (18, true))⟩,
  ⟨.move (.tmp 5), some 20, (some (18, true))⟩,
  ⟨.indexAddr 30 (.tmp 19) (.tmp 20), some 21, (some (18, true))⟩,
  ⟨.load 9 (.tmp 21), some 22, (some (18, true))⟩,
  ⟨.move (.tmp 0), some 23, (some (18, true))⟩,
  ⟨.move (.tmp 4), some 24, (some (18, true))⟩,
  ⟨.indexAddr 30 (.tmp 23) (.tmp 24), some 25, (some (18, true))⟩,
  ⟨.load 9 (.tmp 25), some 26, (some (18, true))⟩,
  ⟨.binOp .lss 9 (.tmp 22) (.tmp 26) 9, some 27, (some (18, true))⟩,
  ⟨.pick (.tmp 18) (.tmp 27) (.const (Value.bool false)), some 28, none⟩] [0, 0, 2, 7, 15, 31, 31, 127, 255, 31, 31, 1567, 3615, 8191, 16383] [false, false, false, false, false, false, false, false, true, false, false, false, true, false, false])
 (.cond (.tmp 28) .skip
 (.exit 2)))
 (.block 3 (.region [⟨.move (.tmp 5), some 29, none⟩,
  ⟨.binOp .add 3 (.tmp 29) (.const (Value.int .i64 1)) 3, some 30, none⟩,
  ⟨.assign (.tmp 30), some 5, none⟩])))))
 (.seq (.seq (.draw [⟨.move (.tmp 5), some 31, none⟩,
  ⟨.move (.tmp 3), some 32, none⟩,
  ⟨.call (Go.Call.mk (.builtin .len) #[.tmp 32] #[30]), some 33, none⟩,
  ⟨.binOp .lss 3 (.tmp 31) (.tmp 33) 3, some 34, none⟩,
  ⟨.move (.tmp 34), some 35, none⟩,
  ⟨.move (.tmp 3), some 36, (some (35, true))⟩,
  ⟨.move (.tmp 5), some 37, (some (35, true))⟩,
  ⟨.indexAddr 30 (.tmp 36) (.tmp 37), some 38, (some (35, true))⟩,
  ⟨.load 9 (.tmp 38), some 39, (some (35, true))⟩,
  ⟨.move (.tmp 0), some 40, (some (35, true))⟩,
  ⟨.move (.tmp 4), some 41, (some (35, true))⟩,
  ⟨.indexAddr 30 (.tmp 40) (.tmp 41), some 42, (some (35, true))⟩,
  ⟨.load 9 (.tmp 42), some 43, (some (35, true))⟩,
  ⟨.binOp .eql 9 (.tmp 39) (.tmp 43) 9, some 44, (some (35, true))⟩,
  ⟨.pick (.tmp 35) (.tmp 44) (.const (Value.bool false)), some 45, none⟩] [0, 0, 2, 7, 15, 31, 31, 127, 255, 31, 31, 1567, 3615, 8191, 16383] [false, false, false, false, false, false, false, false, true, false, false, false, true, false, false])
 (.cond (.tmp 45) (.exit 1)
 .skip))
 (.seq (.region [⟨.move (.tmp 3), some 46, none⟩,
  ⟨.buildSlice 30 1 #[(0, .const (Value.string (ByteArray.mk #[])))], some 47, none⟩,
  ⟨.call (Go.Call.mk (.builtin .append) #[.tmp 46, .tmp 47] #[30, 30]), some 48, none⟩,
  ⟨.assign (.tmp 48), some 3, none⟩])
 (.seq (.seq (.region [⟨.move (.tmp 3), some 49, none⟩,
  ⟨.call (Go.Call.mk (.builtin .len) #[.tmp 49] #[30]), some 50, none⟩,
  ⟨.binOp .sub 3 (.tmp 50) (.const (Value.int .i64 1)) 3, some 51, none⟩,
  ⟨.assign (.tmp 51), some 6, none⟩])
 (.block 4 (.loop (.seq (.seq (.region [⟨.move (.tmp 6), some 52, none⟩,
  ⟨.move (.tmp 5), some 53, none⟩,
  ⟨.binOp .gtr 3 (.tmp 52) (.tmp 53) 3, some 54, none⟩])
 (.cond (.tmp 54) .skip
 (.exit 4)))
 (.seq (.block 5 (.region [⟨.move (.tmp 3), some 57, none⟩,
  ⟨.move (.tmp 6), some 58, none⟩,
  ⟨.move (.tmp 3), some 59, none⟩,
  ⟨.move (.tmp 6), some 60, none⟩,
  ⟨.binOp .sub 3 (.tmp 60) (.const (Value.int .i64 1)) 3, some 61, none⟩,
  ⟨.indexAddr 30 (.tmp 59) (.tmp 61), some 62, none⟩,
  ⟨.load 9 (.tmp 62), some 63, none⟩,
  ⟨.indexAddr 30 (.tmp 57) (.tmp 58), some 64, none⟩,
  ⟨.store 9 (.tmp 64) (.tmp 63), none, none⟩]))
 (.region [⟨.move (.tmp 6), some 55, none⟩,
  ⟨.binOp .sub 3 (.tmp 55) (.const (Value.int .i64 1)) 3, some 56, none⟩,
  ⟨.assign (.tmp 56), some 6, none⟩]))))))
 (.region [⟨.move (.tmp 3), some 65, none⟩,
  ⟨.move (.tmp 5), some 66, none⟩,
  ⟨.move (.tmp 0), some 67, none⟩,
  ⟨.move (.tmp 4), some 68, none⟩,
  ⟨.indexAddr 30 (.tmp 67) (.tmp 68), some 69, none⟩,
  ⟨.load 9 (.tmp 69), some 70, none⟩,
  ⟨.indexAddr 30 (.tmp 65) (.tmp 66), some 71, none⟩,
  ⟨.store 9 (.tmp 71) (.tmp 70), none, none⟩])))))))
 (.region [⟨.move (.tmp 4), some 12, none⟩,
  ⟨.binOp .add 3 (.tmp 12) (.const (Value.int .i64 1)) 3, some 13, none⟩,
  ⟨.assign (.tmp 13), some 4, none⟩]))))))
 (.seq (.region [⟨.move (.tmp 3), some 72, none⟩,
  ⟨.assign (.tmp 72), some 2, none⟩])
 .ret))))
theorem fc_ref03_Sort : FnC Try.prog 18 73 [.tmp 2] c_ref03_Sort := ⟨by kernel_rfl, Try.f18, _, Try.func18, rfl, rfl, rfl, by kernel_rfl⟩
/-- slices.IsSorted[[]string,string] -/
def c_slices_IsSorted_string_string : AC := (.seq (.region [⟨.assign (.const (Value.bool false)), some 2, none⟩])
 (.seq (.seq (.region [⟨.move (.tmp 0), some 4, none⟩,
  ⟨.call (Go.Call.mk (.builtin .len) #[.tmp 4] #[30]), some 5, none⟩,
  ⟨.binOp .sub 3 (.tmp 5) (.const (Value.int .i64 1)) 3, some 6, none⟩,
  ⟨.assign (.tmp 6), some 3, none⟩])
 (.block 0 (.loop (.seq (.seq (.region [⟨.move (.tmp 3), some 7, none⟩,
  ⟨.binOp .gtr 3 (.tmp 7) (.const (Value.int .i64 0)) 3, some 8, none⟩])
 (.cond (.tmp 8) .skip
 (.exit 0)))
 (.seq (.block 1 (.seq (.draw [⟨.move (.tmp 0), some 11, none⟩,
  ⟨.move (.tmp 3), some 12, none⟩,
  ⟨.indexAddr 30 (.tmp 11) (.tmp 12), some 13, none⟩,
  ⟨.load 9 (.tmp 13), some 14, none⟩,
  ⟨.move (.tmp 0), some 15, none⟩,
  ⟨.move (.tmp 3), some 16, none⟩,
  ⟨.binOp .sub 3 (.tmp 16) (.const (Value.int .i64 1)) 3, some 17, none⟩,
  ⟨.indexAddr 30 (.tmp 15) (.tmp 17), some 18, none⟩,
  ⟨.load 9 (.tmp 18), some 19, none⟩,
  ⟨.call (Go.Call.mk (.value (.func 39)) #[.tmp 14, .tmp 19] #[9, 9]), some 20, none⟩] [0, 0, 3, 7, 0, 0, 32, 112, 240, 511] [false, false, false, true, false, false, false, false, true, true])
 (.cond (.tmp 20) (.seq (.region [⟨.assign (.const (Value.bool false)), some 2, none⟩])
 .ret)
 .skip)))
 (.region [⟨.move (.tmp 3), some 9, none⟩,
  ⟨.binOp .sub 3 (.tmp 9) (.const (Value.int .i64 1)) 3, some 10, none⟩,
  ⟨.assign (.tmp 10), some 3, none⟩]))))))
 (.seq (.region [⟨.assign (.const (Value.bool true)), some 2, none⟩])
 .ret)))
theorem fc_slices_IsSorted_string_string : FnC Try.prog 19 21 [.tmp 2] c_slices_IsSorted_string_string := ⟨by kernel_rfl, Try.f19, _, Try.func19, rfl, rfl, rfl, by kernel_rfl⟩
/-- craquelure/craquelureplain.Stack -/
def c_plain_Stack : AC := (.seq (.region [⟨.box 41 (.tmp 0), some 2, none⟩,
  ⟨.box 3 (.tmp 1), some 3, none⟩,
  ⟨.assign (.const (Value.bool false)), some 4, none⟩])
 (.seq (.region [⟨.fieldAddr 41 (.tmp 2) 2, some 5, none⟩,
  ⟨.load 39 (.tmp 5), some 6, none⟩,
  ⟨.call (Go.Call.mk (.builtin .len) #[.tmp 6] #[39]), some 7, none⟩,
  ⟨.binOp .leq 3 (.tmp 7) (.const (Value.int .i64 3)) 3, some 8, none⟩,
  ⟨.move (.tmp 8), some 9, none⟩,
  ⟨.fieldAddr 41 (.tmp 2) 1, some 10, (some (9, true))⟩,
  ⟨.load 38 (.tmp 10), some 11, (some (9, true))⟩,
  ⟨.load 3 (.tmp 3), some 12, (some (9, true))⟩,
  ⟨.call (Go.Call.mk (.value (.func 40)) #[.tmp 11, .tmp 12] #[38, 3]), some 13, (some (9, true))⟩,
  ⟨.pick (.tmp 9) (.tmp 13) (.const (Value.bool false)), some 14, none⟩,
  ⟨.move (.tmp 14), some 15, none⟩,
  ⟨.fieldAddr 41 (.tmp 2) 2, some 16, (some (15, true))⟩,
  ⟨.load 39 (.tmp 16), some 17, (some (15, true))⟩,
  ⟨.makeFunc (.func 42) #[] #[.tmp 3], some 18, (some (15, true))⟩,
  ⟨.call (Go.Call.mk (.value (.func 41)) #[.tmp 17, .tmp 18] #[39, 64]), some 19, (some (15, true))⟩,
  ⟨.unOp .not 4 (.tmp 19), some 20, (some (15, true))⟩,
  ⟨.pick (.tmp 15) (.tmp 20) (.const (Value.bool false)), some 21, none⟩,
  ⟨.assign (.tmp 21), some 4, none⟩])
 .ret))
theorem fc_plain_Stack : FnC Try.prog 20 22 [.tmp 4] c_plain_Stack := ⟨by kernel_rfl, Try.f20, _, Try.func20, rfl, rfl, rfl, by kernel_rfl⟩
/-- craquelure/craquelurelaw16.awake -/
def c_law16_awake : AC := (.seq (.region [⟨.assign (.const (Value.bool false)), some 0, none⟩])
 (.seq (.region [⟨.call (Go.Call.mk (.value (.func 43)) #[] #[]), some 7, none⟩,
  ⟨.alloc 41, some 1, none⟩,
  ⟨.store 41 (.tmp 1) (.tmp 7), none, none⟩])
 (.seq (.region [⟨.load 41 (.tmp 1), some 8, none⟩,
  ⟨.call (Go.Call.mk (.value (.func 27)) #[.tmp 8] #[41]), some 9, none⟩,
  ⟨.assign (.tmp 9), some 2, none⟩])
 (.seq (.region [⟨.load 41 (.tmp 1), some 11, none⟩,
  ⟨.move (.tmp 2), some 12, none⟩,
  ⟨.call (Go.Call.mk (.value (.func 22)) #[.tmp 11, .tmp 12, .const (Value.string (ByteArray.mk #[97]))] #[41, 42, 9]), some 13, none⟩,
  ⟨.move (.tmp 13), some 10, none⟩,
  ⟨.extract (.tmp 10) 0, some 14, none⟩,
  ⟨.extract (.tmp 10) 1, some 15, none⟩,
  ⟨.assign (.tmp 14), some 3, none⟩,
  ⟨.assign (.tmp 15), some 4, none⟩])
 (.seq (.region [⟨.load 41 (.tmp 1), some 17, none⟩,
  ⟨.move (.tmp 2), some 18, none⟩,
  ⟨.buildSlice 30 1 #[(0, .const (Value.string (ByteArray.mk #[97])))], some 19, none⟩,
  ⟨.call (Go.Call.mk (.value (.func 25)) #[.tmp 17, .tmp 18, .tmp 19] #[41, 42, 30]), some 20, none⟩,
  ⟨.move (.tmp 20), some 16, none⟩,
  ⟨.extract (.tmp 16) 0, some 21, none⟩,
  ⟨.extract (.tmp 16) 1, some 22, none⟩,
  ⟨.assign (.tmp 21), some 5, none⟩,
  ⟨.assign (.tmp 22), some 6, none⟩])
 (.seq (.region [⟨.move (.tmp 2), some 23, none⟩,
  ⟨.build 48 #[(0, .const (Value.int .i64 1)), (1, .const (Value.int .i64 1))], some 24, none⟩,
  ⟨.buildSlice 42 1 #[(0, .tmp 24)], some 25, none⟩,
  ⟨.call (Go.Call.mk (.value (.func 24)) #[.tmp 23, .tmp 25] #[42, 42]), some 26, none⟩,
  ⟨.move (.tmp 26), some 27, none⟩,
  ⟨.move (.tmp 3), some 28, (some (27, true))⟩,
  ⟨.binOp .eql 3 (.tmp 28) (.const (Value.int .i64 2)) 3, some 29, (some (27, true))⟩,
  ⟨.pick (.tmp 27) (.tmp 29) (.const (Value.bool false)), some 30, none⟩,
  ⟨.move (.tmp 30), some 31, none⟩,
  ⟨.move (.tmp 4), some 32, (some (31, true))⟩,
  ⟨.build 48 #[(0, .const (Value.int .i64 1)), (1, .const (Value.int .i64 2))], some 33, (some (31, true))⟩,
  ⟨.buildSlice 42 1 #[(0, .tmp 33)], some 34, (some (31, true))⟩,
  ⟨.call (Go.Call.mk (.value (.func 24)) #[.tmp 32, .tmp 34] #[42, 42]), some 35, (some (31, true))⟩,
  ⟨.pick (.tmp 31) (.tmp 35) (.const (Value.bool false)), some 36, none⟩,
  ⟨.move (.tmp 36), some 37, none⟩,
  ⟨.move (.tmp 6), some 38, (some (37, true))⟩,
  ⟨.unOp .not 4 (.tmp 38), some 39, (some (37, true))⟩,
  ⟨.pick (.tmp 37) (.tmp 39) (.const (Value.bool false)), some 40, none⟩,
  ⟨.move (.tmp 40), some 41, none⟩,
  ⟨.load 41 (.tmp 1), some 42, (some (41, true))⟩,
  ⟨.move (.tmp 2), some 43, (some (41, true))⟩,
  ⟨.call (Go.Call.mk (.value (.func 29)) #[.tmp 42, .tmp 43] #[41, 42]), some 44, (some (41, true))⟩,
  ⟨.buildSlice 30 1 #[(0, .const (Value.string (ByteArray.mk #[97])))], some 45, (some (41, true))⟩,
  ⟨.call (Go.Call.mk (.value (.func 17)) #[.tmp 44, .tmp 45] #[30, 30]), some 46, (some (41, true))⟩,
  ⟨.pick (.tmp 41) (.tmp 46) (.const (Value.bool false)), some 47, none⟩,
  ⟨.assign (.tmp 47), some 0, none⟩])
 .ret))))))
theorem fc_law16_awake : FnC Try.prog 21 48 [.tmp 0] c_law16_awake := ⟨by kernel_rfl, Try.f21, _, Try.func21, rfl, rfl, rfl, by kernel_rfl⟩
/-- craquelure/lower.Find -/
def c_lower_Find : AC := (.seq (.region [⟨.box 41 (.tmp 0), some 3, none⟩,
  ⟨.assign (.const (Value.int .i64 0)), some 6, none⟩,
  ⟨.assign (.const (Value.slice none 0 0)), some 7, none⟩])
 (.scope (.seq (.region [⟨.fieldAddr 41 (.tmp 3) 2, some 14, none⟩,
  ⟨.load 39 (.tmp 14), some 15, none⟩,
  ⟨.assign (.tmp 15), some 8, none⟩])
 (.seq (.region [⟨.assign (.const (Value.slice none 0 0)), some 9, none⟩])
 (.seq (.seq (.region [⟨.move (.tmp 1), some 16, none⟩,
  ⟨.call (Go.Call.mk (.builtin .len) #[.tmp 16] #[42]), some 17, none⟩,
  ⟨.move (.const (Value.int .i64 0)), some 18, none⟩])
 (.block 0 (.loop (.seq (.region [⟨.binOp .lss 3 (.tmp 18) (.tmp 17) 3, some 19, none⟩])
 (.seq (.cond (.tmp 19) .skip
 (.exit 0))
 (.seq (.block 1 (.seq (.region [⟨.indexAddr 42 (.tmp 16) (.tmp 18), some 20, none⟩,
  ⟨.load 48 (.tmp 20), some 21, none⟩,
  ⟨.alloc 48, some 11, none⟩,
  ⟨.store 48 (.tmp 11) (.tmp 21), none, none⟩])
 (.seq (.region [⟨.move (.tmp 8), some 23, none⟩,
  ⟨.load 48 (.tmp 11), some 24, none⟩,
  ⟨.move (.tmp 2), some 25, none⟩,
  ⟨.call (Go.Call.mk (.value (.func 44)) #[.tmp 23, .tmp 24, .tmp 25] #[66, 48, 9]), some 26, none⟩,
  ⟨.move (.tmp 26), some 22, none⟩,
  ⟨.extract (.tmp 22) 0, some 27, none⟩,
  ⟨.extract (.tmp 22) 1, some 28, none⟩,
  ⟨.alloc 48, some 12, none⟩,
  ⟨.alloc 73, some 13, none⟩,
  ⟨.store 48 (.tmp 12) (.tmp 27), none, none⟩,
  ⟨.store 73 (.tmp 13) (.tmp 28), none, none⟩])
 (.seq (.seq (.region [⟨.fieldAddr 73 (.tmp 13) 0, some 29, none⟩,
  ⟨.load 3 (.tmp 29), some 30, none⟩])
 (.block 2 (.seq (.region [⟨.binOp .eql 3 (.tmp 30) (.const (Value.int .i64 0)) 3, some 32, none⟩,
  ⟨.assign (.tmp 32), some 31, none⟩])
 (.cond (.tmp 31) (.exit 1)
 (.seq (.region [⟨.binOp .eql 3 (.tmp 30) (.const (Value.int .i64 1)) 3, some 34, none⟩,
  ⟨.assign (.tmp 34), some 33, none⟩])
 (.cond (.tmp 33) (.seq (.region [⟨.move (.tmp 9), some 35, none⟩,
  ⟨.load 48 (.tmp 12), some 36, none⟩,
  ⟨.buildSlice 42 1 #[(0, .tmp 36)], some 37, none⟩,
  ⟨.call (Go.Call.mk (.builtin .append) #[.tmp 35, .tmp 37] #[42, 42]), some 38, none⟩,
  ⟨.assign (.tmp 38), some 9, none⟩])
 (.seq (.region [⟨.load 73 (.tmp 13), some 39, none⟩,
  ⟨.call (Go.Call.mk (.value (.func 45)) #[.tmp 39] #[73]), some 40, none⟩,
  ⟨.unOp .not 4 (.tmp 40), some 41, none⟩])
 (.cond (.tmp 41) (.exit 1)
 .skip)))
 (.seq (.seq (.region [⟨.binOp .eql 3 (.tmp 30) (.const (Value.int .i64 2)) 3, some 43, none⟩,
  ⟨.assign (.tmp 43), some 42, none⟩])
 (.cond (.tmp 42) .skip
 (.region [⟨.binOp .eql 3 (.tmp 30) (.const (Value.int .i64 3)) 3, some 44, none⟩,
  ⟨.assign (.tmp 44), some 42, none⟩])))
 (.cond (.tmp 42) (.seq (.region [⟨.move (.tmp 9), some 45, none⟩,
  ⟨.call (Go.Call.mk (.builtin .len) #[.tmp 45] #[42]), some 46, none⟩,
  ⟨.binOp .eql 3 (.tmp 46) (.const (Value.int .i64 0)) 3, some 47, none⟩])
 (.cond (.tmp 47) (.seq (.draw [⟨.fieldAddr 73 (.tmp 13) 0, some 48, none⟩,
  ⟨.load 3 (.tmp 48), some 49, none⟩,
  ⟨.load 48 (.tmp 12), some 50, none⟩,
  ⟨.buildSlice 42 1 #[(0, .tmp 50)], some 51, none⟩,
  ⟨.assign (.tmp 49), some 6, none⟩,
  ⟨.assign (.tmp 51), some 7, none⟩] [0, 1, 0, 4, 3, 31] [false, true, true, false, false, false])
 .ret)
 .skip))
 .skip))))))))
 (.goto 0)))))
 (.region [⟨.binOp .add 3 (.tmp 18) (.const (Value.int .i64 1)) 3, some 52, none⟩,
  ⟨.move (.tmp 52), some 18, none⟩])))))))
 (.seq (.label 0)
 (.seq (.seq (.region [⟨.move (.tmp 9), some 53, none⟩,
  ⟨.call (Go.Call.mk (.builtin .len) #[.tmp 53] #[42]), some 54, none⟩,
  ⟨.binOp .eql 3 (.tmp 54) (.const (Value.int .i64 0)) 3, some 55, none⟩])
 (.cond (.tmp 55) (.seq (.region [⟨.assign (.const (Value.int .i64 0)), some 6, none⟩,
  ⟨.assign (.const (Value.slice none 0 0)), some 7, none⟩])
 .ret)
 .skip))
 (.seq (.region [⟨.move (.tmp 9), some 56, none⟩,
  ⟨.assign (.const (Value.int .i64 1)), some 6, none⟩,
  ⟨.assign (.tmp 56), some 7, none⟩])
 .ret))))))))
theorem fc_lower_Find : FnC Try.prog 22 57 [.tmp 6, .tmp 7] c_lower_Find := ⟨by kernel_rfl, Try.f22, _, Try.func22, rfl, rfl, rfl, by kernel_rfl⟩
/-- craquelure/craquelureref16.Find -/
def c_ref16_Find : AC := (.seq (.region [⟨.box 41 (.tmp 0), some 3, none⟩,
  ⟨.assign (.const (Value.int .i64 0)), some 6, none⟩,
  ⟨.assign (.const (Value.slice none 0 0)), some 7, none⟩])
 (.seq (.region [⟨.buildSlice 42 0 #[], some 13, none⟩,
  ⟨.assign (.tmp 13), some 8, none⟩])
 (.seq (.seq (.region [⟨.assign (.const (Value.int .i64 0)), some 9, none⟩])
 (.block 0 (.loop (.seq (.seq (.region [⟨.move (.tmp 9), some 14, none⟩,
  ⟨.move (.tmp 1), some 15, none⟩,
  ⟨.call (Go.Call.mk (.builtin .len) #[.tmp 15] #[42]), some 16, none⟩,
  ⟨.binOp .lss 3 (.tmp 14) (.tmp 16) 3, some 17, none⟩])
 (.cond (.tmp 17) .skip
 (.exit 0)))
 (.seq (.block 1 (.seq (.draw [⟨.load 41 (.tmp 3), some 21, none⟩,
  ⟨.move (.tmp 1), some 22, none⟩,
  ⟨.move (.tmp 9), some 23, none⟩,
  ⟨.indexAddr 42 (.tmp 22) (.tmp 23), some 24, none⟩,
  ⟨.load 48 (.tmp 24), some 25, none⟩,
  ⟨.move (.tmp 2), some 26, none⟩,
  ⟨.call (Go.Call.mk (.value (.func 46)) #[.tmp 21, .tmp 25, .tmp 26] #[41, 48, 9]), some 27, none⟩,
  ⟨.move (.tmp 27), some 20, none⟩,
  ⟨.extract (.tmp 20) 0, some 28, none⟩,
  ⟨.extract (.tmp 20) 1, some 29, none⟩,
  ⟨.alloc 48, some 10, none⟩,
  ⟨.store 48 (.tmp 10) (.tmp 28), none, none⟩,
  ⟨.assign (.tmp 29), some 11, none⟩] [0, 0, 0, 6, 14, 0, 63, 127, 255, 255, 0, 1535, 4095] [true, false, false, false, true, false, true, false, false, false, false, true, false])
 (.seq (.seq (.region [⟨.move (.tmp 11), some 30, none⟩,
  ⟨.unOp .not 4 (.tmp 30), some 31, none⟩])
 (.cond (.tmp 31) (.exit 1)
 .skip))
 (.seq (.region [⟨.load 41 (.tmp 3), some 32, none⟩,
  ⟨.load 48 (.tmp 10), some 33, none⟩,
  ⟨.call (Go.Call.mk (.value (.func 47)) #[.tmp 32, .tmp 33] #[41, 48]), some 34, none⟩,
  ⟨.alloc 73, some 12, none⟩,
  ⟨.store 73 (.tmp 12) (.tmp 34), none, none⟩])
 (.seq (.seq (.region [⟨.fieldAddr 73 (.tmp 12) 0, some 35, none⟩,
  ⟨.load 3 (.tmp 35), some 36, none⟩,
  ⟨.binOp .eql 3 (.tmp 36) (.const (Value.int .i64 1)) 3, some 37, none⟩])
 (.cond (.tmp 37) (.seq (.region [⟨.move (.tmp 8), some 38, none⟩,
  ⟨.load 48 (.tmp 10), some 39, none⟩,
  ⟨.buildSlice 42 1 #[(0, .tmp 39)], some 40, none⟩,
  ⟨.call (Go.Call.mk (.builtin .append) #[.tmp 38, .tmp 40] #[42, 42]), some 41, none⟩,
  ⟨.assign (.tmp 41), some 8, none⟩])
 (.seq (.seq (.region [⟨.load 73 (.tmp 12), some 42, none⟩,
  ⟨.call (Go.Call.mk (.value (.func 48)) #[.tmp 42] #[73]), some 43, none⟩])
 (.cond (.tmp 43) (.seq (.region [⟨.move (.tmp 8), some 44, none⟩,
  ⟨.assign (.const (Value.int .i64 1)), some 6, none⟩,
  ⟨.assign (.tmp 44), some 7, none⟩])
 .ret)
 .skip))
 (.exit 1)))
 .skip))
 (.seq (.seq (.region [⟨.move (.tmp 8), some 45, none⟩,
  ⟨.call (Go.Call.mk (.builtin .len) #[.tmp 45] #[42]), some 46, none⟩,
  ⟨.binOp .gtr 3 (.tmp 46) (.const (Value.int .i64 0)) 3, some 47, none⟩])
 (.cond (.tmp 47) (.seq (.region [⟨.move (.tmp 8), some 48, none⟩,
  ⟨.assign (.const (Value.int .i64 1)), some 6, none⟩,
  ⟨.assign (.tmp 48), some 7, none⟩])
 .ret)
 .skip))
 (.seq (.seq (.region [⟨.fieldAddr 73 (.tmp 12) 0, some 49, none⟩,
  ⟨.load 3 (.tmp 49), some 50, none⟩,
  ⟨.binOp .eql 3 (.tmp 50) (.const (Value.int .i64 2)) 3, some 51, none⟩,
  ⟨.move (.tmp 51), some 52, none⟩,
  ⟨.fieldAddr 73 (.tmp 12) 0, some 53, (some (52, false))⟩,
  ⟨.load 3 (.tmp 53), some 54, (some (52, false))⟩,
  ⟨.binOp .eql 3 (.tmp 54) (.const (Value.int .i64 3)) 3, some 55, (some (52, false))⟩,
  ⟨.pick (.tmp 52) (.const (Value.bool true)) (.tmp 55), some 56, none⟩])
 (.cond (.tmp 56) (.seq (.draw [⟨.fieldAddr 73 (.tmp 12) 0, some 57, none⟩,
  ⟨.load 3 (.tmp 57), some 58, none⟩,
  ⟨.load 48 (.tmp 10), some 59, none⟩,
  ⟨.buildSlice 42 1 #[(0, .tmp 59)], some 60, none⟩,
  ⟨.assign (.tmp 58), some 6, none⟩,
  ⟨.assign (.tmp 60), some 7, none⟩] [0, 1, 0, 4, 3, 31] [false, true, true, false, false, false])
 .ret)
 .skip))
 (.seq (.region [⟨.assign (.const (Value.int .i64 0)), some 6, none⟩,
  ⟨.assign (.const (Value.slice none 0 0)), some 7, none⟩])
 .ret))))))))
 (.region [⟨.move (.tmp 9), some 18, none⟩,
  ⟨.binOp .add 3 (.tmp 18) (.const (Value.int .i64 1)) 3, some 19, none⟩,
  ⟨.assign (.tmp 19), some 9, none⟩]))))))
 (.seq (.seq (.region [⟨.move (.tmp 8), some 61, none⟩,
  ⟨.call (Go.Call.mk (.builtin .len) #[.tmp 61] #[42]), some 62, none⟩,
  ⟨.binOp .gtr 3 (.tmp 62) (.const (Value.int .i64 0)) 3, some 63, none⟩])
 (.cond (.tmp 63) (.seq (.region [⟨.move (.tmp 8), some 64, none⟩,
  ⟨.assign (.const (Value.int .i64 1)), some 6, none⟩,
  ⟨.assign (.tmp 64), some 7, none⟩])
 .ret)
 .skip))
 (.seq (.region [⟨.assign (.const (Value.int .i64 0)), some 6, none⟩,
  ⟨.assign (.const (Value.slice none 0 0)), some 7, none⟩])
 .ret)))))
theorem fc_ref16_Find : FnC Try.prog 23 65 [.tmp 6, .tmp 7] c_ref16_Find := ⟨by kernel_rfl, Try.f23, _, Try.func23, rfl, rfl, rfl, by kernel_rfl⟩
/-- slices.Equal[[]craquelure/api.Place,craquelure/api.Place] -/
def c_slices_Equal_api_Place_api_Place : AC := (.seq (.region [⟨.assign (.const (Value.bool false)), some 4, none⟩])
 (.seq (.seq (.region [⟨.move (.tmp 0), some 6, none⟩,
  ⟨.call (Go.Call.mk (.builtin .len) #[.tmp 6] #[42]), some 7, none⟩,
  ⟨.move (.tmp 1), some 8, none⟩,
  ⟨.call (Go.Call.mk (.builtin .len) #[.tmp 8] #[42]), some 9, none⟩,
  ⟨.binOp .neq 3 (.tmp 7) (.tmp 9) 3, some 10, none⟩])
 (.cond (.tmp 10) (.seq (.region [⟨.assign (.const (Value.bool false)), some 4, none⟩])
 .ret)
 .skip))
 (.seq (.seq (.region [⟨.move (.tmp 0), some 11, none⟩,
  ⟨.call (Go.Call.mk (.builtin .len) #[.tmp 11] #[42]), some 12, none⟩,
  ⟨.move (.const (Value.int .i64 0)), some 13, none⟩])
 (.block 0 (.loop (.seq (.region [⟨.binOp .lss 3 (.tmp 13) (.tmp 12) 3, some 14, none⟩])
 (.seq (.cond (.tmp 14) .skip
 (.exit 0))
 (.seq (.block 1 (.seq (.region [⟨.move (.tmp 13), some 15, none⟩,
  ⟨.assign (.tmp 15), some 5, none⟩])
 (.seq (.draw [⟨.move (.tmp 0), some 16, none⟩,
  ⟨.move (.tmp 5), some 17, none⟩,
  ⟨.indexAddr 42 (.tmp 16) (.tmp 17), some 18, none⟩,
  ⟨.load 48 (.tmp 18), some 19, none⟩,
  ⟨.move (.tmp 1), some 20, none⟩,
  ⟨.move (.tmp 5), some 21, none⟩,
  ⟨.indexAddr 42 (.tmp 20) (.tmp 21), some 22, none⟩,
  ⟨.load 48 (.tmp 22), some 23, none⟩,
  ⟨.binOp .neq 48 (.tmp 19) (.tmp 23) 48, some 24, none⟩] [0, 0, 3, 7, 0, 0, 48, 112, 255] [false, false, false, true, false, false, false, true, false])
 (.cond (.tmp 24) (.seq (.region [⟨.assign (.const (Value.bool false)), some 4, none⟩])
 .ret)
 .skip))))
 (.region [⟨.binOp .add 3 (.tmp 13) (.const (Value.int .i64 1)) 3, some 25, none⟩,
  ⟨.move (.tmp 25), some 13, none⟩])))))))
 (.seq (.region [⟨.assign (.const (Value.bool true)), some 4, none⟩])
 .ret))))
theorem fc_slices_Equal_api_Place_api_Place : FnC Try.prog 24 26 [.tmp 4] c_slices_Equal_api_Place_api_Place := ⟨by kernel_rfl, Try.f24, _, Try.func24, rfl, rfl, rfl, by kernel_rfl⟩
/-- craquelure/lower.Look -/
def c_lower_Look : AC := (.seq (.region [⟨.box 41 (.tmp 0), some 3, none⟩,
  ⟨.assign (.const (Value.slice none 0 0)), some 6, none⟩,
  ⟨.assign (.const (Value.bool false)), some 7, none⟩])
 (.seq (.region [⟨.move (.tmp 1), some 13, none⟩,
  ⟨.call (Go.Call.mk (.value (.func 49)) #[.tmp 13] #[42]), some 14, none⟩,
  ⟨.assign (.tmp 14), some 8, none⟩])
 (.seq (.seq (.region [⟨.move (.tmp 2), some 15, none⟩,
  ⟨.call (Go.Call.mk (.builtin .len) #[.tmp 15] #[30]), some 16, none⟩,
  ⟨.move (.const (Value.int .i64 0)), some 17, none⟩])
 (.block 0 (.loop (.seq (.region [⟨.binOp .lss 3 (.tmp 17) (.tmp 16) 3, some 18, none⟩])
 (.seq (.cond (.tmp 18) .skip
 (.exit 0))
 (.seq (.block 1 (.seq (.region [⟨.indexAddr 30 (.tmp 15) (.tmp 17), some 19, none⟩,
  ⟨.load 9 (.tmp 19), some 20, none⟩,
  ⟨.assign (.tmp 20), some 10, none⟩])
 (.seq (.region [⟨.load 41 (.tmp 3), some 22, none⟩,
  ⟨.move (.tmp 8), some 23, none⟩,
  ⟨.move (.tmp 10), some 24, none⟩,
  ⟨.call (Go.Call.mk (.value (.func 22)) #[.tmp 22, .tmp 23, .tmp 24] #[41, 42, 9]), some 25, none⟩,
  ⟨.move (.tmp 25), some 21, none⟩,
  ⟨.extract (.tmp 21) 0, some 26, none⟩,
  ⟨.extract (.tmp 21) 1, some 27, none⟩,
  ⟨.assign (.tmp 26), some 11, none⟩,
  ⟨.assign (.tmp 27), some 12, none⟩])
 (.seq (.seq (.region [⟨.move (.tmp 11), some 28, none⟩,
  ⟨.binOp .neq 3 (.tmp 28) (.const (Value.int .i64 1)) 3, some 29, none⟩])
 (.cond (.tmp 29) (.seq (.region [⟨.assign (.const (Value.slice none 0 0)), some 6, none⟩,
  ⟨.assign (.const (Value.bool false)), some 7, none⟩])
 .ret)
 .skip))
 (.region [⟨.move (.tmp 12), some 30, none⟩,
  ⟨.assign (.tmp 30), some 8, none⟩])))))
 (.region [⟨.binOp .add 3 (.tmp 17) (.const (Value.int .i64 1)) 3, some 31, none⟩,
  ⟨.move (.tmp 31), some 17, none⟩])))))))
 (.seq (.region [⟨.move (.tmp 8), some 32, none⟩,
  ⟨.assign (.tmp 32), some 6, none⟩,
  ⟨.assign (.const (Value.bool true)), some 7, none⟩])
 .ret))))
theorem fc_lower_Look : FnC Try.prog 25 33 [.tmp 6, .tmp 7] c_lower_Look := ⟨by kernel_rfl, Try.f25, _, Try.func25, rfl, rfl, rfl, by kernel_rfl⟩
/-- craquelure/craquelureref16.Look -/
def c_ref16_Look : AC := (.seq (.region [⟨.box 41 (.tmp 0), some 3, none⟩,
  ⟨.assign (.const (Value.slice none 0 0)), some 6, none⟩,
  ⟨.assign (.const (Value.bool false)), some 7, none⟩])
 (.seq (.region [⟨.move (.tmp 1), some 12, none⟩,
  ⟨.assign (.tmp 12), some 8, none⟩])
 (.seq (.seq (.region [⟨.assign (.const (Value.int .i64 0)), some 9, none⟩])
 (.block 0 (.loop (.seq (.seq (.region [⟨.move (.tmp 9), some 13, none⟩,
  ⟨.move (.tmp 2), some 14, none⟩,
  ⟨.call (Go.Call.mk (.builtin .len) #[.tmp 14] #[30]), some 15, none⟩,
  ⟨.binOp .lss 3 (.tmp 13) (.tmp 15) 3, some 16, none⟩])
 (.cond (.tmp 16) .skip
 (.exit 0)))
 (.seq (.block 1 (.seq (.draw [⟨.load 41 (.tmp 3), some 20, none⟩,
  ⟨.move (.tmp 8), some 21, none⟩,
  ⟨.move (.tmp 2), some 22, none⟩,
  ⟨.move (.tmp 9), some 23, none⟩,
  ⟨.indexAddr 30 (.tmp 22) (.tmp 23), some 24, none⟩,
  ⟨.load 9 (.tmp 24), some 25, none⟩,
  ⟨.call (Go.Call.mk (.value (.func 23)) #[.tmp 20, .tmp 21, .tmp 25] #[41, 42, 9]), some 26, none⟩,
  ⟨.move (.tmp 26), some 19, none⟩,
  ⟨.extract (.tmp 19) 0, some 27, none⟩,
  ⟨.extract (.tmp 19) 1, some 28, none⟩,
  ⟨.assign (.tmp 27), some 10, none⟩,
  ⟨.assign (.tmp 28), some 11, none⟩] [0, 0, 0, 0, 12, 28, 63, 127, 255, 255, 511, 2047] [true, false, false, false, false, true, true, false, false, false, false, false])
 (.seq (.seq (.region [⟨.move (.tmp 10), some 29, none⟩,
  ⟨.binOp .neq 3 (.tmp 29) (.const (Value.int .i64 1)) 3, some 30, none⟩])
 (.cond (.tmp 30) (.seq (.region [⟨.assign (.const (Value.slice none 0 0)), some 6, none⟩,
  ⟨.assign (.const (Value.bool false)), some 7, none⟩])
 .ret)
 .skip))
 (.region [⟨.move (.tmp 11), some 31, none⟩,
  ⟨.assign (.tmp 31), some 8, none⟩]))))
 (.region [⟨.move (.tmp 9), some 17, none⟩,
  ⟨.binOp .add 3 (.tmp 17) (.const (Value.int .i64 1)) 3, some 18, none⟩,
  ⟨.assign (.tmp 18), some 9, none⟩]))))))
 (.seq (.region [⟨.move (.tmp 8), some 32, none⟩,
  ⟨.assign (.tmp 32), some 6, none⟩,
  ⟨.assign (.const (Value.bool true)), some 7, none⟩])
 .ret))))
theorem fc_ref16_Look : FnC Try.prog 26 33 [.tmp 6, .tmp 7] c_ref16_Look := ⟨by kernel_rfl, Try.f26, _, Try.func26, rfl, rfl, rfl, by kernel_rfl⟩
/-- craquelure/lower.Roots -/
def c_lower_Roots : AC := (.seq (.region [⟨.box 41 (.tmp 0), some 1, none⟩,
  ⟨.assign (.const (Value.slice none 0 0)), some 2, none⟩])
 (.seq (.region [⟨.fieldAddr 41 (.tmp 1) 2, some 8, none⟩,
  ⟨.load 39 (.tmp 8), some 9, none⟩,
  ⟨.assign (.tmp 9), some 3, none⟩])
 (.seq (.region [⟨.assign (.const (Value.slice none 0 0)), some 4, none⟩])
 (.seq (.seq (.region [⟨.move (.tmp 3), some 10, none⟩,
  ⟨.call (Go.Call.mk (.builtin .len) #[.tmp 10] #[66]), some 11, none⟩,
  ⟨.move (.const (Value.int .i64 0)), some 12, none⟩])
 (.block 0 (.loop (.seq (.region [⟨.binOp .lss 3 (.tmp 12) (.tmp 11) 3, some 13, none⟩])
 (.seq (.cond (.tmp 13) .skip
 (.exit 0))
 (.seq (.block 1 (.seq (.region [⟨.move (.tmp 12), some 14, none⟩,
  ⟨.assign (.tmp 14), some 5, none⟩])
 (.seq (.region [⟨.move (.tmp 5), some 15, none⟩,
  ⟨.binOp .add 3 (.tmp 15) (.const (Value.int .i64 1)) 3, some 16, none⟩,
  ⟨.build 48 #[(0, .tmp 16), (1, .const (Value.int .i64 1))], some 17, none⟩,
  ⟨.alloc 48, some 6, none⟩,
  ⟨.store 48 (.tmp 6) (.tmp 17), none, none⟩])
 (.seq (.region [⟨.move (.tmp 3), some 18, none⟩,
  ⟨.load 48 (.tmp 6), some 19, none⟩,
  ⟨.call (Go.Call.mk (.value (.func 50)) #[.tmp 18, .tmp 19] #[66, 48]), some 20, none⟩,
  ⟨.alloc 73, some 7, none⟩,
  ⟨.store 73 (.tmp 7) (.tmp 20), none, none⟩])
 (.seq (.seq (.region [⟨.fieldAddr 73 (.tmp 7) 0, some 21, none⟩,
  ⟨.load 3 (.tmp 21), some 22, none⟩,
  ⟨.binOp .neq 3 (.tmp 22) (.const (Value.int .i64 1)) 3, some 23, none⟩])
 (.cond (.tmp 23) (.exit 1)
 .skip))
 (.seq (.region [⟨.move (.tmp 4), some 24, none⟩,
  ⟨.load 48 (.tmp 6), some 25, none⟩,
  ⟨.buildSlice 42 1 #[(0, .tmp 25)], some 26, none⟩,
  ⟨.call (Go.Call.mk (.builtin .append) #[.tmp 24, .tmp 26] #[42, 42]), some 27, none⟩,
  ⟨.assign (.tmp 27), some 4, none⟩])
 (.seq (.region [⟨.load 73 (.tmp 7), some 28, none⟩,
  ⟨.call (Go.Call.mk (.value (.func 45)) #[.tmp 28] #[73]), some 29, none⟩])
 (.cond (.tmp 29) (.exit 0)
 .skip))))))))
 (.region [⟨.binOp .add 3 (.tmp 12) (.const (Value.int .i64 1)) 3, some 30, none⟩,
  ⟨.move (.tmp 30), some 12, none⟩])))))))
 (.seq (.region [⟨.move (.tmp 4), some 31, none⟩,
  ⟨.assign (.tmp 31), some 2, none⟩])
 .ret)))))
theorem fc_lower_Roots : FnC Try.prog 27 32 [.tmp 2] c_lower_Roots := ⟨by kernel_rfl, Try.f27, _, Try.func27, rfl, rfl, rfl, by kernel_rfl⟩
/-- craquelure/craquelureref16.Roots -/
def c_ref16_Roots : AC := (.seq (.region [⟨.box 41 (.tmp 0), some 1, none⟩,
  ⟨.assign (.const (Value.slice none 0 0)), some 2, none⟩])
 (.seq (.region [⟨.buildSlice 42 0 #[], some 7, none⟩,
  ⟨.assign (.tmp 7), some 3, none⟩])
 (.seq (.seq (.region [⟨.assign (.const (Value.int .i64 1)), some 4, none⟩])
 (.block 0 (.loop (.seq (.seq (.region [⟨.move (.tmp 4), some 8, none⟩,
  ⟨.fieldAddr 41 (.tmp 1) 2, some 9, none⟩,
  ⟨.load 39 (.tmp 9), some 10, none⟩,
  ⟨.call (Go.Call.mk (.builtin .len) #[.tmp 10] #[39]), some 11, none⟩,
  ⟨.binOp .leq 3 (.tmp 8) (.tmp 11) 3, some 12, none⟩])
 (.cond (.tmp 12) .skip
 (.exit 0)))
 (.seq (.block 1 (.seq (.region [⟨.move (.tmp 4), some 15, none⟩,
  ⟨.build 48 #[(0, .tmp 15), (1, .const (Value.int .i64 1))], some 16, none⟩,
  ⟨.alloc 48, some 5, none⟩,
  ⟨.store 48 (.tmp 5) (.tmp 16), none, none⟩])
 (.seq (.region [⟨.load 41 (.tmp 1), some 17, none⟩,
  ⟨.load 48 (.tmp 5), some 18, none⟩,
  ⟨.call (Go.Call.mk (.value (.func 47)) #[.tmp 17, .tmp 18] #[41, 48]), some 19, none⟩,
  ⟨.alloc 73, some 6, none⟩,
  ⟨.store 73 (.tmp 6) (.tmp 19), none, none⟩])
 (.seq (.region [⟨.fieldAddr 73 (.tmp 6) 0, some 20, none⟩,
  ⟨.load 3 (.tmp 20), some 21, none⟩,
  ⟨.binOp .eql 3 (.tmp 21) (.const (Value.int .i64 1)) 3, some 22, none⟩])
 (.cond (.tmp 22) (.seq (.region [⟨.move (.tmp 3), some 23, none⟩,
  ⟨.load 48 (.tmp 5), some 24, none⟩,
  ⟨.buildSlice 42 1 #[(0, .tmp 24)], some 25, none⟩,
  ⟨.call (Go.Call.mk (.builtin .append) #[.tmp 23, .tmp 25] #[42, 42]), some 26, none⟩,
  ⟨.assign (.tmp 26), some 3, none⟩])
 (.seq (.region [⟨.load 73 (.tmp 6), some 27, none⟩,
  ⟨.call (Go.Call.mk (.value (.func 48)) #[.tmp 27] #[73]), some 28, none⟩])
 (.cond (.tmp 28) (.seq (.region [⟨.move (.tmp 3), some 29, none⟩,
  ⟨.assign (.tmp 29), some 2, none⟩])
 .ret)
 .skip)))
 .skip)))))
 (.region [⟨.move (.tmp 4), some 13, none⟩,
  ⟨.binOp .add 3 (.tmp 13) (.const (Value.int .i64 1)) 3, some 14, none⟩,
  ⟨.assign (.tmp 14), some 4, none⟩]))))))
 (.seq (.region [⟨.move (.tmp 3), some 30, none⟩,
  ⟨.assign (.tmp 30), some 2, none⟩])
 .ret))))
theorem fc_ref16_Roots : FnC Try.prog 28 31 [.tmp 2] c_ref16_Roots := ⟨by kernel_rfl, Try.f28, _, Try.func28, rfl, rfl, rfl, by kernel_rfl⟩
/-- craquelure/lower.Names -/
def c_lower_Names : AC := (.seq (.region [⟨.box 41 (.tmp 0), some 2, none⟩,
  ⟨.box 42 (.tmp 1), some 3, none⟩,
  ⟨.assign (.const (Value.slice none 0 0)), some 4, none⟩])
 (.seq (.region [⟨.fieldAddr 41 (.tmp 2) 2, some 12, none⟩,
  ⟨.load 39 (.tmp 12), some 13, none⟩,
  ⟨.assign (.tmp 13), some 5, none⟩])
 (.seq (.region [⟨.assign (.const (Value.slice none 0 0)), some 6, none⟩])
 (.seq (.seq (.region [⟨.load 42 (.tmp 3), some 14, none⟩,
  ⟨.call (Go.Call.mk (.builtin .len) #[.tmp 14] #[42]), some 15, none⟩,
  ⟨.move (.const (Value.int .i64 0)), some 16, none⟩])
 (.block 0 (.loop (.seq (.region [⟨.binOp .lss 3 (.tmp 16) (.tmp 15) 3, some 17, none⟩])
 (.seq (.cond (.tmp 17) .skip
 (.exit 0))
 (.seq (.block 1 (.seq (.region [⟨.indexAddr 42 (.tmp 14) (.tmp 16), some 18, none⟩,
  ⟨.load 48 (.tmp 18), some 19, none⟩,
  ⟨.alloc 48, some 8, none⟩,
  ⟨.store 48 (.tmp 8) (.tmp 19), none, none⟩])
 (.seq (.region [⟨.move (.tmp 5), some 20, none⟩,
  ⟨.load 48 (.tmp 8), some 21, none⟩,
  ⟨.call (Go.Call.mk (.value (.func 50)) #[.tmp 20, .tmp 21] #[66, 48]), some 22, none⟩,
  ⟨.alloc 73, some 9, none⟩,
  ⟨.store 73 (.tmp 9) (.tmp 22), none, none⟩])
 (.seq (.seq (.region [⟨.fieldAddr 73 (.tmp 9) 0, some 23, none⟩,
  ⟨.load 3 (.tmp 23), some 24, none⟩,
  ⟨.binOp .neq 3 (.tmp 24) (.const (Value.int .i64 1)) 3, some 25, none⟩])
 (.cond (.tmp 25) (.exit 1)
 .skip))
 (.seq (.region [⟨.fieldAddr 73 (.tmp 9) 5, some 26, none⟩,
  ⟨.load 67 (.tmp 26), some 27, none⟩,
  ⟨.call (Go.Call.mk (.builtin .len) #[.tmp 27] #[67]), some 28, none⟩,
  ⟨.move (.const (Value.int .i64 0)), some 29, none⟩])
 (.block 2 (.loop (.seq (.region [⟨.binOp .lss 3 (.tmp 29) (.tmp 28) 3, some 30, none⟩])
 (.seq (.cond (.tmp 30) .skip
 (.exit 2))
 (.seq (.block 3 (.seq (.region [⟨.indexAddr 67 (.tmp 27) (.tmp 29), some 31, none⟩,
  ⟨.load 83 (.tmp 31), some 32, none⟩,
  ⟨.alloc 83, some 11, none⟩,
  ⟨.store 83 (.tmp 11) (.tmp 32), none, none⟩])
 (.region [⟨.move (.tmp 6), some 33, none⟩,
  ⟨.fieldAddr 83 (.tmp 11) 2, some 34, none⟩,
  ⟨.load 9 (.tmp 34), some 35, none⟩,
  ⟨.buildSlice 30 1 #[(0, .tmp 35)], some 36, none⟩,
  ⟨.call (Go.Call.mk (.builtin .append) #[.tmp 33, .tmp 36] #[30, 30]), some 37, none⟩,
  ⟨.assign (.tmp 37), some 6, none⟩])))
 (.region [⟨.binOp .add 3 (.tmp 29) (.const (Value.int .i64 1)) 3, some 38, none⟩,
  ⟨.move (.tmp 38), some 29, none⟩])))))))))))
 (.region [⟨.binOp .add 3 (.tmp 16) (.const (Value.int .i64 1)) 3, some 39, none⟩,
  ⟨.move (.tmp 39), some 16, none⟩])))))))
 (.seq (.region [⟨.move (.tmp 6), some 40, none⟩,
  ⟨.call (Go.Call.mk (.value (.func 16)) #[.tmp 40] #[30]), some 41, none⟩,
  ⟨.makeFunc (.func 52) #[] #[.tmp 2, .tmp 3], some 42, none⟩,
  ⟨.call (Go.Call.mk (.value (.func 51)) #[.tmp 41, .tmp 42] #[30, 23]), some 43, none⟩,
  ⟨.assign (.tmp 43), some 4, none⟩])
 .ret)))))
theorem fc_lower_Names : FnC Try.prog 29 44 [.tmp 4] c_lower_Names := ⟨by kernel_rfl, Try.f29, _, Try.func29, rfl, rfl, rfl, by kernel_rfl⟩
/-- craquelure/craquelureref16.Names -/
def c_ref16_Names : AC := (.seq (.region [⟨.box 41 (.tmp 0), some 2, none⟩,
  ⟨.assign (.const (Value.slice none 0 0)), some 4, none⟩])
 (.seq (.region [⟨.buildSlice 30 0 #[], some 11, none⟩,
  ⟨.assign (.tmp 11), some 5, none⟩])
 (.seq (.seq (.region [⟨.assign (.const (Value.int .i64 0)), some 6, none⟩])
 (.block 0 (.loop (.seq (.seq (.region [⟨.move (.tmp 6), some 12, none⟩,
  ⟨.move (.tmp 1), some 13, none⟩,
  ⟨.call (Go.Call.mk (.builtin .len) #[.tmp 13] #[42]), some 14, none⟩,
  ⟨.binOp .lss 3 (.tmp 12) (.tmp 14) 3, some 15, none⟩])
 (.cond (.tmp 15) .skip
 (.exit 0)))
 (.seq (.block 1 (.seq (.draw [⟨.load 41 (.tmp 2), some 18, none⟩,
  ⟨.move (.tmp 1), some 19, none⟩,
  ⟨.move (.tmp 6), some 20, none⟩,
  ⟨.indexAddr 42 (.tmp 19) (.tmp 20), some 21, none⟩,
  ⟨.load 48 (.tmp 21), some 22, none⟩,
  ⟨.call (Go.Call.mk (.value (.func 47)) #[.tmp 18, .tmp 22] #[41, 48]), some 23, none⟩,
  ⟨.alloc 73, some 7, none⟩,
  ⟨.store 73 (.tmp 7) (.tmp 23), none, none⟩] [0, 0, 0, 6, 14, 31, 0, 127] [true, false, false, false, true, true, false, true])
 (.seq (.region [⟨.assign (.const (Value.int .i64 0)), some 8, none⟩])
 (.block 2 (.loop (.seq (.seq (.region [⟨.move (.tmp 8), some 24, none⟩,
  ⟨.fieldAddr 73 (.tmp 7) 5, some 25, none⟩,
  ⟨.load 67 (.tmp 25), some 26, none⟩,
  ⟨.call (Go.Call.mk (.builtin .len) #[.tmp 26] #[67]), some 27, none⟩,
  ⟨.binOp .lss 3 (.tmp 24) (.tmp 27) 3, some 28, none⟩,
  ⟨.move (.tmp 28), some 29, none⟩,
  ⟨.fieldAddr 73 (.tmp 7) 0, some 30, (some (29, true))⟩,
  ⟨.load 3 (.tmp 30), some 31, (some (29, true))⟩,
  ⟨.binOp .eql 3 (.tmp 31) (.const (Value.int .i64 1)) 3, some 32, (some (29, true))⟩,
  ⟨.pick (.tmp 29) (.tmp 32) (.const (Value.bool false)), some 33, none⟩])
 (.cond (.tmp 33) .skip
 (.exit 2)))
 (.seq (.block 3 (.seq (.draw [⟨.load 41 (.tmp 2), some 37, none⟩,
  ⟨.move (.tmp 1), some 38, none⟩,
  ⟨.fieldAddr 73 (.tmp 7) 5, some 39, none⟩,
  ⟨.load 67 (.tmp 39), some 40, none⟩,
  ⟨.move (.tmp 8), some 41, none⟩,
  ⟨.indexAddr 67 (.tmp 40) (.tmp 41), some 42, none⟩,
  ⟨.fieldAddr 83 (.tmp 42) 2, some 43, none⟩,
  ⟨.load 9 (.tmp 43), some 44, none⟩,
  ⟨.call (Go.Call.mk (.value (.func 23)) #[.tmp 37, .tmp 38, .tmp 44] #[41, 42, 9]), some 45, none⟩,
  ⟨.move (.tmp 45), some 36, none⟩,
  ⟨.extract (.tmp 36) 0, some 46, none⟩,
  ⟨.extract (.tmp 36) 1, some 47, none⟩,
  ⟨.assign (.tmp 46), some 9, none⟩,
  ⟨.assign (.tmp 47), some 10, none⟩] [0, 0, 0, 4, 0, 28, 60, 124, 255, 511, 1023, 1023, 2047, 8191] [true, false, false, true, false, false, false, true, true, false, false, false, false, false])
 (.seq (.region [⟨.move (.tmp 9), some 48, none⟩,
  ⟨.binOp .neq 3 (.tmp 48) (.const (Value.int .i64 0)) 3, some 49, none⟩])
 (.cond (.tmp 49) (.region [⟨.move (.tmp 5), some 50, none⟩,
  ⟨.fieldAddr 73 (.tmp 7) 5, some 51, none⟩,
  ⟨.load 67 (.tmp 51), some 52, none⟩,
  ⟨.move (.tmp 8), some 53, none⟩,
  ⟨.indexAddr 67 (.tmp 52) (.tmp 53), some 54, none⟩,
  ⟨.fieldAddr 83 (.tmp 54) 2, some 55, none⟩,
  ⟨.load 9 (.tmp 55), some 56, none⟩,
  ⟨.buildSlice 30 1 #[(0, .tmp 56)], some 57, none⟩,
  ⟨.call (Go.Call.mk (.builtin .append) #[.tmp 50, .tmp 57] #[30, 30]), some 58, none⟩,
  ⟨.assign (.tmp 58), some 5, none⟩])
 .skip))))
 (.region [⟨.move (.tmp 8), some 34, none⟩,
  ⟨.binOp .add 3 (.tmp 34) (.const (Value.int .i64 1)) 3, some 35, none⟩,
  ⟨.assign (.tmp 35), some 8, none⟩]))))))))
 (.region [⟨.move (.tmp 6), some 16, none⟩,
  ⟨.binOp .add 3 (.tmp 16) (.const (Value.int .i64 1)) 3, some 17, none⟩,
  ⟨.assign (.tmp 17), some 6, none⟩]))))))
 (.seq (.region [⟨.move (.tmp 5), some 59, none⟩,
  ⟨.call (Go.Call.mk (.value (.func 18)) #[.tmp 59] #[30]), some 60, none⟩,
  ⟨.assign (.tmp 60), some 4, none⟩])
 .ret))))
theorem fc_ref16_Names : FnC Try.prog 30 61 [.tmp 4] c_ref16_Names := ⟨by kernel_rfl, Try.f30, _, Try.func30, rfl, rfl, rfl, by kernel_rfl⟩
/-- slices.Contains[[]string,string] -/
def c_slices_Contains_string_string : AC := (.seq (.region [⟨.assign (.const (Value.bool false)), some 4, none⟩])
 (.seq (.region [⟨.move (.tmp 0), some 5, none⟩,
  ⟨.move (.tmp 1), some 6, none⟩,
  ⟨.call (Go.Call.mk (.value (.func 53)) #[.tmp 5, .tmp 6] #[30, 9]), some 7, none⟩,
  ⟨.binOp .geq 3 (.tmp 7) (.const (Value.int .i64 0)) 3, some 8, none⟩,
  ⟨.assign (.tmp 8), some 4, none⟩])
 .ret))
theorem fc_slices_Contains_string_string : FnC Try.prog 31 9 [.tmp 4] c_slices_Contains_string_string := ⟨by kernel_rfl, Try.f31, _, Try.func31, rfl, rfl, rfl, by kernel_rfl⟩
/-- craquelure/craquelureref03.letter -/
def c_ref03_letter : AC := (.seq (.region [⟨.assign (.const (Value.bool false)), some 2, none⟩])
 (.seq (.region [⟨.move (.tmp 0), some 3, none⟩,
  ⟨.binOp .geq 5 (.tmp 3) (.const (Value.int .u8 97)) 5, some 4, none⟩,
  ⟨.move (.tmp 4), some 5, none⟩,
  ⟨.move (.tmp 0), some 6, (some (5, true))⟩,
  ⟨.binOp .leq 5 (.tmp 6) (.const (Value.int .u8 122)) 5, some 7, (some (5, true))⟩,
  ⟨.pick (.tmp 5) (.tmp 7) (.const (Value.bool false)), some 8, none⟩,
  ⟨.move (.tmp 8), some 9, none⟩,
  ⟨.move (.tmp 0), some 10, (some (9, false))⟩,
  ⟨.binOp .geq 5 (.tmp 10) (.const (Value.int .u8 48)) 5, some 11, (some (9, false))⟩,
  ⟨.move (.tmp 11), some 12, (some (9, false))⟩,
  ⟨.move (.tmp 0), some 13, (some (12, true))⟩,
  ⟨.binOp .leq 5 (.tmp 13) (.const (Value.int .u8 57)) 5, some 14, (some (12, true))⟩,
  ⟨.pick (.tmp 12) (.tmp 14) (.const (Value.bool false)), some 15, (some (9, false))⟩,
  ⟨.pick (.tmp 9) (.const (Value.bool true)) (.tmp 15), some 16, none⟩,
  ⟨.move (.tmp 16), some 17, none⟩,
  ⟨.move (.tmp 0), some 18, (some (17, false))⟩,
  ⟨.binOp .eql 5 (.tmp 18) (.const (Value.int .u8 46)) 5, some 19, (some (17, false))⟩,
  ⟨.pick (.tmp 17) (.const (Value.bool true)) (.tmp 19), some 20, none⟩,
  ⟨.move (.tmp 20), some 21, none⟩,
  ⟨.move (.tmp 0), some 22, (some (21, false))⟩,
  ⟨.binOp .eql 5 (.tmp 22) (.const (Value.int .u8 95)) 5, some 23, (some (21, false))⟩,
  ⟨.pick (.tmp 21) (.const (Value.bool true)) (.tmp 23), some 24, none⟩,
  ⟨.move (.tmp 24), some 25, none⟩,
  ⟨.move (.tmp 0), some 26, (some (25, false))⟩,
  ⟨.binOp .eql 5 (.tmp 26) (.const (Value.int .u8 45)) 5, some 27, (some (25, false))⟩,
  ⟨.pick (.tmp 25) (.const (Value.bool true)) (.tmp 27), some 28, none⟩,
  ⟨.assign (.tmp 28), some 2, none⟩])
 .ret))
theorem fc_ref03_letter : FnC Try.prog 35 29 [.tmp 2] c_ref03_letter := ⟨by kernel_rfl, Try.f35, _, Try.func35, rfl, rfl, rfl, by kernel_rfl⟩
/-- slices.Clone[[]string,string] -/
def c_slices_Clone_string_string : AC := (.seq (.region [⟨.assign (.const (Value.slice none 0 0)), some 2, none⟩])
 (.seq (.seq (.region [⟨.move (.tmp 0), some 3, none⟩,
  ⟨.binOp .eql 30 (.tmp 3) (.const (Value.slice none 0 0)) 30, some 4, none⟩])
 (.cond (.tmp 4) (.seq (.region [⟨.assign (.const (Value.slice none 0 0)), some 2, none⟩])
 .ret)
 .skip))
 (.seq (.region [⟨.buildSlice 30 0 #[], some 5, none⟩,
  ⟨.move (.tmp 0), some 6, none⟩,
  ⟨.call (Go.Call.mk (.builtin .append) #[.tmp 5, .tmp 6] #[30, 30]), some 7, none⟩,
  ⟨.assign (.tmp 7), some 2, none⟩])
 .ret)))
theorem fc_slices_Clone_string_string : FnC Try.prog 36 8 [.tmp 2] c_slices_Clone_string_string := ⟨by kernel_rfl, Try.f36, _, Try.func36, rfl, rfl, rfl, by kernel_rfl⟩
/-- cmp.Less[string] -/
def c_cmp_Less_string : AC := (.seq (.region [⟨.assign (.const (Value.bool false)), some 4, none⟩])
 (.seq (.region [⟨.move (.tmp 0), some 5, none⟩,
  ⟨.call (Go.Call.mk (.value (.func 57)) #[.tmp 5] #[9]), some 6, none⟩,
  ⟨.move (.tmp 6), some 7, none⟩,
  ⟨.move (.tmp 1), some 8, (some (7, true))⟩,
  ⟨.call (Go.Call.mk (.value (.func 57)) #[.tmp 8] #[9]), some 9, (some (7, true))⟩,
  ⟨.unOp .not 4 (.tmp 9), some 10, (some (7, true))⟩,
  ⟨.pick (.tmp 7) (.tmp 10) (.const (Value.bool false)), some 11, none⟩,
  ⟨.move (.tmp 11), some 12, none⟩,
  ⟨.move (.tmp 0), some 13, (some (12, false))⟩,
  ⟨.move (.tmp 1), some 14, (some (12, false))⟩,
  ⟨.binOp .lss 9 (.tmp 13) (.tmp 14) 9, some 15, (some (12, false))⟩,
  ⟨.pick (.tmp 12) (.const (Value.bool true)) (.tmp 15), some 16, none⟩,
  ⟨.assign (.tmp 16), some 4, none⟩])
 .ret))
theorem fc_cmp_Less_string : FnC Try.prog 39 17 [.tmp 4] c_cmp_Less_string := ⟨by kernel_rfl, Try.f39, _, Try.func39, rfl, rfl, rfl, by kernel_rfl⟩
/-- craquelure/craquelureplain.Branch -/
def c_plain_Branch : AC := (.seq (.region [⟨.box 38 (.tmp 0), some 2, none⟩,
  ⟨.assign (.const (Value.bool false)), some 4, none⟩])
 (.seq (.region [⟨.fieldAddr 38 (.tmp 2) 0, some 5, none⟩,
  ⟨.load 36 (.tmp 5), some 6, none⟩,
  ⟨.call (Go.Call.mk (.builtin .len) #[.tmp 6] #[36]), some 7, none⟩,
  ⟨.move (.tmp 1), some 8, none⟩,
  ⟨.binOp .leq 3 (.tmp 7) (.tmp 8) 3, some 9, none⟩,
  ⟨.move (.tmp 9), some 10, none⟩,
  ⟨.fieldAddr 38 (.tmp 2) 0, some 11, (some (10, true))⟩,
  ⟨.load 36 (.tmp 11), some 12, (some (10, true))⟩,
  ⟨.call (Go.Call.mk (.value (.func 58)) #[.tmp 12, .func 59] #[36, 76]), some 13, (some (10, true))⟩,
  ⟨.unOp .not 4 (.tmp 13), some 14, (some (10, true))⟩,
  ⟨.pick (.tmp 10) (.tmp 14) (.const (Value.bool false)), some 15, none⟩,
  ⟨.assign (.tmp 15), some 4, none⟩])
 .ret))
theorem fc_plain_Branch : FnC Try.prog 40 16 [.tmp 4] c_plain_Branch := ⟨by kernel_rfl, Try.f40, _, Try.func40, rfl, rfl, rfl, by kernel_rfl⟩
/-- slices.ContainsFunc[[]craquelure/api.Branch,craquelure/api.Branch] -/
def c_slices_ContainsFunc_api_Branch_api_Branch : AC := (.seq (.region [⟨.assign (.const (Value.bool false)), some 4, none⟩])
 (.seq (.region [⟨.move (.tmp 0), some 5, none⟩,
  ⟨.move (.tmp 1), some 6, none⟩,
  ⟨.call (Go.Call.mk (.value (.func 61)) #[.tmp 5, .tmp 6] #[39, 64]), some 7, none⟩,
  ⟨.binOp .geq 3 (.tmp 7) (.const (Value.int .i64 0)) 3, some 8, none⟩,
  ⟨.assign (.tmp 8), some 4, none⟩])
 .ret))
theorem fc_slices_ContainsFunc_api_Branch_api_Branch : FnC Try.prog 41 9 [.tmp 4] c_slices_ContainsFunc_api_Branch_api_Branch := ⟨by kernel_rfl, Try.f41, _, Try.func41, rfl, rfl, rfl, by kernel_rfl⟩
/-- craquelure/craquelureplain.Stack$1 -/
def c_plain_Stack_1 : AC := (.seq (.region [⟨.box 38 (.tmp 0), some 2, none⟩,
  ⟨.assign (.const (Value.bool false)), some 3, none⟩])
 (.seq (.region [⟨.load 38 (.tmp 2), some 4, none⟩,
  ⟨.load 3 (.tmp 1), some 5, none⟩,
  ⟨.call (Go.Call.mk (.value (.func 40)) #[.tmp 4, .tmp 5] #[38, 3]), some 6, none⟩,
  ⟨.unOp .not 4 (.tmp 6), some 7, none⟩,
  ⟨.assign (.tmp 7), some 3, none⟩])
 .ret))
theorem fc_plain_Stack_1 : FnC Try.prog 42 8 [.tmp 3] c_plain_Stack_1 := ⟨by kernel_rfl, Try.f42, _, Try.func42, rfl, rfl, rfl, by kernel_rfl⟩
/-- craquelure/craquelureplain.Base -/
def c_plain_Base : AC := (.seq (.region [⟨.alloc 41, some 0, none⟩])
 (.seq (.region [⟨.build 35 #[(0, .const (Value.int .i64 1)), (1, .const (Value.int .i64 5)), (2, .const (Value.int .i64 6)), (3, .const (Value.int .i64 5))], some 2, none⟩,
  ⟨.build 41 #[(0, .tmp 2)], some 3, none⟩,
  ⟨.alloc 41, some 1, none⟩,
  ⟨.store 41 (.tmp 1) (.tmp 3), none, none⟩])
 (.seq (.region [⟨.build 83 #[(1, .const (Value.int .i64 2)), (2, .const (Value.string (ByteArray.mk #[97])))], some 4, none⟩,
  ⟨.buildSlice 67 1 #[(0, .tmp 4)], some 5, none⟩,
  ⟨.call (Go.Call.mk (.value (.func 62)) #[.tmp 5] #[67]), some 6, none⟩,
  ⟨.buildSlice 25 1 #[(0, .const (Value.int .u8 120))], some 7, none⟩,
  ⟨.build 73 #[(0, .const (Value.int .i64 2)), (2, .const (Value.int .i64 1)), (3, .const (Value.int .i64 3)), (4, .tmp 7)], some 8, none⟩,
  ⟨.build 73 #[], some 9, none⟩,
  ⟨.build 73 #[], some 10, none⟩,
  ⟨.build 73 #[], some 11, none⟩,
  ⟨.buildSlice 36 5 #[(0, .tmp 6), (1, .tmp 8), (2, .tmp 9), (3, .tmp 10), (4, .tmp 11)], some 12, none⟩,
  ⟨.build 38 #[(0, .tmp 12)], some 13, none⟩,
  ⟨.buildSlice 39 1 #[(0, .tmp 13)], some 14, none⟩,
  ⟨.fieldAddr 41 (.tmp 1) 2, some 15, none⟩,
  ⟨.store 39 (.tmp 15) (.tmp 14), none, none⟩])
 (.seq (.region [⟨.call (Go.Call.mk (.value (.func 62)) #[.const (Value.slice none 0 0)] #[67]), some 16, none⟩,
  ⟨.call (Go.Call.mk (.value (.func 62)) #[.const (Value.slice none 0 0)] #[67]), some 17, none⟩,
  ⟨.call (Go.Call.mk (.value (.func 62)) #[.const (Value.slice none 0 0)] #[67]), some 18, none⟩,
  ⟨.build 73 #[], some 19, none⟩,
  ⟨.build 73 #[], some 20, none⟩,
  ⟨.buildSlice 36 5 #[(0, .tmp 16), (1, .tmp 17), (2, .tmp 18), (3, .tmp 19), (4, .tmp 20)], some 21, none⟩,
  ⟨.build 38 #[(0, .tmp 21)], some 22, none⟩,
  ⟨.fieldAddr 41 (.tmp 1) 1, some 23, none⟩,
  ⟨.store 38 (.tmp 23) (.tmp 22), none, none⟩])
 (.seq (.region [⟨.load 41 (.tmp 1), some 24, none⟩,
  ⟨.store 41 (.tmp 0) (.tmp 24), none, none⟩])
 .ret)))))
theorem fc_plain_Base : FnC Try.prog 43 25 [.cell 0 41] c_plain_Base := ⟨by kernel_rfl, Try.f43, _, Try.func43, rfl, rfl, rfl, by kernel_rfl⟩
/-- (craquelure/lower.pile).entry -/
def c_lower_pile_entry : AC := (.seq (.region [⟨.box 48 (.tmp 1), some 4, none⟩,
  ⟨.alloc 48, some 6, none⟩,
  ⟨.alloc 73, some 7, none⟩])
 (.seq (.region [⟨.move (.tmp 0), some 13, none⟩,
  ⟨.load 48 (.tmp 4), some 14, none⟩,
  ⟨.call (Go.Call.mk (.value (.func 50)) #[.tmp 13, .tmp 14] #[66, 48]), some 15, none⟩,
  ⟨.alloc 73, some 8, none⟩,
  ⟨.store 73 (.tmp 8) (.tmp 15), none, none⟩])
 (.seq (.seq (.region [⟨.fieldAddr 73 (.tmp 8) 0, some 16, none⟩,
  ⟨.load 3 (.tmp 16), some 17, none⟩,
  ⟨.binOp .neq 3 (.tmp 17) (.const (Value.int .i64 1)) 3, some 18, none⟩])
 (.cond (.tmp 18) (.seq (.region [⟨.build 48 #[], some 19, none⟩,
  ⟨.build 73 #[], some 20, none⟩,
  ⟨.store 48 (.tmp 6) (.tmp 19), none, none⟩,
  ⟨.store 73 (.tmp 7) (.tmp 20), none, none⟩])
 .ret)
 .skip))
 (.seq (.seq (.region [⟨.fieldAddr 73 (.tmp 8) 5, some 21, none⟩,
  ⟨.load 67 (.tmp 21), some 22, none⟩,
  ⟨.call (Go.Call.mk (.builtin .len) #[.tmp 22] #[67]), some 23, none⟩,
  ⟨.move (.const (Value.int .i64 0)), some 24, none⟩])
 (.block 0 (.loop (.seq (.region [⟨.binOp .lss 3 (.tmp 24) (.tmp 23) 3, some 25, none⟩])
 (.seq (.cond (.tmp 25) .skip
 (.exit 0))
 (.seq (.block 1 (.seq (.region [⟨.indexAddr 67 (.tmp 22) (.tmp 24), some 26, none⟩,
  ⟨.load 83 (.tmp 26), some 27, none⟩,
  ⟨.alloc 83, some 10, none⟩,
  ⟨.store 83 (.tmp 10) (.tmp 27), none, none⟩])
 (.seq (.region [⟨.fieldAddr 48 (.tmp 4) 0, some 28, none⟩,
  ⟨.load 3 (.tmp 28), some 29, none⟩,
  ⟨.fieldAddr 83 (.tmp 10) 1, some 30, none⟩,
  ⟨.load 3 (.tmp 30), some 31, none⟩,
  ⟨.build 48 #[(0, .tmp 29), (1, .tmp 31)], some 32, none⟩,
  ⟨.alloc 48, some 11, none⟩,
  ⟨.store 48 (.tmp 11) (.tmp 32), none, none⟩])
 (.seq (.region [⟨.move (.tmp 0), some 33, none⟩,
  ⟨.load 48 (.tmp 11), some 34, none⟩,
  ⟨.call (Go.Call.mk (.value (.func 50)) #[.tmp 33, .tmp 34] #[66, 48]), some 35, none⟩,
  ⟨.alloc 73, some 12, none⟩,
  ⟨.store 73 (.tmp 12) (.tmp 35), none, none⟩])
 (.seq (.region [⟨.fieldAddr 83 (.tmp 10) 2, some 36, none⟩,
  ⟨.load 9 (.tmp 36), some 37, none⟩,
  ⟨.move (.tmp 2), some 38, none⟩,
  ⟨.binOp .eql 9 (.tmp 37) (.tmp 38) 9, some 39, none⟩,
  ⟨.move (.tmp 39), some 40, none⟩,
  ⟨.fieldAddr 73 (.tmp 12) 0, some 41, (some (40, true))⟩,
  ⟨.load 3 (.tmp 41), some 42, (some (40, true))⟩,
  ⟨.binOp .neq 3 (.tmp 42) (.const (Value.int .i64 0)) 3, some 43, (some (40, true))⟩,
  ⟨.pick (.tmp 40) (.tmp 43) (.const (Value.bool false)), some 44, none⟩])
 (.cond (.tmp 44) (.seq (.draw [⟨.load 48 (.tmp 11), some 45, none⟩,
  ⟨.load 73 (.tmp 12), some 46, none⟩,
  ⟨.store 48 (.tmp 6) (.tmp 45), none, none⟩,
  ⟨.store 73 (.tmp 7) (.tmp 46), none, none⟩] [0, 0, 1, 7] [])
 .ret)
 .skip))))))
 (.region [⟨.binOp .add 3 (.tmp 24) (.const (Value.int .i64 1)) 3, some 47, none⟩,
  ⟨.move (.tmp 47), some 24, none⟩])))))))
 (.seq (.region [⟨.build 48 #[], some 48, none⟩,
  ⟨.build 73 #[], some 49, none⟩,
  ⟨.store 48 (.tmp 6) (.tmp 48), none, none⟩,
  ⟨.store 73 (.tmp 7) (.tmp 49), none, none⟩])
 .ret)))))
theorem fc_lower_pile_entry : FnC Try.prog 44 50 [.cell 6 48, .cell 7 73] c_lower_pile_entry := ⟨by kernel_rfl, Try.f44, _, Try.func44, rfl, rfl, rfl, by kernel_rfl⟩
/-- craquelure/lower.opaque -/
def c_lower_opaque : AC := (.seq (.region [⟨.box 73 (.tmp 0), some 1, none⟩,
  ⟨.assign (.const (Value.bool false)), some 2, none⟩])
 (.seq (.region [⟨.fieldAddr 73 (.tmp 1) 6, some 3, none⟩,
  ⟨.fieldAddr 71 (.tmp 3) 0, some 4, none⟩,
  ⟨.load 3 (.tmp 4), some 5, none⟩,
  ⟨.binOp .geq 3 (.tmp 5) (.const (Value.int .i64 0)) 3, some 6, none⟩,
  ⟨.move (.tmp 6), some 7, none⟩,
  ⟨.fieldAddr 73 (.tmp 1) 6, some 8, (some (7, true))⟩,
  ⟨.fieldAddr 71 (.tmp 8) 0, some 9, (some (7, true))⟩,
  ⟨.load 3 (.tmp 9), some 10, (some (7, true))⟩,
  ⟨.binOp .and 3 (.tmp 10) (.const (Value.int .i64 1)) 3, some 11, (some (7, true))⟩,
  ⟨.binOp .neq 3 (.tmp 11) (.const (Value.int .i64 0)) 3, some 12, (some (7, true))⟩,
  ⟨.pick (.tmp 7) (.tmp 12) (.const (Value.bool false)), some 13, none⟩,
  ⟨.move (.tmp 13), some 14, none⟩,
  ⟨.fieldAddr 73 (.tmp 1) 6, some 15, (some (14, true))⟩,
  ⟨.fieldAddr 71 (.tmp 15) 1, some 16, (some (14, true))⟩,
  ⟨.load 3 (.tmp 16), some 17, (some (14, true))⟩,
  ⟨.binOp .eql 3 (.tmp 17) (.const (Value.int .i64 121)) 3, some 18, (some (14, true))⟩,
  ⟨.pick (.tmp 14) (.tmp 18) (.const (Value.bool false)), some 19, none⟩,
  ⟨.assign (.tmp 19), some 2, none⟩])
 .ret))
theorem fc_lower_opaque : FnC Try.prog 45 20 [.tmp 2] c_lower_opaque := ⟨by kernel_rfl, Try.f45, _, Try.func45, rfl, rfl, rfl, by kernel_rfl⟩
/-- craquelure/craquelureref16.entry -/
def c_ref16_entry : AC := (.seq (.region [⟨.box 41 (.tmp 0), some 3, none⟩,
  ⟨.box 48 (.tmp 1), some 4, none⟩,
  ⟨.alloc 48, some 6, none⟩,
  ⟨.assign (.const (Value.bool false)), some 7, none⟩])
 (.seq (.region [⟨.load 41 (.tmp 3), some 11, none⟩,
  ⟨.load 48 (.tmp 4), some 12, none⟩,
  ⟨.call (Go.Call.mk (.value (.func 47)) #[.tmp 11, .tmp 12] #[41, 48]), some 13, none⟩,
  ⟨.alloc 73, some 8, none⟩,
  ⟨.store 73 (.tmp 8) (.tmp 13), none, none⟩])
 (.seq (.seq (.region [⟨.fieldAddr 73 (.tmp 8) 0, some 14, none⟩,
  ⟨.load 3 (.tmp 14), some 15, none⟩,
  ⟨.binOp .neq 3 (.tmp 15) (.const (Value.int .i64 1)) 3, some 16, none⟩])
 (.cond (.tmp 16) (.seq (.region [⟨.build 48 #[], some 17, none⟩,
  ⟨.store 48 (.tmp 6) (.tmp 17), none, none⟩,
  ⟨.assign (.const (Value.bool false)), some 7, none⟩])
 .ret)
 .skip))
 (.seq (.seq (.region [⟨.assign (.const (Value.int .i64 0)), some 9, none⟩])
 (.block 0 (.loop (.seq (.seq (.region [⟨.move (.tmp 9), some 18, none⟩,
  ⟨.fieldAddr 73 (.tmp 8) 5, some 19, none⟩,
  ⟨.load 67 (.tmp 19), some 20, none⟩,
  ⟨.call (Go.Call.mk (.builtin .len) #[.tmp 20] #[67]), some 21, none⟩,
  ⟨.binOp .lss 3 (.tmp 18) (.tmp 21) 3, some 22, none⟩])
 (.cond (.tmp 22) .skip
 (.exit 0)))
 (.seq (.block 1 (.seq (.draw [⟨.fieldAddr 48 (.tmp 4) 0, some 25, none⟩,
  ⟨.load 3 (.tmp 25), some 26, none⟩,
  ⟨.fieldAddr 73 (.tmp 8) 5, some 27, none⟩,
  ⟨.load 67 (.tmp 27), some 28, none⟩,
  ⟨.move (.tmp 9), some 29, none⟩,
  ⟨.indexAddr 67 (.tmp 28) (.tmp 29), some 30, none⟩,
  ⟨.fieldAddr 83 (.tmp 30) 1, some 31, none⟩,
  ⟨.load 3 (.tmp 31), some 32, none⟩,
  ⟨.build 48 #[(0, .tmp 26), (1, .tmp 32)], some 33, none⟩,
  ⟨.alloc 48, some 10, none⟩,
  ⟨.store 48 (.tmp 10) (.tmp 33), none, none⟩] [0, 1, 0, 4, 0, 28, 60, 124, 255, 0, 1023] [false, true, false, true, false, false, false, true, false, false, true])
 (.seq (.region [⟨.fieldAddr 73 (.tmp 8) 5, some 34, none⟩,
  ⟨.load 67 (.tmp 34), some 35, none⟩,
  ⟨.move (.tmp 9), some 36, none⟩,
  ⟨.indexAddr 67 (.tmp 35) (.tmp 36), some 37, none⟩,
  ⟨.fieldAddr 83 (.tmp 37) 2, some 38, none⟩,
  ⟨.load 9 (.tmp 38), some 39, none⟩,
  ⟨.move (.tmp 2), some 40, none⟩,
  ⟨.binOp .eql 9 (.tmp 39) (.tmp 40) 9, some 41, none⟩,
  ⟨.move (.tmp 41), some 42, none⟩,
  ⟨.load 41 (.tmp 3), some 43, (some (42, true))⟩,
  ⟨.load 48 (.tmp 10), some 44, (some (42, true))⟩,
  ⟨.call (Go.Call.mk (.value (.func 47)) #[.tmp 43, .tmp 44] #[41, 48]), some 45, (some (42, true))⟩,
  ⟨.field 73 (.tmp 45) 0, some 46, (some (42, true))⟩,
  ⟨.binOp .neq 3 (.tmp 46) (.const (Value.int .i64 0)) 3, some 47, (some (42, true))⟩,
  ⟨.pick (.tmp 42) (.tmp 47) (.const (Value.bool false)), some 48, none⟩])
 (.cond (.tmp 48) (.seq (.region [⟨.load 48 (.tmp 10), some 49, none⟩,
  ⟨.store 48 (.tmp 6) (.tmp 49), none, none⟩,
  ⟨.assign (.const (Value.bool true)), some 7, none⟩])
 .ret)
 .skip))))
 (.region [⟨.move (.tmp 9), some 23, none⟩,
  ⟨.binOp .add 3 (.tmp 23) (.const (Value.int .i64 1)) 3, some 24, none⟩,
  ⟨.assign (.tmp 24), some 9, none⟩]))))))
 (.seq (.region [⟨.build 48 #[], some 50, none⟩,
  ⟨.store 48 (.tmp 6) (.tmp 50), none, none⟩,
  ⟨.assign (.const (Value.bool false)), some 7, none⟩])
 .ret)))))
theorem fc_ref16_entry : FnC Try.prog 46 51 [.cell 6 48, .tmp 7] c_ref16_entry := ⟨by kernel_rfl, Try.f46, _, Try.func46, rfl, rfl, rfl, by kernel_rfl⟩
/-- craquelure/craquelureref15.Lower -/
def c_ref15_Lower : AC := (.seq (.region [⟨.box 41 (.tmp 0), some 2, none⟩,
  ⟨.box 48 (.tmp 1), some 3, none⟩,
  ⟨.alloc 73, some 4, none⟩])
 (.seq (.seq (.region [⟨.fieldAddr 48 (.tmp 3) 0, some 5, none⟩,
  ⟨.load 3 (.tmp 5), some 6, none⟩,
  ⟨.binOp .lss 3 (.tmp 6) (.const (Value.int .i64 1)) 3, some 7, none⟩,
  ⟨.move (.tmp 7), some 8, none⟩,
  ⟨.fieldAddr 48 (.tmp 3) 0, some 9, (some (8, false))⟩,
  ⟨.load 3 (.tmp 9), some 10, (some (8, false))⟩,
  ⟨.fieldAddr 41 (.tmp 2) 2, some 11, (some (8, false))⟩,
  ⟨.load 39 (.tmp 11), some 12, (some (8, false))⟩,
  ⟨.call (Go.Call.mk (.builtin .len) #[.tmp 12] #[39]), some 13, (some (8, false))⟩,
  ⟨.binOp .gtr 3 (.tmp 10) (.tmp 13) 3, some 14, (some (8, false))⟩,
  ⟨.pick (.tmp 8) (.const (Value.bool true)) (.tmp 14), some 15, none⟩])
 (.cond (.tmp 15) (.seq (.region [⟨.build 73 #[], some 16, none⟩,
  ⟨.store 73 (.tmp 4) (.tmp 16), none, none⟩])
 .ret)
 .skip))
 (.seq (.draw [⟨.fieldAddr 41 (.tmp 2) 2, some 17, none⟩,
  ⟨.load 39 (.tmp 17), some 18, none⟩,
  ⟨.fieldAddr 48 (.tmp 3) 0, some 19, none⟩,
  ⟨.load 3 (.tmp 19), some 20, none⟩,
  ⟨.binOp .sub 3 (.tmp 20) (.const (Value.int .i64 1)) 3, some 21, none⟩,
  ⟨.indexAddr 39 (.tmp 18) (.tmp 21), some 22, none⟩,
  ⟨.load 38 (.tmp 22), some 23, none⟩,
  ⟨.fieldAddr 48 (.tmp 3) 1, some 24, none⟩,
  ⟨.load 3 (.tmp 24), some 25, none⟩,
  ⟨.call (Go.Call.mk (.value (.func 63)) #[.tmp 23, .tmp 25] #[38, 3]), some 26, none⟩,
  ⟨.store 73 (.tmp 4) (.tmp 26), none, none⟩] [0, 1, 0, 4, 12, 31, 63, 0, 128, 511, 1023] [false, true, false, true, false, false, true, false, true, true, true])
 .ret)))
theorem fc_ref15_Lower : FnC Try.prog 47 27 [.cell 4 73] c_ref15_Lower := ⟨by kernel_rfl, Try.f47, _, Try.func47, rfl, rfl, rfl, by kernel_rfl⟩
/-- craquelure/craquelureref16.Opaque -/
def c_ref16_Opaque : AC := (.seq (.region [⟨.box 73 (.tmp 0), some 1, none⟩,
  ⟨.assign (.const (Value.bool false)), some 2, none⟩])
 (.seq (.region [⟨.fieldAddr 73 (.tmp 1) 6, some 3, none⟩,
  ⟨.load 71 (.tmp 3), some 4, none⟩,
  ⟨.call (Go.Call.mk (.value (.func 64)) #[.tmp 4, .const (Value.int .i64 1)] #[71, 3]), some 5, none⟩,
  ⟨.move (.tmp 5), some 6, none⟩,
  ⟨.fieldAddr 73 (.tmp 1) 6, some 7, (some (6, true))⟩,
  ⟨.fieldAddr 71 (.tmp 7) 1, some 8, (some (6, true))⟩,
  ⟨.load 3 (.tmp 8), some 9, (some (6, true))⟩,
  ⟨.binOp .eql 3 (.tmp 9) (.const (Value.int .i64 121)) 3, some 10, (some (6, true))⟩,
  ⟨.pick (.tmp 6) (.tmp 10) (.const (Value.bool false)), some 11, none⟩,
  ⟨.assign (.tmp 11), some 2, none⟩])
 .ret))
theorem fc_ref16_Opaque : FnC Try.prog 48 12 [.tmp 2] c_ref16_Opaque := ⟨by kernel_rfl, Try.f48, _, Try.func48, rfl, rfl, rfl, by kernel_rfl⟩
/-- slices.Clone[[]craquelure/api.Place,craquelure/api.Place] -/
def c_slices_Clone_api_Place_api_Place : AC := (.seq (.region [⟨.assign (.const (Value.slice none 0 0)), some 2, none⟩])
 (.seq (.seq (.region [⟨.move (.tmp 0), some 3, none⟩,
  ⟨.binOp .eql 42 (.tmp 3) (.const (Value.slice none 0 0)) 42, some 4, none⟩])
 (.cond (.tmp 4) (.seq (.region [⟨.assign (.const (Value.slice none 0 0)), some 2, none⟩])
 .ret)
 .skip))
 (.seq (.region [⟨.buildSlice 42 0 #[], some 5, none⟩,
  ⟨.move (.tmp 0), some 6, none⟩,
  ⟨.call (Go.Call.mk (.builtin .append) #[.tmp 5, .tmp 6] #[42, 42]), some 7, none⟩,
  ⟨.assign (.tmp 7), some 2, none⟩])
 .ret)))
theorem fc_slices_Clone_api_Place_api_Place : FnC Try.prog 49 8 [.tmp 2] c_slices_Clone_api_Place_api_Place := ⟨by kernel_rfl, Try.f49, _, Try.func49, rfl, rfl, rfl, by kernel_rfl⟩
/-- (craquelure/lower.pile).node -/
def c_lower_pile_node : AC := (.seq (.region [⟨.box 48 (.tmp 1), some 3, none⟩,
  ⟨.alloc 73, some 4, none⟩])
 (.seq (.seq (.region [⟨.fieldAddr 48 (.tmp 3) 0, some 6, none⟩,
  ⟨.load 3 (.tmp 6), some 7, none⟩,
  ⟨.binOp .lss 3 (.tmp 7) (.const (Value.int .i64 1)) 3, some 8, none⟩,
  ⟨.move (.tmp 8), some 9, none⟩,
  ⟨.fieldAddr 48 (.tmp 3) 0, some 10, (some (9, false))⟩,
  ⟨.load 3 (.tmp 10), some 11, (some (9, false))⟩,
  ⟨.move (.tmp 0), some 12, (some (9, false))⟩,
  ⟨.call (Go.Call.mk (.builtin .len) #[.tmp 12] #[66]), some 13, (some (9, false))⟩,
  ⟨.binOp .gtr 3 (.tmp 11) (.tmp 13) 3, some 14, (some (9, false))⟩,
  ⟨.pick (.tmp 9) (.const (Value.bool true)) (.tmp 14), some 15, none⟩])
 (.cond (.tmp 15) (.seq (.region [⟨.build 73 #[], some 16, none⟩,
  ⟨.store 73 (.tmp 4) (.tmp 16), none, none⟩])
 .ret)
 .skip))
 (.seq (.region [⟨.move (.tmp 0), some 17, none⟩,
  ⟨.fieldAddr 48 (.tmp 3) 0, some 18, none⟩,
  ⟨.load 3 (.tmp 18), some 19, none⟩,
  ⟨.binOp .sub 3 (.tmp 19) (.const (Value.int .i64 1)) 3, some 20, none⟩,
  ⟨.indexAddr 66 (.tmp 17) (.tmp 20), some 21, none⟩,
  ⟨.fieldAddr 38 (.tmp 21) 0, some 22, none⟩,
  ⟨.load 36 (.tmp 22), some 23, none⟩,
  ⟨.assign (.tmp 23), some 5, none⟩])
 (.seq (.seq (.region [⟨.fieldAddr 48 (.tmp 3) 1, some 24, none⟩,
  ⟨.load 3 (.tmp 24), some 25, none⟩,
  ⟨.binOp .lss 3 (.tmp 25) (.const (Value.int .i64 1)) 3, some 26, none⟩,
  ⟨.move (.tmp 26), some 27, none⟩,
  ⟨.fieldAddr 48 (.tmp 3) 1, some 28, (some (27, false))⟩,
  ⟨.load 3 (.tmp 28), some 29, (some (27, false))⟩,
  ⟨.move (.tmp 5), some 30, (some (27, false))⟩,
  ⟨.call (Go.Call.mk (.builtin .len) #[.tmp 30] #[36]), some 31, (some (27, false))⟩,
  ⟨.binOp .gtr 3 (.tmp 29) (.tmp 31) 3, some 32, (some (27, false))⟩,
  ⟨.pick (.tmp 27) (.const (Value.bool true)) (.tmp 32), some 33, none⟩])
 (.cond (.tmp 33) (.seq (.region [⟨.build 73 #[], some 34, none⟩,
  ⟨.store 73 (.tmp 4) (.tmp 34), none, none⟩])
 .ret)
 .skip))
 (.seq (.region [⟨.move (.tmp 5), some 35, none⟩,
  ⟨.fieldAddr 48 (.tmp 3) 1, some 36, none⟩,
  ⟨.load 3 (.tmp 36), some 37, none⟩,
  ⟨.binOp .sub 3 (.tmp 37) (.const (Value.int .i64 1)) 3, some 38, none⟩,
  ⟨.indexAddr 36 (.tmp 35) (.tmp 38), some 39, none⟩,
  ⟨.load 73 (.tmp 39), some 40, none⟩,
  ⟨.store 73 (.tmp 4) (.tmp 40), none, none⟩])
 .ret)))))
theorem fc_lower_pile_node : FnC Try.prog 50 41 [.cell 4 73] c_lower_pile_node := ⟨by kernel_rfl, Try.f50, _, Try.func50, rfl, rfl, rfl, by kernel_rfl⟩
/-- slices.DeleteFunc[[]string,string] -/
def c_slices_DeleteFunc_string_string : AC := (.seq (.region [⟨.assign (.const (Value.slice none 0 0)), some 4, none⟩])
 (.seq (.region [⟨.move (.tmp 0), some 8, none⟩,
  ⟨.move (.tmp 1), some 9, none⟩,
  ⟨.call (Go.Call.mk (.value (.func 65)) #[.tmp 8, .tmp 9] #[30, 23]), some 10, none⟩,
  ⟨.assign (.tmp 10), some 5, none⟩])
 (.seq (.seq (.region [⟨.move (.tmp 5), some 11, none⟩,
  ⟨.binOp .eql 3 (.tmp 11) (.const (Value.int .i64 (-1))) 3, some 12, none⟩])
 (.cond (.tmp 12) (.seq (.region [⟨.move (.tmp 0), some 13, none⟩,
  ⟨.assign (.tmp 13), some 4, none⟩])
 .ret)
 .skip))
 (.seq (.seq (.region [⟨.move (.tmp 5), some 14, none⟩,
  ⟨.binOp .add 3 (.tmp 14) (.const (Value.int .i64 1)) 3, some 15, none⟩,
  ⟨.assign (.tmp 15), some 6, none⟩])
 (.block 0 (.loop (.seq (.seq (.region [⟨.move (.tmp 6), some 16, none⟩,
  ⟨.move (.tmp 0), some 17, none⟩,
  ⟨.call (Go.Call.mk (.builtin .len) #[.tmp 17] #[30]), some 18, none⟩,
  ⟨.binOp .lss 3 (.tmp 16) (.tmp 18) 3, some 19, none⟩])
 (.cond (.tmp 19) .skip
 (.exit 0)))
 (.seq (.block 1 (.seq (.region [⟨.move (.tmp 0), some 22, none⟩,
  ⟨.move (.tmp 6), some 23, none⟩,
  ⟨.indexAddr 30 (.tmp 22) (.tmp 23), some 24, none⟩,
  ⟨.load 9 (.tmp 24), some 25, none⟩,
  ⟨.assign (.tmp 25), some 7, none⟩])
 (.seq (.region [⟨.move (.tmp 1), some 26, none⟩,
  ⟨.move (.tmp 7), some 27, none⟩,
  ⟨.call (Go.Call.mk (.value (.tmp 26)) #[.tmp 27] #[9]), some 28, none⟩,
  ⟨.unOp .not 4 (.tmp 28), some 29, none⟩])
 (.cond (.tmp 29) (.seq (.region [⟨.move (.tmp 0), some 30, none⟩,
  ⟨.move (.tmp 5), some 31, none⟩,
  ⟨.move (.tmp 7), some 32, none⟩,
  ⟨.indexAddr 30 (.tmp 30) (.tmp 31), some 33, none⟩,
  ⟨.store 9 (.tmp 33) (.tmp 32), none, none⟩])
 (.region [⟨.move (.tmp 5), some 34, none⟩,
  ⟨.binOp .add 3 (.tmp 34) (.const (Value.int .i64 1)) 3, some 35, none⟩,
  ⟨.assign (.tmp 35), some 5, none⟩]))
 .skip))))
 (.region [⟨.move (.tmp 6), some 20, none⟩,
  ⟨.binOp .add 3 (.tmp 20) (.const (Value.int .i64 1)) 3, some 21, none⟩,
  ⟨.assign (.tmp 21), some 6, none⟩]))))))
 (.seq (.region [⟨.move (.tmp 0), some 36, none⟩,
  ⟨.move (.tmp 5), some 37, none⟩,
  ⟨.slice 30 (.tmp 36) (some (.tmp 37)) none none, some 38, none⟩,
  ⟨.call (Go.Call.mk (.builtin .clear) #[.tmp 38] #[30]), none, none⟩])
 (.seq (.region [⟨.move (.tmp 0), some 39, none⟩,
  ⟨.move (.tmp 5), some 40, none⟩,
  ⟨.slice 30 (.tmp 39) none (some (.tmp 40)) none, some 41, none⟩,
  ⟨.assign (.tmp 41), some 4, none⟩])
 .ret))))))
theorem fc_slices_DeleteFunc_string_string : FnC Try.prog 51 42 [.tmp 4] c_slices_DeleteFunc_string_string := ⟨by kernel_rfl, Try.f51, _, Try.func51, rfl, rfl, rfl, by kernel_rfl⟩
/-- craquelure/lower.Names$1 -/
def c_lower_Names_1 : AC := (.seq (.region [⟨.assign (.const (Value.bool false)), some 4, none⟩])
 (.seq (.region [⟨.load 41 (.tmp 1), some 8, none⟩,
  ⟨.load 42 (.tmp 2), some 9, none⟩,
  ⟨.move (.tmp 0), some 10, none⟩,
  ⟨.call (Go.Call.mk (.value (.func 22)) #[.tmp 8, .tmp 9, .tmp 10] #[41, 42, 9]), some 11, none⟩,
  ⟨.move (.tmp 11), some 7, none⟩,
  ⟨.extract (.tmp 7) 0, some 12, none⟩,
  ⟨.extract (.tmp 7) 1, some 13, none⟩,
  ⟨.assign (.tmp 12), some 5, none⟩,
  ⟨.assign (.tmp 13), some 6, none⟩])
 (.seq (.region [⟨.move (.tmp 5), some 14, none⟩,
  ⟨.binOp .eql 3 (.tmp 14) (.const (Value.int .i64 0)) 3, some 15, none⟩,
  ⟨.assign (.tmp 15), some 4, none⟩])
 .ret)))
theorem fc_lower_Names_1 : FnC Try.prog 52 16 [.tmp 4] c_lower_Names_1 := ⟨by kernel_rfl, Try.f52, _, Try.func52, rfl, rfl, rfl, by kernel_rfl⟩
/-- slices.Index[[]string,string] -/
def c_slices_Index_string_string : AC := (.seq (.region [⟨.assign (.const (Value.int .i64 0)), some 4, none⟩])
 (.seq (.seq (.region [⟨.move (.tmp 0), some 6, none⟩,
  ⟨.call (Go.Call.mk (.builtin .len) #[.tmp 6] #[30]), some 7, none⟩,
  ⟨.move (.const (Value.int .i64 0)), some 8, none⟩])
 (.block 0 (.loop (.seq (.region [⟨.binOp .lss 3 (.tmp 8) (.tmp 7) 3, some 9, none⟩])
 (.seq (.cond (.tmp 9) .skip
 (.exit 0))
 (.seq (.block 1 (.seq (.region [⟨.move (.tmp 8), some 10, none⟩,
  ⟨.assign (.tmp 10), some 5, none⟩])
 (.seq (.region [⟨.move (.tmp 1), some 11, none⟩,
  ⟨.move (.tmp 0), some 12, none⟩,
  ⟨.move (.tmp 5), some 13, none⟩,
  ⟨.indexAddr 30 (.tmp 12) (.tmp 13), some 14, none⟩,
  ⟨.load 9 (.tmp 14), some 15, none⟩,
  ⟨.binOp .eql 9 (.tmp 11) (.tmp 15) 9, some 16, none⟩])
 (.cond (.tmp 16) (.seq (.region [⟨.move (.tmp 5), some 17, none⟩,
  ⟨.assign (.tmp 17), some 4, none⟩])
 .ret)
 .skip))))
 (.region [⟨.binOp .add 3 (.tmp 8) (.const (Value.int .i64 1)) 3, some 18, none⟩,
  ⟨.move (.tmp 18), some 8, none⟩])))))))
 (.seq (.region [⟨.assign (.const (Value.int .i64 (-1))), some 4, none⟩])
 .ret)))
theorem fc_slices_Index_string_string : FnC Try.prog 53 19 [.tmp 4] c_slices_Index_string_string := ⟨by kernel_rfl, Try.f53, _, Try.func53, rfl, rfl, rfl, by kernel_rfl⟩
end Go.Proofs.Ytlgikchfddhocaa.AL

