/- A law of the given program is proved: part 34 of 36. -/
import Derived.Test.YtnmljicimdhpmaaDoorChecked
import Derived.Test.YtnmljicimdhpmaaDoorP33
set_option linter.all false
/- AL: the functions of this seat's translation in AL's short form, written by gencode.py out of Lean's own print of them; each with the fact that it is so. -/
set_option maxRecDepth 100000
namespace Go.Proofs.YtnmljicimdhpmaaDoor.AL
open Go Go.Proofs
/-- craquelure/craquelurelaw04.PathSplits -/
def c_law04_PathSplits : AC := (.seq (.region [⟨.assign (.const (Value.bool false)), some 6, none⟩])
 (.seq (.seq (.region [⟨.move (.tmp 0), some 11, none⟩,
  ⟨.call (Go.Call.mk (.builtin .len) #[.tmp 11] #[9]), some 12, none⟩,
  ⟨.binOp .gtr 3 (.tmp 12) (.const (Value.int .i64 300)) 3, some 13, none⟩,
  ⟨.move (.tmp 13), some 14, none⟩,
  ⟨.move (.tmp 1), some 15, (some (14, false))⟩,
  ⟨.call (Go.Call.mk (.builtin .len) #[.tmp 15] #[22]), some 16, (some (14, false))⟩,
  ⟨.binOp .gtr 3 (.tmp 16) (.const (Value.int .i64 30)) 3, some 17, (some (14, false))⟩,
  ⟨.pick (.tmp 14) (.const (Value.bool true)) (.tmp 17), some 18, none⟩,
  ⟨.move (.tmp 18), some 19, none⟩,
  ⟨.move (.tmp 2), some 20, (some (19, false))⟩,
  ⟨.call (Go.Call.mk (.builtin .len) #[.tmp 20] #[22]), some 21, (some (19, false))⟩,
  ⟨.binOp .gtr 3 (.tmp 21) (.const (Value.int .i64 30)) 3, some 22, (some (19, false))⟩,
  ⟨.pick (.tmp 19) (.const (Value.bool true)) (.tmp 22), some 23, none⟩])
 (.cond (.tmp 23) (.seq (.region [⟨.call (Go.Call.mk (.value (.func 6)) #[] #[]), some 24, none⟩,
  ⟨.assign (.tmp 24), some 6, none⟩])
 .ret)
 .skip))
 (.seq (.region [⟨.move (.tmp 0), some 26, none⟩,
  ⟨.call (Go.Call.mk (.value (.func 7)) #[.tmp 26] #[9]), some 27, none⟩,
  ⟨.move (.tmp 27), some 25, none⟩,
  ⟨.extract (.tmp 25) 0, some 28, none⟩,
  ⟨.extract (.tmp 25) 1, some 29, none⟩,
  ⟨.assign (.tmp 28), some 7, none⟩,
  ⟨.assign (.tmp 29), some 8, none⟩])
 (.seq (.region [⟨.move (.tmp 0), some 31, none⟩,
  ⟨.call (Go.Call.mk (.value (.func 8)) #[.tmp 31] #[9]), some 32, none⟩,
  ⟨.move (.tmp 32), some 30, none⟩,
  ⟨.extract (.tmp 30) 0, some 33, none⟩,
  ⟨.extract (.tmp 30) 1, some 34, none⟩,
  ⟨.assign (.tmp 33), some 9, none⟩,
  ⟨.assign (.tmp 34), some 10, none⟩])
 (.seq (.region [⟨.move (.tmp 7), some 35, none⟩,
  ⟨.move (.tmp 9), some 36, none⟩,
  ⟨.call (Go.Call.mk (.value (.func 9)) #[.tmp 35, .tmp 36] #[22, 22]), some 37, none⟩,
  ⟨.move (.tmp 37), some 38, none⟩,
  ⟨.move (.tmp 8), some 39, (some (38, true))⟩,
  ⟨.move (.tmp 10), some 40, (some (38, true))⟩,
  ⟨.binOp .eql 4 (.tmp 39) (.tmp 40) 4, some 41, (some (38, true))⟩,
  ⟨.pick (.tmp 38) (.tmp 41) (.const (Value.bool false)), some 42, none⟩,
  ⟨.move (.tmp 42), some 43, none⟩,
  ⟨.move (.tmp 1), some 44, (some (43, true))⟩,
  ⟨.call (Go.Call.mk (.value (.func 10)) #[.tmp 44] #[22]), some 45, (some (43, true))⟩,
  ⟨.move (.tmp 1), some 46, (some (43, true))⟩,
  ⟨.call (Go.Call.mk (.value (.func 11)) #[.tmp 46] #[22]), some 47, (some (43, true))⟩,
  ⟨.binOp .eql 9 (.tmp 45) (.tmp 47) 9, some 48, (some (43, true))⟩,
  ⟨.pick (.tmp 43) (.tmp 48) (.const (Value.bool false)), some 49, none⟩,
  ⟨.move (.tmp 49), some 50, none⟩,
  ⟨.move (.tmp 1), some 51, (some (50, true))⟩,
  ⟨.move (.tmp 2), some 52, (some (50, true))⟩,
  ⟨.call (Go.Call.mk (.value (.func 12)) #[.tmp 51, .tmp 52] #[22, 22]), some 53, (some (50, true))⟩,
  ⟨.move (.tmp 1), some 54, (some (50, true))⟩,
  ⟨.move (.tmp 2), some 55, (some (50, true))⟩,
  ⟨.call (Go.Call.mk (.value (.func 13)) #[.tmp 54, .tmp 55] #[22, 22]), some 56, (some (50, true))⟩,
  ⟨.binOp .eql 4 (.tmp 53) (.tmp 56) 4, some 57, (some (50, true))⟩,
  ⟨.pick (.tmp 50) (.tmp 57) (.const (Value.bool false)), some 58, none⟩,
  ⟨.move (.tmp 58), some 59, none⟩,
  ⟨.call (Go.Call.mk (.value (.func 6)) #[] #[]), some 60, (some (59, true))⟩,
  ⟨.pick (.tmp 59) (.tmp 60) (.const (Value.bool false)), some 61, none⟩,
  ⟨.assign (.tmp 61), some 6, none⟩])
 .ret)))))
theorem fc_law04_PathSplits : FnC Tryd.prog 3 62 [.tmp 6] c_law04_PathSplits := ⟨by kernel_rfl, Tryd.f3, _, Tryd.func3, rfl, rfl, rfl, by kernel_rfl⟩
/-- craquelure/craquelurelaw04.PathCleans -/
def c_law04_PathCleans : AC := (.seq (.region [⟨.assign (.const (Value.bool false)), some 2, none⟩])
 (.seq (.seq (.region [⟨.move (.tmp 0), some 13, none⟩,
  ⟨.call (Go.Call.mk (.builtin .len) #[.tmp 13] #[9]), some 14, none⟩,
  ⟨.binOp .gtr 3 (.tmp 14) (.const (Value.int .i64 300)) 3, some 15, none⟩])
 (.cond (.tmp 15) (.seq (.region [⟨.call (Go.Call.mk (.value (.func 6)) #[] #[]), some 16, none⟩,
  ⟨.assign (.tmp 16), some 2, none⟩])
 .ret)
 .skip))
 (.seq (.region [⟨.move (.tmp 0), some 18, none⟩,
  ⟨.call (Go.Call.mk (.value (.func 14)) #[.tmp 18] #[9]), some 19, none⟩,
  ⟨.move (.tmp 19), some 17, none⟩,
  ⟨.extract (.tmp 17) 0, some 20, none⟩,
  ⟨.extract (.tmp 17) 1, some 21, none⟩,
  ⟨.assign (.tmp 20), some 3, none⟩,
  ⟨.assign (.tmp 21), some 4, none⟩])
 (.seq (.region [⟨.move (.tmp 0), some 23, none⟩,
  ⟨.call (Go.Call.mk (.value (.func 15)) #[.tmp 23] #[9]), some 24, none⟩,
  ⟨.move (.tmp 24), some 22, none⟩,
  ⟨.extract (.tmp 22) 0, some 25, none⟩,
  ⟨.extract (.tmp 22) 1, some 26, none⟩,
  ⟨.assign (.tmp 25), some 5, none⟩,
  ⟨.assign (.tmp 26), some 6, none⟩])
 (.seq (.region [⟨.move (.tmp 0), some 28, none⟩,
  ⟨.call (Go.Call.mk (.value (.func 16)) #[.tmp 28] #[9]), some 29, none⟩,
  ⟨.move (.tmp 29), some 27, none⟩,
  ⟨.extract (.tmp 27) 0, some 30, none⟩,
  ⟨.extract (.tmp 27) 1, some 31, none⟩,
  ⟨.extract (.tmp 27) 2, some 32, none⟩,
  ⟨.assign (.tmp 30), some 7, none⟩,
  ⟨.assign (.tmp 31), some 8, none⟩,
  ⟨.assign (.tmp 32), some 9, none⟩])
 (.seq (.region [⟨.move (.tmp 0), some 34, none⟩,
  ⟨.call (Go.Call.mk (.value (.func 17)) #[.tmp 34] #[9]), some 35, none⟩,
  ⟨.move (.tmp 35), some 33, none⟩,
  ⟨.extract (.tmp 33) 0, some 36, none⟩,
  ⟨.extract (.tmp 33) 1, some 37, none⟩,
  ⟨.extract (.tmp 33) 2, some 38, none⟩,
  ⟨.assign (.tmp 36), some 10, none⟩,
  ⟨.assign (.tmp 37), some 11, none⟩,
  ⟨.assign (.tmp 38), some 12, none⟩])
 (.seq (.region [⟨.move (.tmp 3), some 39, none⟩,
  ⟨.move (.tmp 5), some 40, none⟩,
  ⟨.binOp .eql 9 (.tmp 39) (.tmp 40) 9, some 41, none⟩,
  ⟨.move (.tmp 41), some 42, none⟩,
  ⟨.move (.tmp 4), some 43, (some (42, true))⟩,
  ⟨.move (.tmp 6), some 44, (some (42, true))⟩,
  ⟨.binOp .eql 4 (.tmp 43) (.tmp 44) 4, some 45, (some (42, true))⟩,
  ⟨.pick (.tmp 42) (.tmp 45) (.const (Value.bool false)), some 46, none⟩,
  ⟨.move (.tmp 46), some 47, none⟩,
  ⟨.move (.tmp 7), some 48, (some (47, true))⟩,
  ⟨.move (.tmp 10), some 49, (some (47, true))⟩,
  ⟨.call (Go.Call.mk (.value (.func 9)) #[.tmp 48, .tmp 49] #[22, 22]), some 50, (some (47, true))⟩,
  ⟨.pick (.tmp 47) (.tmp 50) (.const (Value.bool false)), some 51, none⟩,
  ⟨.move (.tmp 51), some 52, none⟩,
  ⟨.move (.tmp 8), some 53, (some (52, true))⟩,
  ⟨.move (.tmp 11), some 54, (some (52, true))⟩,
  ⟨.binOp .eql 4 (.tmp 53) (.tmp 54) 4, some 55, (some (52, true))⟩,
  ⟨.pick (.tmp 52) (.tmp 55) (.const (Value.bool false)), some 56, none⟩,
  ⟨.move (.tmp 56), some 57, none⟩,
  ⟨.move (.tmp 9), some 58, (some (57, true))⟩,
  ⟨.move (.tmp 12), some 59, (some (57, true))⟩,
  ⟨.binOp .eql 4 (.tmp 58) (.tmp 59) 4, some 60, (some (57, true))⟩,
  ⟨.pick (.tmp 57) (.tmp 60) (.const (Value.bool false)), some 61, none⟩,
  ⟨.move (.tmp 61), some 62, none⟩,
  ⟨.call (Go.Call.mk (.value (.func 6)) #[] #[]), some 63, (some (62, true))⟩,
  ⟨.pick (.tmp 62) (.tmp 63) (.const (Value.bool false)), some 64, none⟩,
  ⟨.assign (.tmp 64), some 2, none⟩])
 .ret)))))))
theorem fc_law04_PathCleans : FnC Tryd.prog 4 65 [.tmp 2] c_law04_PathCleans := ⟨by kernel_rfl, Tryd.f4, _, Tryd.func4, rfl, rfl, rfl, by kernel_rfl⟩
/-- craquelure/craquelurelaw04.PathBack -/
def c_law04_PathBack : AC := (.seq (.region [⟨.assign (.const (Value.bool false)), some 2, none⟩])
 (.seq (.seq (.region [⟨.move (.tmp 0), some 13, none⟩,
  ⟨.call (Go.Call.mk (.builtin .len) #[.tmp 13] #[9]), some 14, none⟩,
  ⟨.binOp .gtr 3 (.tmp 14) (.const (Value.int .i64 300)) 3, some 15, none⟩])
 (.cond (.tmp 15) (.seq (.region [⟨.call (Go.Call.mk (.value (.func 6)) #[] #[]), some 16, none⟩,
  ⟨.assign (.tmp 16), some 2, none⟩])
 .ret)
 .skip))
 (.seq (.seq (.region [⟨.move (.tmp 0), some 18, none⟩,
  ⟨.call (Go.Call.mk (.value (.func 7)) #[.tmp 18] #[9]), some 19, none⟩,
  ⟨.move (.tmp 19), some 17, none⟩,
  ⟨.extract (.tmp 17) 0, some 20, none⟩,
  ⟨.extract (.tmp 17) 1, some 21, none⟩,
  ⟨.assign (.tmp 20), some 3, none⟩,
  ⟨.assign (.tmp 21), some 4, none⟩])
 (.seq (.region [⟨.move (.tmp 4), some 22, none⟩])
 (.cond (.tmp 22) (.seq (.region [⟨.move (.tmp 0), some 24, none⟩,
  ⟨.call (Go.Call.mk (.value (.func 14)) #[.tmp 24] #[9]), some 25, none⟩,
  ⟨.move (.tmp 25), some 23, none⟩,
  ⟨.extract (.tmp 23) 0, some 26, none⟩,
  ⟨.extract (.tmp 23) 1, some 27, none⟩,
  ⟨.assign (.tmp 26), some 5, none⟩,
  ⟨.assign (.tmp 27), some 6, none⟩])
 (.seq (.region [⟨.move (.tmp 3), some 28, none⟩,
  ⟨.call (Go.Call.mk (.value (.func 10)) #[.tmp 28] #[22]), some 29, none⟩,
  ⟨.move (.tmp 0), some 30, none⟩,
  ⟨.binOp .neq 9 (.tmp 29) (.tmp 30) 9, some 31, none⟩,
  ⟨.move (.tmp 31), some 32, none⟩,
  ⟨.move (.tmp 6), some 33, (some (32, false))⟩,
  ⟨.unOp .not 4 (.tmp 33), some 34, (some (32, false))⟩,
  ⟨.pick (.tmp 32) (.const (Value.bool true)) (.tmp 34), some 35, none⟩,
  ⟨.move (.tmp 35), some 36, none⟩,
  ⟨.move (.tmp 5), some 37, (some (36, false))⟩,
  ⟨.move (.tmp 0), some 38, (some (36, false))⟩,
  ⟨.binOp .neq 9 (.tmp 37) (.tmp 38) 9, some 39, (some (36, false))⟩,
  ⟨.pick (.tmp 36) (.const (Value.bool true)) (.tmp 39), some 40, none⟩])
 (.cond (.tmp 40) (.seq (.region [⟨.assign (.const (Value.bool false)), some 2, none⟩])
 .ret)
 .skip)))
 .skip)))
 (.seq (.region [⟨.move (.tmp 0), some 42, none⟩,
  ⟨.call (Go.Call.mk (.value (.func 14)) #[.tmp 42] #[9]), some 43, none⟩,
  ⟨.move (.tmp 43), some 41, none⟩,
  ⟨.extract (.tmp 41) 0, some 44, none⟩,
  ⟨.extract (.tmp 41) 1, some 45, none⟩,
  ⟨.assign (.tmp 44), some 7, none⟩,
  ⟨.assign (.tmp 45), some 8, none⟩])
 (.seq (.seq (.region [⟨.move (.tmp 8), some 46, none⟩,
  ⟨.unOp .not 4 (.tmp 46), some 47, none⟩])
 (.cond (.tmp 47) (.seq (.region [⟨.move (.tmp 7), some 48, none⟩,
  ⟨.binOp .eql 9 (.tmp 48) (.const (Value.string (ByteArray.mk #[]))) 9, some 49, none⟩,
  ⟨.move (.tmp 49), some 50, none⟩,
  ⟨.call (Go.Call.mk (.value (.func 6)) #[] #[]), some 51, (some (50, true))⟩,
  ⟨.pick (.tmp 50) (.tmp 51) (.const (Value.bool false)), some 52, none⟩,
  ⟨.assign (.tmp 52), some 2, none⟩])
 .ret)
 .skip))
 (.seq (.region [⟨.move (.tmp 7), some 54, none⟩,
  ⟨.call (Go.Call.mk (.value (.func 7)) #[.tmp 54] #[9]), some 55, none⟩,
  ⟨.move (.tmp 55), some 53, none⟩,
  ⟨.extract (.tmp 53) 0, some 56, none⟩,
  ⟨.extract (.tmp 53) 1, some 57, none⟩,
  ⟨.assign (.tmp 56), some 9, none⟩,
  ⟨.assign (.tmp 57), some 10, none⟩])
 (.seq (.region [⟨.move (.tmp 7), some 59, none⟩,
  ⟨.call (Go.Call.mk (.value (.func 14)) #[.tmp 59] #[9]), some 60, none⟩,
  ⟨.move (.tmp 60), some 58, none⟩,
  ⟨.extract (.tmp 58) 0, some 61, none⟩,
  ⟨.extract (.tmp 58) 1, some 62, none⟩,
  ⟨.assign (.tmp 61), some 11, none⟩,
  ⟨.assign (.tmp 62), some 12, none⟩])
 (.seq (.region [⟨.move (.tmp 10), some 63, none⟩,
  ⟨.move (.tmp 63), some 64, none⟩,
  ⟨.move (.tmp 9), some 65, (some (64, true))⟩,
  ⟨.call (Go.Call.mk (.value (.func 10)) #[.tmp 65] #[22]), some 66, (some (64, true))⟩,
  ⟨.move (.tmp 7), some 67, (some (64, true))⟩,
  ⟨.binOp .eql 9 (.tmp 66) (.tmp 67) 9, some 68, (some (64, true))⟩,
  ⟨.pick (.tmp 64) (.tmp 68) (.const (Value.bool false)), some 69, none⟩,
  ⟨.move (.tmp 69), some 70, none⟩,
  ⟨.move (.tmp 12), some 71, (some (70, true))⟩,
  ⟨.pick (.tmp 70) (.tmp 71) (.const (Value.bool false)), some 72, none⟩,
  ⟨.move (.tmp 72), some 73, none⟩,
  ⟨.move (.tmp 11), some 74, (some (73, true))⟩,
  ⟨.move (.tmp 7), some 75, (some (73, true))⟩,
  ⟨.binOp .eql 9 (.tmp 74) (.tmp 75) 9, some 76, (some (73, true))⟩,
  ⟨.pick (.tmp 73) (.tmp 76) (.const (Value.bool false)), some 77, none⟩,
  ⟨.move (.tmp 77), some 78, none⟩,
  ⟨.call (Go.Call.mk (.value (.func 6)) #[] #[]), some 79, (some (78, true))⟩,
  ⟨.pick (.tmp 78) (.tmp 79) (.const (Value.bool false)), some 80, none⟩,
  ⟨.assign (.tmp 80), some 2, none⟩])
 .ret))))))))
theorem fc_law04_PathBack : FnC Tryd.prog 5 81 [.tmp 2] c_law04_PathBack := ⟨by kernel_rfl, Tryd.f5, _, Tryd.func5, rfl, rfl, rfl, by kernel_rfl⟩
/-- craquelure/craquelurelaw04.awake -/
def c_law04_awake : AC := (.seq (.region [⟨.assign (.const (Value.bool false)), some 0, none⟩])
 (.seq (.region [⟨.call (Go.Call.mk (.value (.func 14)) #[.const (Value.string (ByteArray.mk #[47, 97, 47, 47, 98, 47, 46, 46, 47, 99, 47]))] #[9]), some 11, none⟩,
  ⟨.move (.tmp 11), some 10, none⟩,
  ⟨.extract (.tmp 10) 0, some 12, none⟩,
  ⟨.extract (.tmp 10) 1, some 13, none⟩,
  ⟨.assign (.tmp 12), some 1, none⟩,
  ⟨.assign (.tmp 13), some 2, none⟩])
 (.seq (.region [⟨.call (Go.Call.mk (.value (.func 7)) #[.const (Value.string (ByteArray.mk #[47, 120, 47, 121]))] #[9]), some 15, none⟩,
  ⟨.move (.tmp 15), some 14, none⟩,
  ⟨.extract (.tmp 14) 0, some 16, none⟩,
  ⟨.extract (.tmp 14) 1, some 17, none⟩,
  ⟨.assign (.tmp 16), some 3, none⟩,
  ⟨.assign (.tmp 17), some 4, none⟩])
 (.seq (.region [⟨.call (Go.Call.mk (.value (.func 14)) #[.const (Value.string (ByteArray.mk #[47, 46, 46]))] #[9]), some 19, none⟩,
  ⟨.move (.tmp 19), some 18, none⟩,
  ⟨.extract (.tmp 18) 0, some 20, none⟩,
  ⟨.extract (.tmp 18) 1, some 21, none⟩,
  ⟨.assign (.tmp 20), some 5, none⟩,
  ⟨.assign (.tmp 21), some 6, none⟩])
 (.seq (.region [⟨.call (Go.Call.mk (.value (.func 16)) #[.const (Value.string (ByteArray.mk #[98]))] #[9]), some 23, none⟩,
  ⟨.move (.tmp 23), some 22, none⟩,
  ⟨.extract (.tmp 22) 0, some 24, none⟩,
  ⟨.extract (.tmp 22) 1, some 25, none⟩,
  ⟨.extract (.tmp 22) 2, some 26, none⟩,
  ⟨.assign (.tmp 24), some 7, none⟩,
  ⟨.assign (.tmp 25), some 8, none⟩,
  ⟨.assign (.tmp 26), some 9, none⟩])
 (.seq (.region [⟨.move (.tmp 1), some 27, none⟩,
  ⟨.binOp .eql 9 (.tmp 27) (.const (Value.string (ByteArray.mk #[47, 97, 47, 99]))) 9, some 28, none⟩,
  ⟨.move (.tmp 28), some 29, none⟩,
  ⟨.move (.tmp 2), some 30, (some (29, true))⟩,
  ⟨.pick (.tmp 29) (.tmp 30) (.const (Value.bool false)), some 31, none⟩,
  ⟨.move (.tmp 31), some 32, none⟩,
  ⟨.move (.tmp 3), some 33, (some (32, true))⟩,
  ⟨.buildSlice 22 2 #[(0, .const (Value.string (ByteArray.mk #[120]))), (1, .const (Value.string (ByteArray.mk #[121])))], some 34, (some (32, true))⟩,
  ⟨.call (Go.Call.mk (.value (.func 9)) #[.tmp 33, .tmp 34] #[22, 22]), some 35, (some (32, true))⟩,
  ⟨.pick (.tmp 32) (.tmp 35) (.const (Value.bool false)), some 36, none⟩,
  ⟨.move (.tmp 36), some 37, none⟩,
  ⟨.move (.tmp 4), some 38, (some (37, true))⟩,
  ⟨.pick (.tmp 37) (.tmp 38) (.const (Value.bool false)), some 39, none⟩,
  ⟨.move (.tmp 39), some 40, none⟩,
  ⟨.move (.tmp 6), some 41, (some (40, true))⟩,
  ⟨.unOp .not 4 (.tmp 41), some 42, (some (40, true))⟩,
  ⟨.pick (.tmp 40) (.tmp 42) (.const (Value.bool false)), some 43, none⟩,
  ⟨.move (.tmp 43), some 44, none⟩,
  ⟨.call (Go.Call.mk (.value (.func 10)) #[.const (Value.slice none 0 0)] #[22]), some 45, (some (44, true))⟩,
  ⟨.binOp .eql 9 (.tmp 45) (.const (Value.string (ByteArray.mk #[47]))) 9, some 46, (some (44, true))⟩,
  ⟨.pick (.tmp 44) (.tmp 46) (.const (Value.bool false)), some 47, none⟩,
  ⟨.move (.tmp 47), some 48, none⟩,
  ⟨.move (.tmp 7), some 49, (some (48, true))⟩,
  ⟨.call (Go.Call.mk (.builtin .len) #[.tmp 49] #[22]), some 50, (some (48, true))⟩,
  ⟨.binOp .eql 3 (.tmp 50) (.const (Value.int .i64 1)) 3, some 51, (some (48, true))⟩,
  ⟨.pick (.tmp 48) (.tmp 51) (.const (Value.bool false)), some 52, none⟩,
  ⟨.move (.tmp 52), some 53, none⟩,
  ⟨.move (.tmp 8), some 54, (some (53, true))⟩,
  ⟨.unOp .not 4 (.tmp 54), some 55, (some (53, true))⟩,
  ⟨.pick (.tmp 53) (.tmp 55) (.const (Value.bool false)), some 56, none⟩,
  ⟨.move (.tmp 56), some 57, none⟩,
  ⟨.move (.tmp 9), some 58, (some (57, true))⟩,
  ⟨.pick (.tmp 57) (.tmp 58) (.const (Value.bool false)), some 59, none⟩,
  ⟨.move (.tmp 59), some 60, none⟩,
  ⟨.move (.tmp 3), some 61, (some (60, true))⟩,
  ⟨.slice 22 (.tmp 61) none (some (.const (Value.int .i64 1))) none, some 62, (some (60, true))⟩,
  ⟨.move (.tmp 3), some 63, (some (60, true))⟩,
  ⟨.call (Go.Call.mk (.value (.func 12)) #[.tmp 62, .tmp 63] #[22, 22]), some 64, (some (60, true))⟩,
  ⟨.pick (.tmp 60) (.tmp 64) (.const (Value.bool false)), some 65, none⟩,
  ⟨.assign (.tmp 65), some 0, none⟩])
 .ret))))))
theorem fc_law04_awake : FnC Tryd.prog 6 66 [.tmp 0] c_law04_awake := ⟨by kernel_rfl, Tryd.f6, _, Tryd.func6, rfl, rfl, rfl, by kernel_rfl⟩
/-- craquelure/path.Split -/
def c_path_Split : AC := (.seq (.region [⟨.assign (.const (Value.slice none 0 0)), some 2, none⟩,
  ⟨.assign (.const (Value.bool false)), some 3, none⟩])
 (.seq (.region [⟨.move (.tmp 0), some 7, none⟩,
  ⟨.call (Go.Call.mk (.value (.func 18)) #[.tmp 7] #[9]), some 8, none⟩,
  ⟨.move (.tmp 8), some 6, none⟩,
  ⟨.extract (.tmp 6) 0, some 9, none⟩,
  ⟨.extract (.tmp 6) 1, some 10, none⟩,
  ⟨.assign (.tmp 9), some 4, none⟩,
  ⟨.assign (.tmp 10), some 5, none⟩])
 (.seq (.block 0 (.seq (.region [⟨.move (.tmp 0), some 12, none⟩,
  ⟨.binOp .eql 9 (.tmp 12) (.const (Value.string (ByteArray.mk #[47]))) 9, some 13, none⟩,
  ⟨.assign (.tmp 13), some 11, none⟩])
 (.cond (.tmp 11) (.seq (.region [⟨.assign (.const (Value.slice none 0 0)), some 2, none⟩,
  ⟨.assign (.const (Value.bool true)), some 3, none⟩])
 .ret)
 (.seq (.seq (.region [⟨.move (.tmp 5), some 15, none⟩,
  ⟨.unOp .not 4 (.tmp 15), some 16, none⟩,
  ⟨.assign (.tmp 16), some 14, none⟩])
 (.cond (.tmp 14) .skip
 (.region [⟨.move (.tmp 4), some 17, none⟩,
  ⟨.call (Go.Call.mk (.value (.func 19)) #[.tmp 17, .func 20] #[22, 33]), some 18, none⟩,
  ⟨.assign (.tmp 18), some 14, none⟩])))
 (.cond (.tmp 14) (.seq (.region [⟨.assign (.const (Value.slice none 0 0)), some 2, none⟩,
  ⟨.assign (.const (Value.bool false)), some 3, none⟩])
 .ret)
 .skip)))))
 (.seq (.region [⟨.move (.tmp 4), some 19, none⟩,
  ⟨.assign (.tmp 19), some 2, none⟩,
  ⟨.assign (.const (Value.bool true)), some 3, none⟩])
 .ret))))
theorem fc_path_Split : FnC Tryd.prog 7 20 [.tmp 2, .tmp 3] c_path_Split := ⟨by kernel_rfl, Tryd.f7, _, Tryd.func7, rfl, rfl, rfl, by kernel_rfl⟩
/-- craquelure/craquelureref04.Split -/
def c_ref04_Split : AC := (.seq (.region [⟨.assign (.const (Value.slice none 0 0)), some 2, none⟩,
  ⟨.assign (.const (Value.bool false)), some 3, none⟩])
 (.seq (.seq (.region [⟨.move (.tmp 0), some 6, none⟩,
  ⟨.binOp .eql 9 (.tmp 6) (.const (Value.string (ByteArray.mk #[47]))) 9, some 7, none⟩])
 (.cond (.tmp 7) (.seq (.region [⟨.assign (.const (Value.slice none 0 0)), some 2, none⟩,
  ⟨.assign (.const (Value.bool true)), some 3, none⟩])
 .ret)
 .skip))
 (.seq (.seq (.region [⟨.move (.tmp 0), some 8, none⟩,
  ⟨.call (Go.Call.mk (.builtin .len) #[.tmp 8] #[9]), some 9, none⟩,
  ⟨.binOp .eql 3 (.tmp 9) (.const (Value.int .i64 0)) 3, some 10, none⟩,
  ⟨.move (.tmp 10), some 11, none⟩,
  ⟨.move (.tmp 0), some 12, (some (11, false))⟩,
  ⟨.index 9 (.tmp 12) (.const (Value.int .i64 0)), some 13, (some (11, false))⟩,
  ⟨.binOp .neq 5 (.tmp 13) (.const (Value.int .u8 47)) 5, some 14, (some (11, false))⟩,
  ⟨.pick (.tmp 11) (.const (Value.bool true)) (.tmp 14), some 15, none⟩])
 (.cond (.tmp 15) (.seq (.region [⟨.assign (.const (Value.slice none 0 0)), some 2, none⟩,
  ⟨.assign (.const (Value.bool false)), some 3, none⟩])
 .ret)
 .skip))
 (.seq (.region [⟨.move (.tmp 0), some 16, none⟩,
  ⟨.call (Go.Call.mk (.value (.func 22)) #[.tmp 16] #[9]), some 17, none⟩,
  ⟨.assign (.tmp 17), some 4, none⟩])
 (.seq (.seq (.region [⟨.assign (.const (Value.int .i64 0)), some 5, none⟩])
 (.block 0 (.loop (.seq (.seq (.region [⟨.move (.tmp 5), some 18, none⟩,
  ⟨.move (.tmp 4), some 19, none⟩,
  ⟨.call (Go.Call.mk (.builtin .len) #[.tmp 19] #[22]), some 20, none⟩,
  ⟨.binOp .lss 3 (.tmp 18) (.tmp 20) 3, some 21, none⟩])
 (.cond (.tmp 21) .skip
 (.exit 0)))
 (.seq (.block 1 (.seq (.region [⟨.move (.tmp 4), some 24, none⟩,
  ⟨.move (.tmp 5), some 25, none⟩,
  ⟨.indexAddr 22 (.tmp 24) (.tmp 25), some 26, none⟩,
  ⟨.load 9 (.tmp 26), some 27, none⟩,
  ⟨.call (Go.Call.mk (.value (.func 23)) #[.tmp 27] #[9]), some 28, none⟩,
  ⟨.unOp .not 4 (.tmp 28), some 29, none⟩])
 (.cond (.tmp 29) (.seq (.region [⟨.assign (.const (Value.slice none 0 0)), some 2, none⟩,
  ⟨.assign (.const (Value.bool false)), some 3, none⟩])
 .ret)
 .skip)))
 (.region [⟨.move (.tmp 5), some 22, none⟩,
  ⟨.binOp .add 3 (.tmp 22) (.const (Value.int .i64 1)) 3, some 23, none⟩,
  ⟨.assign (.tmp 23), some 5, none⟩]))))))
 (.seq (.region [⟨.move (.tmp 4), some 30, none⟩,
  ⟨.assign (.tmp 30), some 2, none⟩,
  ⟨.assign (.const (Value.bool true)), some 3, none⟩])
 .ret))))))
theorem fc_ref04_Split : FnC Tryd.prog 8 31 [.tmp 2, .tmp 3] c_ref04_Split := ⟨by kernel_rfl, Tryd.f8, _, Tryd.func8, rfl, rfl, rfl, by kernel_rfl⟩
/-- slices.Equal[[]string,string] -/
def c_slices_Equal_string_string : AC := (.seq (.region [⟨.assign (.const (Value.bool false)), some 4, none⟩])
 (.seq (.seq (.region [⟨.move (.tmp 0), some 6, none⟩,
  ⟨.call (Go.Call.mk (.builtin .len) #[.tmp 6] #[22]), some 7, none⟩,
  ⟨.move (.tmp 1), some 8, none⟩,
  ⟨.call (Go.Call.mk (.builtin .len) #[.tmp 8] #[22]), some 9, none⟩,
  ⟨.binOp .neq 3 (.tmp 7) (.tmp 9) 3, some 10, none⟩])
 (.cond (.tmp 10) (.seq (.region [⟨.assign (.const (Value.bool false)), some 4, none⟩])
 .ret)
 .skip))
 (.seq (.seq (.region [⟨.move (.tmp 0), some 11, none⟩,
  ⟨.call (Go.Call.mk (.builtin .len) #[.tmp 11] #[22]), some 12, none⟩,
  ⟨.move (.const (Value.int .i64 0)), some 13, none⟩])
 (.block 0 (.loop (.seq (.region [⟨.binOp .lss 3 (.tmp 13) (.tmp 12) 3, some 14, none⟩])
 (.seq (.cond (.tmp 14) .skip
 (.exit 0))
 (.seq (.block 1 (.seq (.region [⟨.move (.tmp 13), some 15, none⟩,
  ⟨.assign (.tmp 15), some 5, none⟩])
 (.seq (.draw [⟨.move (.tmp 0), some 16, none⟩,
  ⟨.move (.tmp 5), some 17, none⟩,
  ⟨.indexAddr 22 (.tmp 16) (.tmp 17), some 18, none⟩,
  ⟨.load 9 (.tmp 18), some 19, none⟩,
  ⟨.move (.tmp 1), some 20, none⟩,
  ⟨.move (.tmp 5), some 21, none⟩,
  ⟨.indexAddr 22 (.tmp 20) (.tmp 21), some 22, none⟩,
  ⟨.load 9 (.tmp 22), some 23, none⟩,
  ⟨.binOp .neq 9 (.tmp 19) (.tmp 23) 9, some 24, none⟩] [0, 0, 3, 7, 0, 0, 48, 112, 255] [false, false, false, true, false, false, false, true, false])
 (.cond (.tmp 24) (.seq (.region [⟨.assign (.const (Value.bool false)), some 4, none⟩])
 .ret)
 .skip))))
 (.region [⟨.binOp .add 3 (.tmp 13) (.const (Value.int .i64 1)) 3, some 25, none⟩,
  ⟨.move (.tmp 25), some 13, none⟩])))))))
 (.seq (.region [⟨.assign (.const (Value.bool true)), some 4, none⟩])
 .ret))))
theorem fc_slices_Equal_string_string : FnC Tryd.prog 9 26 [.tmp 4] c_slices_Equal_string_string := ⟨by kernel_rfl, Tryd.f9, _, Tryd.func9, rfl, rfl, rfl, by kernel_rfl⟩
/-- craquelure/path.Join -/
def c_path_Join : AC := (.seq (.region [⟨.assign (.const (Value.string (ByteArray.mk #[]))), some 2, none⟩])
 (.seq (.region [⟨.move (.tmp 0), some 3, none⟩,
  ⟨.call (Go.Call.mk (.value (.func 24)) #[.tmp 3, .const (Value.string (ByteArray.mk #[47]))] #[22, 9]), some 4, none⟩,
  ⟨.binOp .add 9 (.const (Value.string (ByteArray.mk #[47]))) (.tmp 4) 9, some 5, none⟩,
  ⟨.assign (.tmp 5), some 2, none⟩])
 .ret))
theorem fc_path_Join : FnC Tryd.prog 10 6 [.tmp 2] c_path_Join := ⟨by kernel_rfl, Tryd.f10, _, Tryd.func10, rfl, rfl, rfl, by kernel_rfl⟩
/-- craquelure/craquelureref04.Join -/
def c_ref04_Join : AC := (.seq (.region [⟨.assign (.const (Value.string (ByteArray.mk #[]))), some 2, none⟩])
 (.seq (.region [⟨.assign (.const (Value.string (ByteArray.mk #[47]))), some 3, none⟩])
 (.seq (.seq (.region [⟨.assign (.const (Value.int .i64 0)), some 4, none⟩])
 (.block 0 (.loop (.seq (.seq (.region [⟨.move (.tmp 4), some 5, none⟩,
  ⟨.move (.tmp 0), some 6, none⟩,
  ⟨.call (Go.Call.mk (.builtin .len) #[.tmp 6] #[22]), some 7, none⟩,
  ⟨.binOp .lss 3 (.tmp 5) (.tmp 7) 3, some 8, none⟩])
 (.cond (.tmp 8) .skip
 (.exit 0)))
 (.seq (.block 1 (.seq (.seq (.region [⟨.move (.tmp 4), some 11, none⟩,
  ⟨.binOp .gtr 3 (.tmp 11) (.const (Value.int .i64 0)) 3, some 12, none⟩])
 (.cond (.tmp 12) (.region [⟨.move (.tmp 3), some 13, none⟩,
  ⟨.binOp .add 9 (.tmp 13) (.const (Value.string (ByteArray.mk #[47]))) 9, some 14, none⟩,
  ⟨.assign (.tmp 14), some 3, none⟩])
 .skip))
 (.region [⟨.move (.tmp 3), some 15, none⟩,
  ⟨.move (.tmp 0), some 16, none⟩,
  ⟨.move (.tmp 4), some 17, none⟩,
  ⟨.indexAddr 22 (.tmp 16) (.tmp 17), some 18, none⟩,
  ⟨.load 9 (.tmp 18), some 19, none⟩,
  ⟨.binOp .add 9 (.tmp 15) (.tmp 19) 9, some 20, none⟩,
  ⟨.assign (.tmp 20), some 3, none⟩])))
 (.region [⟨.move (.tmp 4), some 9, none⟩,
  ⟨.binOp .add 3 (.tmp 9) (.const (Value.int .i64 1)) 3, some 10, none⟩,
  ⟨.assign (.tmp 10), some 4, none⟩]))))))
 (.seq (.region [⟨.move (.tmp 3), some 21, none⟩,
  ⟨.assign (.tmp 21), some 2, none⟩])
 .ret))))
theorem fc_ref04_Join : FnC Tryd.prog 11 22 [.tmp 2] c_ref04_Join := ⟨by kernel_rfl, Tryd.f11, _, Tryd.func11, rfl, rfl, rfl, by kernel_rfl⟩
/-- craquelure/path.Begins -/
def c_path_Begins : AC := (.seq (.region [⟨.assign (.const (Value.bool false)), some 4, none⟩])
 (.seq (.region [⟨.move (.tmp 0), some 5, none⟩,
  ⟨.call (Go.Call.mk (.builtin .len) #[.tmp 5] #[22]), some 6, none⟩,
  ⟨.move (.tmp 1), some 7, none⟩,
  ⟨.call (Go.Call.mk (.builtin .len) #[.tmp 7] #[22]), some 8, none⟩,
  ⟨.binOp .leq 3 (.tmp 6) (.tmp 8) 3, some 9, none⟩,
  ⟨.move (.tmp 9), some 10, none⟩,
  ⟨.move (.tmp 0), some 11, (some (10, true))⟩,
  ⟨.move (.tmp 1), some 12, (some (10, true))⟩,
  ⟨.move (.tmp 0), some 13, (some (10, true))⟩,
  ⟨.call (Go.Call.mk (.builtin .len) #[.tmp 13] #[22]), some 14, (some (10, true))⟩,
  ⟨.slice 22 (.tmp 12) none (some (.tmp 14)) none, some 15, (some (10, true))⟩,
  ⟨.call (Go.Call.mk (.value (.func 9)) #[.tmp 11, .tmp 15] #[22, 22]), some 16, (some (10, true))⟩,
  ⟨.pick (.tmp 10) (.tmp 16) (.const (Value.bool false)), some 17, none⟩,
  ⟨.assign (.tmp 17), some 4, none⟩])
 .ret))
theorem fc_path_Begins : FnC Tryd.prog 12 18 [.tmp 4] c_path_Begins := ⟨by kernel_rfl, Tryd.f12, _, Tryd.func12, rfl, rfl, rfl, by kernel_rfl⟩
/-- craquelure/craquelureref04.Begins -/
def c_ref04_Begins : AC := (.seq (.region [⟨.assign (.const (Value.bool false)), some 4, none⟩])
 (.seq (.seq (.region [⟨.move (.tmp 0), some 6, none⟩,
  ⟨.call (Go.Call.mk (.builtin .len) #[.tmp 6] #[22]), some 7, none⟩,
  ⟨.move (.tmp 1), some 8, none⟩,
  ⟨.call (Go.Call.mk (.builtin .len) #[.tmp 8] #[22]), some 9, none⟩,
  ⟨.binOp .gtr 3 (.tmp 7) (.tmp 9) 3, some 10, none⟩])
 (.cond (.tmp 10) (.seq (.region [⟨.assign (.const (Value.bool false)), some 4, none⟩])
 .ret)
 .skip))
 (.seq (.seq (.region [⟨.assign (.const (Value.int .i64 0)), some 5, none⟩])
 (.block 0 (.loop (.seq (.seq (.region [⟨.move (.tmp 5), some 11, none⟩,
  ⟨.move (.tmp 0), some 12, none⟩,
  ⟨.call (Go.Call.mk (.builtin .len) #[.tmp 12] #[22]), some 13, none⟩,
  ⟨.binOp .lss 3 (.tmp 11) (.tmp 13) 3, some 14, none⟩])
 (.cond (.tmp 14) .skip
 (.exit 0)))
 (.seq (.block 1 (.seq (.draw [⟨.move (.tmp 0), some 17, none⟩,
  ⟨.move (.tmp 5), some 18, none⟩,
  ⟨.indexAddr 22 (.tmp 17) (.tmp 18), some 19, none⟩,
  ⟨.load 9 (.tmp 19), some 20, none⟩,
  ⟨.move (.tmp 1), some 21, none⟩,
  ⟨.move (.tmp 5), some 22, none⟩,
  ⟨.indexAddr 22 (.tmp 21) (.tmp 22), some 23, none⟩,
  ⟨.load 9 (.tmp 23), some 24, none⟩,
  ⟨.binOp .neq 9 (.tmp 20) (.tmp 24) 9, some 25, none⟩] [0, 0, 3, 7, 0, 0, 48, 112, 255] [false, false, false, true, false, false, false, true, false])
 (.cond (.tmp 25) (.seq (.region [⟨.assign (.const (Value.bool false)), some 4, none⟩])
 .ret)
 .skip)))
 (.region [⟨.move (.tmp 5), some 15, none⟩,
  ⟨.binOp .add 3 (.tmp 15) (.const (Value.int .i64 1)) 3, some 16, none⟩,
  ⟨.assign (.tmp 16), some 5, none⟩]))))))
 (.seq (.region [⟨.assign (.const (Value.bool true)), some 4, none⟩])
 .ret))))
theorem fc_ref04_Begins : FnC Tryd.prog 13 26 [.tmp 4] c_ref04_Begins := ⟨by kernel_rfl, Tryd.f13, _, Tryd.func13, rfl, rfl, rfl, by kernel_rfl⟩
/-- craquelure/path.Clean -/
def c_path_Clean : AC := (.seq (.region [⟨.assign (.const (Value.string (ByteArray.mk #[]))), some 2, none⟩,
  ⟨.assign (.const (Value.bool false)), some 3, none⟩])
 (.scope (.seq (.region [⟨.move (.tmp 0), some 9, none⟩,
  ⟨.call (Go.Call.mk (.value (.func 18)) #[.tmp 9] #[9]), some 10, none⟩,
  ⟨.move (.tmp 10), some 8, none⟩,
  ⟨.extract (.tmp 8) 0, some 11, none⟩,
  ⟨.extract (.tmp 8) 1, some 12, none⟩,
  ⟨.assign (.tmp 11), some 4, none⟩,
  ⟨.assign (.tmp 12), some 5, none⟩])
 (.seq (.seq (.region [⟨.move (.tmp 5), some 13, none⟩,
  ⟨.unOp .not 4 (.tmp 13), some 14, none⟩])
 (.cond (.tmp 14) (.seq (.region [⟨.assign (.const (Value.string (ByteArray.mk #[]))), some 2, none⟩,
  ⟨.assign (.const (Value.bool false)), some 3, none⟩])
 .ret)
 .skip))
 (.seq (.region [⟨.assign (.const (Value.slice none 0 0)), some 6, none⟩])
 (.seq (.label 0)
 (.seq (.seq (.region [⟨.move (.tmp 4), some 15, none⟩,
  ⟨.call (Go.Call.mk (.builtin .len) #[.tmp 15] #[22]), some 16, none⟩,
  ⟨.binOp .eql 3 (.tmp 16) (.const (Value.int .i64 0)) 3, some 17, none⟩])
 (.cond (.tmp 17) (.seq (.region [⟨.move (.tmp 6), some 18, none⟩,
  ⟨.call (Go.Call.mk (.value (.func 10)) #[.tmp 18] #[22]), some 19, none⟩,
  ⟨.assign (.tmp 19), some 2, none⟩,
  ⟨.assign (.const (Value.bool true)), some 3, none⟩])
 .ret)
 .skip))
 (.seq (.region [⟨.move (.tmp 4), some 20, none⟩,
  ⟨.indexAddr 22 (.tmp 20) (.const (Value.int .i64 0)), some 21, none⟩,
  ⟨.load 9 (.tmp 21), some 22, none⟩,
  ⟨.assign (.tmp 22), some 7, none⟩])
 (.seq (.region [⟨.move (.tmp 4), some 23, none⟩,
  ⟨.slice 22 (.tmp 23) (some (.const (Value.int .i64 1))) none none, some 24, none⟩,
  ⟨.assign (.tmp 24), some 4, none⟩])
 (.seq (.block 0 (.seq (.region [⟨.move (.tmp 7), some 26, none⟩,
  ⟨.binOp .eql 9 (.tmp 26) (.const (Value.string (ByteArray.mk #[]))) 9, some 27, none⟩,
  ⟨.move (.tmp 27), some 28, none⟩,
  ⟨.move (.tmp 7), some 29, (some (28, false))⟩,
  ⟨.binOp .eql 9 (.tmp 29) (.const (Value.string (ByteArray.mk #[46]))) 9, some 30, (some (28, false))⟩,
  ⟨.pick (.tmp 28) (.const (Value.bool true)) (.tmp 30), some 31, none⟩,
  ⟨.assign (.tmp 31), some 25, none⟩])
 (.cond (.tmp 25) (.goto 0)
 (.seq (.region [⟨.move (.tmp 7), some 33, none⟩,
  ⟨.binOp .eql 9 (.tmp 33) (.const (Value.string (ByteArray.mk #[46, 46]))) 9, some 34, none⟩,
  ⟨.assign (.tmp 34), some 32, none⟩])
 (.cond (.tmp 32) (.seq (.seq (.region [⟨.move (.tmp 6), some 35, none⟩,
  ⟨.call (Go.Call.mk (.builtin .len) #[.tmp 35] #[22]), some 36, none⟩,
  ⟨.binOp .eql 3 (.tmp 36) (.const (Value.int .i64 0)) 3, some 37, none⟩])
 (.cond (.tmp 37) (.seq (.region [⟨.assign (.const (Value.string (ByteArray.mk #[]))), some 2, none⟩,
  ⟨.assign (.const (Value.bool false)), some 3, none⟩])
 .ret)
 .skip))
 (.seq (.region [⟨.move (.tmp 6), some 38, none⟩,
  ⟨.move (.tmp 6), some 39, none⟩,
  ⟨.call (Go.Call.mk (.builtin .len) #[.tmp 39] #[22]), some 40, none⟩,
  ⟨.binOp .sub 3 (.tmp 40) (.const (Value.int .i64 1)) 3, some 41, none⟩,
  ⟨.slice 22 (.tmp 38) none (some (.tmp 41)) none, some 42, none⟩,
  ⟨.assign (.tmp 42), some 6, none⟩])
 (.goto 0)))
 (.seq (.region [⟨.move (.tmp 7), some 44, none⟩,
  ⟨.call (Go.Call.mk (.value (.func 21)) #[.tmp 44] #[9]), some 45, none⟩,
  ⟨.unOp .not 4 (.tmp 45), some 46, none⟩,
  ⟨.assign (.tmp 46), some 43, none⟩])
 (.cond (.tmp 43) (.seq (.region [⟨.assign (.const (Value.string (ByteArray.mk #[]))), some 2, none⟩,
  ⟨.assign (.const (Value.bool false)), some 3, none⟩])
 .ret)
 .skip)))))))
 (.seq (.region [⟨.move (.tmp 6), some 47, none⟩,
  ⟨.move (.tmp 7), some 48, none⟩,
  ⟨.buildSlice 22 1 #[(0, .tmp 48)], some 49, none⟩,
  ⟨.call (Go.Call.mk (.builtin .append) #[.tmp 47, .tmp 49] #[22, 22]), some 50, none⟩,
  ⟨.assign (.tmp 50), some 6, none⟩])
 (.goto 0))))))))))))
theorem fc_path_Clean : FnC Tryd.prog 14 51 [.tmp 2, .tmp 3] c_path_Clean := ⟨by kernel_rfl, Tryd.f14, _, Tryd.func14, rfl, rfl, rfl, by kernel_rfl⟩
/-- craquelure/craquelureref04.Clean -/
def c_ref04_Clean : AC := (.seq (.region [⟨.assign (.const (Value.string (ByteArray.mk #[]))), some 2, none⟩,
  ⟨.assign (.const (Value.bool false)), some 3, none⟩])
 (.seq (.seq (.region [⟨.move (.tmp 0), some 7, none⟩,
  ⟨.call (Go.Call.mk (.builtin .len) #[.tmp 7] #[9]), some 8, none⟩,
  ⟨.binOp .eql 3 (.tmp 8) (.const (Value.int .i64 0)) 3, some 9, none⟩,
  ⟨.move (.tmp 9), some 10, none⟩,
  ⟨.move (.tmp 0), some 11, (some (10, false))⟩,
  ⟨.index 9 (.tmp 11) (.const (Value.int .i64 0)), some 12, (some (10, false))⟩,
  ⟨.binOp .neq 5 (.tmp 12) (.const (Value.int .u8 47)) 5, some 13, (some (10, false))⟩,
  ⟨.pick (.tmp 10) (.const (Value.bool true)) (.tmp 13), some 14, none⟩])
 (.cond (.tmp 14) (.seq (.region [⟨.assign (.const (Value.string (ByteArray.mk #[]))), some 2, none⟩,
  ⟨.assign (.const (Value.bool false)), some 3, none⟩])
 .ret)
 .skip))
 (.seq (.region [⟨.move (.tmp 0), some 15, none⟩,
  ⟨.call (Go.Call.mk (.value (.func 22)) #[.tmp 15] #[9]), some 16, none⟩,
  ⟨.assign (.tmp 16), some 4, none⟩])
 (.seq (.region [⟨.buildSlice 22 0 #[], some 17, none⟩,
  ⟨.assign (.tmp 17), some 5, none⟩])
 (.seq (.seq (.region [⟨.assign (.const (Value.int .i64 0)), some 6, none⟩])
 (.block 0 (.loop (.seq (.seq (.region [⟨.move (.tmp 6), some 18, none⟩,
  ⟨.move (.tmp 4), some 19, none⟩,
  ⟨.call (Go.Call.mk (.builtin .len) #[.tmp 19] #[22]), some 20, none⟩,
  ⟨.binOp .lss 3 (.tmp 18) (.tmp 20) 3, some 21, none⟩])
 (.cond (.tmp 21) .skip
 (.exit 0)))
 (.seq (.block 1 (.seq (.seq (.region [⟨.move (.tmp 4), some 24, none⟩,
  ⟨.move (.tmp 6), some 25, none⟩,
  ⟨.indexAddr 22 (.tmp 24) (.tmp 25), some 26, none⟩,
  ⟨.load 9 (.tmp 26), some 27, none⟩,
  ⟨.binOp .eql 9 (.tmp 27) (.const (Value.string (ByteArray.mk #[]))) 9, some 28, none⟩,
  ⟨.move (.tmp 28), some 29, none⟩,
  ⟨.move (.tmp 4), some 30, (some (29, false))⟩,
  ⟨.move (.tmp 6), some 31, (some (29, false))⟩,
  ⟨.indexAddr 22 (.tmp 30) (.tmp 31), some 32, (some (29, false))⟩,
  ⟨.load 9 (.tmp 32), some 33, (some (29, false))⟩,
  ⟨.binOp .eql 9 (.tmp 33) (.const (Value.string (ByteArray.mk #[46]))) 9, some 34, (some (29, false))⟩,
  ⟨.pick (.tmp 29) (.const (Value.bool true)) (.tmp 34), some 35, none⟩])
 (.cond (.tmp 35) (.exit 1)
 .skip))
 (.seq (.seq (.region [⟨.move (.tmp 4), some 36, none⟩,
  ⟨.move (.tmp 6), some 37, none⟩,
  ⟨.indexAddr 22 (.tmp 36) (.tmp 37), some 38, none⟩,
  ⟨.load 9 (.tmp 38), some 39, none⟩,
  ⟨.binOp .eql 9 (.tmp 39) (.const (Value.string (ByteArray.mk #[46, 46]))) 9, some 40, none⟩])
 (.cond (.tmp 40) (.seq (.seq (.region [⟨.move (.tmp 5), some 41, none⟩,
  ⟨.call (Go.Call.mk (.builtin .len) #[.tmp 41] #[22]), some 42, none⟩,
  ⟨.binOp .eql 3 (.tmp 42) (.const (Value.int .i64 0)) 3, some 43, none⟩])
 (.cond (.tmp 43) (.seq (.region [⟨.assign (.const (Value.string (ByteArray.mk #[]))), some 2, none⟩,
  ⟨.assign (.const (Value.bool false)), some 3, none⟩])
 .ret)
 .skip))
 (.seq (.region [⟨.move (.tmp 5), some 44, none⟩,
  ⟨.move (.tmp 5), some 45, none⟩,
  ⟨.call (Go.Call.mk (.builtin .len) #[.tmp 45] #[22]), some 46, none⟩,
  ⟨.binOp .sub 3 (.tmp 46) (.const (Value.int .i64 1)) 3, some 47, none⟩,
  ⟨.slice 22 (.tmp 44) none (some (.tmp 47)) none, some 48, none⟩,
  ⟨.assign (.tmp 48), some 5, none⟩])
 (.exit 1)))
 .skip))
 (.seq (.seq (.region [⟨.move (.tmp 4), some 49, none⟩,
  ⟨.move (.tmp 6), some 50, none⟩,
  ⟨.indexAddr 22 (.tmp 49) (.tmp 50), some 51, none⟩,
  ⟨.load 9 (.tmp 51), some 52, none⟩,
  ⟨.call (Go.Call.mk (.value (.func 23)) #[.tmp 52] #[9]), some 53, none⟩,
  ⟨.unOp .not 4 (.tmp 53), some 54, none⟩])
 (.cond (.tmp 54) (.seq (.region [⟨.assign (.const (Value.string (ByteArray.mk #[]))), some 2, none⟩,
  ⟨.assign (.const (Value.bool false)), some 3, none⟩])
 .ret)
 .skip))
 (.region [⟨.move (.tmp 5), some 55, none⟩,
  ⟨.move (.tmp 4), some 56, none⟩,
  ⟨.move (.tmp 6), some 57, none⟩,
  ⟨.indexAddr 22 (.tmp 56) (.tmp 57), some 58, none⟩,
  ⟨.load 9 (.tmp 58), some 59, none⟩,
  ⟨.buildSlice 22 1 #[(0, .tmp 59)], some 60, none⟩,
  ⟨.call (Go.Call.mk (.builtin .append) #[.tmp 55, .tmp 60] #[22, 22]), some 61, none⟩,
  ⟨.assign (.tmp 61), some 5, none⟩])))))
 (.region [⟨.move (.tmp 6), some 22, none⟩,
  ⟨.binOp .add 3 (.tmp 22) (.const (Value.int .i64 1)) 3, some 23, none⟩,
  ⟨.assign (.tmp 23), some 6, none⟩]))))))
 (.seq (.region [⟨.move (.tmp 5), some 62, none⟩,
  ⟨.call (Go.Call.mk (.value (.func 11)) #[.tmp 62] #[22]), some 63, none⟩,
  ⟨.assign (.tmp 63), some 2, none⟩,
  ⟨.assign (.const (Value.bool true)), some 3, none⟩])
 .ret))))))
theorem fc_ref04_Clean : FnC Tryd.prog 15 64 [.tmp 2, .tmp 3] c_ref04_Clean := ⟨by kernel_rfl, Tryd.f15, _, Tryd.func15, rfl, rfl, rfl, by kernel_rfl⟩
/-- craquelure/path.Redirect -/
def c_path_Redirect : AC := (.seq (.region [⟨.assign (.const (Value.slice none 0 0)), some 2, none⟩,
  ⟨.assign (.const (Value.bool false)), some 3, none⟩,
  ⟨.assign (.const (Value.bool false)), some 4, none⟩])
 (.seq (.block 0 (.seq (.region [⟨.move (.tmp 0), some 8, none⟩,
  ⟨.call (Go.Call.mk (.builtin .len) #[.tmp 8] #[9]), some 9, none⟩,
  ⟨.binOp .gtr 3 (.tmp 9) (.const (Value.int .i64 24)) 3, some 10, none⟩,
  ⟨.assign (.tmp 10), some 7, none⟩])
 (.cond (.tmp 7) (.seq (.region [⟨.assign (.const (Value.slice none 0 0)), some 2, none⟩,
  ⟨.assign (.const (Value.bool false)), some 3, none⟩,
  ⟨.assign (.const (Value.bool false)), some 4, none⟩])
 .ret)
 (.seq (.region [⟨.move (.tmp 0), some 12, none⟩,
  ⟨.call (Go.Call.mk (.value (.func 25)) #[.tmp 12, .const (Value.string (ByteArray.mk #[47]))] #[9, 9]), some 13, none⟩,
  ⟨.assign (.tmp 13), some 11, none⟩])
 (.cond (.tmp 11) (.seq (.region [⟨.move (.tmp 0), some 15, none⟩,
  ⟨.call (Go.Call.mk (.value (.func 7)) #[.tmp 15] #[9]), some 16, none⟩,
  ⟨.move (.tmp 16), some 14, none⟩,
  ⟨.extract (.tmp 14) 0, some 17, none⟩,
  ⟨.extract (.tmp 14) 1, some 18, none⟩,
  ⟨.assign (.tmp 17), some 5, none⟩,
  ⟨.assign (.tmp 18), some 6, none⟩])
 (.seq (.region [⟨.move (.tmp 5), some 19, none⟩,
  ⟨.move (.tmp 6), some 20, none⟩,
  ⟨.move (.tmp 6), some 21, none⟩,
  ⟨.assign (.tmp 19), some 2, none⟩,
  ⟨.assign (.tmp 20), some 3, none⟩,
  ⟨.assign (.tmp 21), some 4, none⟩])
 .ret))
 (.seq (.region [⟨.move (.tmp 0), some 23, none⟩,
  ⟨.call (Go.Call.mk (.value (.func 21)) #[.tmp 23] #[9]), some 24, none⟩,
  ⟨.assign (.tmp 24), some 22, none⟩])
 (.cond (.tmp 22) (.seq (.region [⟨.move (.tmp 0), some 25, none⟩,
  ⟨.buildSlice 22 1 #[(0, .tmp 25)], some 26, none⟩,
  ⟨.assign (.tmp 26), some 2, none⟩,
  ⟨.assign (.const (Value.bool false)), some 3, none⟩,
  ⟨.assign (.const (Value.bool true)), some 4, none⟩])
 .ret)
 .skip)))))))
 (.seq (.region [⟨.assign (.const (Value.slice none 0 0)), some 2, none⟩,
  ⟨.assign (.const (Value.bool false)), some 3, none⟩,
  ⟨.assign (.const (Value.bool false)), some 4, none⟩])
 .ret)))
theorem fc_path_Redirect : FnC Tryd.prog 16 27 [.tmp 2, .tmp 3, .tmp 4] c_path_Redirect := ⟨by kernel_rfl, Tryd.f16, _, Tryd.func16, rfl, rfl, rfl, by kernel_rfl⟩
/-- craquelure/craquelureref04.Redirect -/
def c_ref04_Redirect : AC := (.seq (.region [⟨.assign (.const (Value.slice none 0 0)), some 2, none⟩,
  ⟨.assign (.const (Value.bool false)), some 3, none⟩,
  ⟨.assign (.const (Value.bool false)), some 4, none⟩])
 (.seq (.seq (.region [⟨.move (.tmp 0), some 7, none⟩,
  ⟨.call (Go.Call.mk (.builtin .len) #[.tmp 7] #[9]), some 8, none⟩,
  ⟨.binOp .gtr 3 (.tmp 8) (.const (Value.int .i64 24)) 3, some 9, none⟩])
 (.cond (.tmp 9) (.seq (.region [⟨.assign (.const (Value.slice none 0 0)), some 2, none⟩,
  ⟨.assign (.const (Value.bool false)), some 3, none⟩,
  ⟨.assign (.const (Value.bool false)), some 4, none⟩])
 .ret)
 .skip))
 (.seq (.seq (.region [⟨.move (.tmp 0), some 10, none⟩,
  ⟨.call (Go.Call.mk (.builtin .len) #[.tmp 10] #[9]), some 11, none⟩,
  ⟨.binOp .gtr 3 (.tmp 11) (.const (Value.int .i64 0)) 3, some 12, none⟩,
  ⟨.move (.tmp 12), some 13, none⟩,
  ⟨.move (.tmp 0), some 14, (some (13, true))⟩,
  ⟨.index 9 (.tmp 14) (.const (Value.int .i64 0)), some 15, (some (13, true))⟩,
  ⟨.binOp .eql 5 (.tmp 15) (.const (Value.int .u8 47)) 5, some 16, (some (13, true))⟩,
  ⟨.pick (.tmp 13) (.tmp 16) (.const (Value.bool false)), some 17, none⟩])
 (.cond (.tmp 17) (.seq (.region [⟨.move (.tmp 0), some 19, none⟩,
  ⟨.call (Go.Call.mk (.value (.func 8)) #[.tmp 19] #[9]), some 20, none⟩,
  ⟨.move (.tmp 20), some 18, none⟩,
  ⟨.extract (.tmp 18) 0, some 21, none⟩,
  ⟨.extract (.tmp 18) 1, some 22, none⟩,
  ⟨.assign (.tmp 21), some 5, none⟩,
  ⟨.assign (.tmp 22), some 6, none⟩])
 (.seq (.region [⟨.move (.tmp 5), some 23, none⟩,
  ⟨.move (.tmp 6), some 24, none⟩,
  ⟨.move (.tmp 6), some 25, none⟩,
  ⟨.assign (.tmp 23), some 2, none⟩,
  ⟨.assign (.tmp 24), some 3, none⟩,
  ⟨.assign (.tmp 25), some 4, none⟩])
 .ret))
 .skip))
 (.seq (.seq (.region [⟨.move (.tmp 0), some 26, none⟩,
  ⟨.call (Go.Call.mk (.value (.func 23)) #[.tmp 26] #[9]), some 27, none⟩])
 (.cond (.tmp 27) (.seq (.region [⟨.move (.tmp 0), some 28, none⟩,
  ⟨.buildSlice 22 1 #[(0, .tmp 28)], some 29, none⟩,
  ⟨.assign (.tmp 29), some 2, none⟩,
  ⟨.assign (.const (Value.bool false)), some 3, none⟩,
  ⟨.assign (.const (Value.bool true)), some 4, none⟩])
 .ret)
 .skip))
 (.seq (.region [⟨.assign (.const (Value.slice none 0 0)), some 2, none⟩,
  ⟨.assign (.const (Value.bool false)), some 3, none⟩,
  ⟨.assign (.const (Value.bool false)), some 4, none⟩])
 .ret)))))
theorem fc_ref04_Redirect : FnC Tryd.prog 17 30 [.tmp 2, .tmp 3, .tmp 4] c_ref04_Redirect := ⟨by kernel_rfl, Tryd.f17, _, Tryd.func17, rfl, rfl, rfl, by kernel_rfl⟩
/-- craquelure/path.parts -/
def c_path_parts : AC := (.seq (.region [⟨.assign (.const (Value.slice none 0 0)), some 2, none⟩,
  ⟨.assign (.const (Value.bool false)), some 3, none⟩])
 (.seq (.region [⟨.move (.tmp 0), some 7, none⟩,
  ⟨.call (Go.Call.mk (.value (.func 26)) #[.tmp 7, .const (Value.string (ByteArray.mk #[47]))] #[9, 9]), some 8, none⟩,
  ⟨.move (.tmp 8), some 6, none⟩,
  ⟨.extract (.tmp 6) 0, some 9, none⟩,
  ⟨.extract (.tmp 6) 1, some 10, none⟩,
  ⟨.assign (.tmp 9), some 4, none⟩,
  ⟨.assign (.tmp 10), some 5, none⟩])
 (.seq (.seq (.region [⟨.move (.tmp 5), some 11, none⟩,
  ⟨.unOp .not 4 (.tmp 11), some 12, none⟩])
 (.cond (.tmp 12) (.seq (.region [⟨.assign (.const (Value.slice none 0 0)), some 2, none⟩,
  ⟨.assign (.const (Value.bool false)), some 3, none⟩])
 .ret)
 .skip))
 (.seq (.region [⟨.move (.tmp 4), some 13, none⟩,
  ⟨.call (Go.Call.mk (.value (.func 27)) #[.tmp 13, .const (Value.string (ByteArray.mk #[47]))] #[9, 9]), some 14, none⟩,
  ⟨.assign (.tmp 14), some 2, none⟩,
  ⟨.assign (.const (Value.bool true)), some 3, none⟩])
 .ret))))
theorem fc_path_parts : FnC Tryd.prog 18 15 [.tmp 2, .tmp 3] c_path_parts := ⟨by kernel_rfl, Tryd.f18, _, Tryd.func18, rfl, rfl, rfl, by kernel_rfl⟩
/-- slices.ContainsFunc[[]string,string] -/
def c_slices_ContainsFunc_string_string : AC := (.seq (.region [⟨.assign (.const (Value.bool false)), some 4, none⟩])
 (.seq (.region [⟨.move (.tmp 0), some 5, none⟩,
  ⟨.move (.tmp 1), some 6, none⟩,
  ⟨.call (Go.Call.mk (.value (.func 28)) #[.tmp 5, .tmp 6] #[22, 33]), some 7, none⟩,
  ⟨.binOp .geq 3 (.tmp 7) (.const (Value.int .i64 0)) 3, some 8, none⟩,
  ⟨.assign (.tmp 8), some 4, none⟩])
 .ret))
theorem fc_slices_ContainsFunc_string_string : FnC Tryd.prog 19 9 [.tmp 4] c_slices_ContainsFunc_string_string := ⟨by kernel_rfl, Tryd.f19, _, Tryd.func19, rfl, rfl, rfl, by kernel_rfl⟩
/-- craquelure/path.Split$1 -/
def c_path_Split_1 : AC := (.seq (.region [⟨.assign (.const (Value.bool false)), some 2, none⟩])
 (.seq (.region [⟨.move (.tmp 0), some 3, none⟩,
  ⟨.call (Go.Call.mk (.value (.func 21)) #[.tmp 3] #[9]), some 4, none⟩,
  ⟨.unOp .not 4 (.tmp 4), some 5, none⟩,
  ⟨.assign (.tmp 5), some 2, none⟩])
 .ret))
theorem fc_path_Split_1 : FnC Tryd.prog 20 6 [.tmp 2] c_path_Split_1 := ⟨by kernel_rfl, Tryd.f20, _, Tryd.func20, rfl, rfl, rfl, by kernel_rfl⟩
/-- craquelure/name.Right -/
def c_name_Right : AC := (.seq (.region [⟨.assign (.const (Value.bool false)), some 2, none⟩])
 (.seq (.seq (.region [⟨.move (.tmp 0), some 3, none⟩,
  ⟨.call (Go.Call.mk (.builtin .len) #[.tmp 3] #[9]), some 4, none⟩,
  ⟨.binOp .eql 3 (.tmp 4) (.const (Value.int .i64 0)) 3, some 5, none⟩,
  ⟨.move (.tmp 5), some 6, none⟩,
  ⟨.move (.tmp 0), some 7, (some (6, false))⟩,
  ⟨.call (Go.Call.mk (.builtin .len) #[.tmp 7] #[9]), some 8, (some (6, false))⟩,
  ⟨.binOp .gtr 3 (.tmp 8) (.const (Value.int .i64 12)) 3, some 9, (some (6, false))⟩,
  ⟨.pick (.tmp 6) (.const (Value.bool true)) (.tmp 9), some 10, none⟩,
  ⟨.move (.tmp 10), some 11, none⟩,
  ⟨.move (.tmp 0), some 12, (some (11, false))⟩,
  ⟨.binOp .eql 9 (.tmp 12) (.const (Value.string (ByteArray.mk #[46]))) 9, some 13, (some (11, false))⟩,
  ⟨.pick (.tmp 11) (.const (Value.bool true)) (.tmp 13), some 14, none⟩,
  ⟨.move (.tmp 14), some 15, none⟩,
  ⟨.move (.tmp 0), some 16, (some (15, false))⟩,
  ⟨.binOp .eql 9 (.tmp 16) (.const (Value.string (ByteArray.mk #[46, 46]))) 9, some 17, (some (15, false))⟩,
  ⟨.pick (.tmp 15) (.const (Value.bool true)) (.tmp 17), some 18, none⟩])
 (.cond (.tmp 18) (.seq (.region [⟨.assign (.const (Value.bool false)), some 2, none⟩])
 .ret)
 .skip))
 (.seq (.region [⟨.move (.tmp 0), some 19, none⟩,
  ⟨.call (Go.Call.mk (.value (.func 29)) #[.tmp 19, .func 30] #[9, 42]), some 20, none⟩,
  ⟨.binOp .lss 3 (.tmp 20) (.const (Value.int .i64 0)) 3, some 21, none⟩,
  ⟨.assign (.tmp 21), some 2, none⟩])
 .ret)))
theorem fc_name_Right : FnC Tryd.prog 21 22 [.tmp 2] c_name_Right := ⟨by kernel_rfl, Tryd.f21, _, Tryd.func21, rfl, rfl, rfl, by kernel_rfl⟩
/-- craquelure/craquelureref04.parts -/
def c_ref04_parts : AC := (.seq (.region [⟨.assign (.const (Value.slice none 0 0)), some 2, none⟩])
 (.seq (.region [⟨.buildSlice 22 1 #[(0, .const (Value.string (ByteArray.mk #[])))], some 5, none⟩,
  ⟨.assign (.tmp 5), some 3, none⟩])
 (.seq (.seq (.region [⟨.assign (.const (Value.int .i64 1)), some 4, none⟩])
 (.block 0 (.loop (.seq (.seq (.region [⟨.move (.tmp 4), some 6, none⟩,
  ⟨.move (.tmp 0), some 7, none⟩,
  ⟨.call (Go.Call.mk (.builtin .len) #[.tmp 7] #[9]), some 8, none⟩,
  ⟨.binOp .lss 3 (.tmp 6) (.tmp 8) 3, some 9, none⟩])
 (.cond (.tmp 9) .skip
 (.exit 0)))
 (.seq (.block 1 (.seq (.region [⟨.move (.tmp 0), some 12, none⟩,
  ⟨.move (.tmp 4), some 13, none⟩,
  ⟨.index 9 (.tmp 12) (.tmp 13), some 14, none⟩,
  ⟨.binOp .eql 5 (.tmp 14) (.const (Value.int .u8 47)) 5, some 15, none⟩])
 (.cond (.tmp 15) (.region [⟨.move (.tmp 3), some 16, none⟩,
  ⟨.buildSlice 22 1 #[(0, .const (Value.string (ByteArray.mk #[])))], some 17, none⟩,
  ⟨.call (Go.Call.mk (.builtin .append) #[.tmp 16, .tmp 17] #[22, 22]), some 18, none⟩,
  ⟨.assign (.tmp 18), some 3, none⟩])
 (.draw [⟨.move (.tmp 3), some 19, none⟩,
  ⟨.move (.tmp 3), some 20, none⟩,
  ⟨.call (Go.Call.mk (.builtin .len) #[.tmp 20] #[22]), some 21, none⟩,
  ⟨.binOp .sub 3 (.tmp 21) (.const (Value.int .i64 1)) 3, some 22, none⟩,
  ⟨.move (.tmp 3), some 23, none⟩,
  ⟨.move (.tmp 3), some 24, none⟩,
  ⟨.call (Go.Call.mk (.builtin .len) #[.tmp 24] #[22]), some 25, none⟩,
  ⟨.binOp .sub 3 (.tmp 25) (.const (Value.int .i64 1)) 3, some 26, none⟩,
  ⟨.indexAddr 22 (.tmp 23) (.tmp 26), some 27, none⟩,
  ⟨.load 9 (.tmp 27), some 28, none⟩,
  ⟨.move (.tmp 0), some 29, none⟩,
  ⟨.move (.tmp 4), some 30, none⟩,
  ⟨.move (.tmp 4), some 31, none⟩,
  ⟨.binOp .add 3 (.tmp 31) (.const (Value.int .i64 1)) 3, some 32, none⟩,
  ⟨.slice 9 (.tmp 29) (some (.tmp 30)) (some (.tmp 32)) none, some 33, none⟩,
  ⟨.binOp .add 9 (.tmp 28) (.tmp 33) 9, some 34, none⟩,
  ⟨.indexAddr 22 (.tmp 19) (.tmp 22), some 35, none⟩,
  ⟨.store 9 (.tmp 35) (.tmp 34), none, none⟩] [0, 0, 2, 6, 0, 0, 32, 96, 240, 496, 0, 0, 0, 4096, 15360, 32752, 65535, 131071] [false, false, false, false, false, false, false, false, false, true, false, false, false, false, false, false, false, true]))))
 (.region [⟨.move (.tmp 4), some 10, none⟩,
  ⟨.binOp .add 3 (.tmp 10) (.const (Value.int .i64 1)) 3, some 11, none⟩,
  ⟨.assign (.tmp 11), some 4, none⟩]))))))
 (.seq (.region [⟨.move (.tmp 3), some 36, none⟩,
  ⟨.assign (.tmp 36), some 2, none⟩])
 .ret))))
theorem fc_ref04_parts : FnC Tryd.prog 22 37 [.tmp 2] c_ref04_parts := ⟨by kernel_rfl, Tryd.f22, _, Tryd.func22, rfl, rfl, rfl, by kernel_rfl⟩
/-- craquelure/craquelureref03.Right -/
def c_ref03_Right : AC := (.seq (.region [⟨.assign (.const (Value.bool false)), some 2, none⟩])
 (.seq (.seq (.region [⟨.move (.tmp 0), some 4, none⟩,
  ⟨.call (Go.Call.mk (.builtin .len) #[.tmp 4] #[9]), some 5, none⟩,
  ⟨.binOp .lss 3 (.tmp 5) (.const (Value.int .i64 1)) 3, some 6, none⟩,
  ⟨.move (.tmp 6), some 7, none⟩,
  ⟨.move (.tmp 0), some 8, (some (7, false))⟩,
  ⟨.call (Go.Call.mk (.builtin .len) #[.tmp 8] #[9]), some 9, (some (7, false))⟩,
  ⟨.binOp .gtr 3 (.tmp 9) (.const (Value.int .i64 12)) 3, some 10, (some (7, false))⟩,
  ⟨.pick (.tmp 7) (.const (Value.bool true)) (.tmp 10), some 11, none⟩,
  ⟨.move (.tmp 11), some 12, none⟩,
  ⟨.move (.tmp 0), some 13, (some (12, false))⟩,
  ⟨.binOp .eql 9 (.tmp 13) (.const (Value.string (ByteArray.mk #[46]))) 9, some 14, (some (12, false))⟩,
  ⟨.pick (.tmp 12) (.const (Value.bool true)) (.tmp 14), some 15, none⟩,
  ⟨.move (.tmp 15), some 16, none⟩,
  ⟨.move (.tmp 0), some 17, (some (16, false))⟩,
  ⟨.binOp .eql 9 (.tmp 17) (.const (Value.string (ByteArray.mk #[46, 46]))) 9, some 18, (some (16, false))⟩,
  ⟨.pick (.tmp 16) (.const (Value.bool true)) (.tmp 18), some 19, none⟩])
 (.cond (.tmp 19) (.seq (.region [⟨.assign (.const (Value.bool false)), some 2, none⟩])
 .ret)
 .skip))
 (.seq (.seq (.region [⟨.assign (.const (Value.int .i64 0)), some 3, none⟩])
 (.block 0 (.loop (.seq (.seq (.region [⟨.move (.tmp 3), some 20, none⟩,
  ⟨.move (.tmp 0), some 21, none⟩,
  ⟨.call (Go.Call.mk (.builtin .len) #[.tmp 21] #[9]), some 22, none⟩,
  ⟨.binOp .lss 3 (.tmp 20) (.tmp 22) 3, some 23, none⟩])
 (.cond (.tmp 23) .skip
 (.exit 0)))
 (.seq (.block 1 (.seq (.region [⟨.move (.tmp 0), some 26, none⟩,
  ⟨.move (.tmp 3), some 27, none⟩,
  ⟨.index 9 (.tmp 26) (.tmp 27), some 28, none⟩,
  ⟨.call (Go.Call.mk (.value (.func 32)) #[.tmp 28] #[5]), some 29, none⟩,
  ⟨.unOp .not 4 (.tmp 29), some 30, none⟩])
 (.cond (.tmp 30) (.seq (.region [⟨.assign (.const (Value.bool false)), some 2, none⟩])
 .ret)
 .skip)))
 (.region [⟨.move (.tmp 3), some 24, none⟩,
  ⟨.binOp .add 3 (.tmp 24) (.const (Value.int .i64 1)) 3, some 25, none⟩,
  ⟨.assign (.tmp 25), some 3, none⟩]))))))
 (.seq (.region [⟨.assign (.const (Value.bool true)), some 2, none⟩])
 .ret))))
theorem fc_ref03_Right : FnC Tryd.prog 23 31 [.tmp 2] c_ref03_Right := ⟨by kernel_rfl, Tryd.f23, _, Tryd.func23, rfl, rfl, rfl, by kernel_rfl⟩
/-- slices.IndexFunc[[]string,string] -/
def c_slices_IndexFunc_string_string : AC := (.seq (.region [⟨.assign (.const (Value.int .i64 0)), some 4, none⟩])
 (.seq (.seq (.region [⟨.move (.tmp 0), some 6, none⟩,
  ⟨.call (Go.Call.mk (.builtin .len) #[.tmp 6] #[22]), some 7, none⟩,
  ⟨.move (.const (Value.int .i64 0)), some 8, none⟩])
 (.block 0 (.loop (.seq (.region [⟨.binOp .lss 3 (.tmp 8) (.tmp 7) 3, some 9, none⟩])
 (.seq (.cond (.tmp 9) .skip
 (.exit 0))
 (.seq (.block 1 (.seq (.region [⟨.move (.tmp 8), some 10, none⟩,
  ⟨.assign (.tmp 10), some 5, none⟩])
 (.seq (.region [⟨.move (.tmp 1), some 11, none⟩,
  ⟨.move (.tmp 0), some 12, none⟩,
  ⟨.move (.tmp 5), some 13, none⟩,
  ⟨.indexAddr 22 (.tmp 12) (.tmp 13), some 14, none⟩,
  ⟨.load 9 (.tmp 14), some 15, none⟩,
  ⟨.call (Go.Call.mk (.value (.tmp 11)) #[.tmp 15] #[9]), some 16, none⟩])
 (.cond (.tmp 16) (.seq (.region [⟨.move (.tmp 5), some 17, none⟩,
  ⟨.assign (.tmp 17), some 4, none⟩])
 .ret)
 .skip))))
 (.region [⟨.binOp .add 3 (.tmp 8) (.const (Value.int .i64 1)) 3, some 18, none⟩,
  ⟨.move (.tmp 18), some 8, none⟩])))))))
 (.seq (.region [⟨.assign (.const (Value.int .i64 (-1))), some 4, none⟩])
 .ret)))
theorem fc_slices_IndexFunc_string_string : FnC Tryd.prog 28 19 [.tmp 4] c_slices_IndexFunc_string_string := ⟨by kernel_rfl, Tryd.f28, _, Tryd.func28, rfl, rfl, rfl, by kernel_rfl⟩
/-- craquelure/name.Right$1 -/
def c_name_Right_1 : AC := (.seq (.region [⟨.assign (.const (Value.bool false)), some 2, none⟩])
 (.seq (.region [⟨.move (.tmp 0), some 3, none⟩,
  ⟨.call (Go.Call.mk (.value (.func 31)) #[.tmp 3] #[21]), some 4, none⟩,
  ⟨.unOp .not 4 (.tmp 4), some 5, none⟩,
  ⟨.assign (.tmp 5), some 2, none⟩])
 .ret))
theorem fc_name_Right_1 : FnC Tryd.prog 30 6 [.tmp 2] c_name_Right_1 := ⟨by kernel_rfl, Tryd.f30, _, Tryd.func30, rfl, rfl, rfl, by kernel_rfl⟩
/-- craquelure/name.letter -/
def c_name_letter : AC := (.seq (.region [⟨.assign (.const (Value.bool false)), some 2, none⟩])
 (.seq (.block 0 (.seq (.seq (.region [⟨.move (.tmp 0), some 4, none⟩,
  ⟨.binOp .geq 21 (.tmp 4) (.const (Value.int .i32 97)) 21, some 5, none⟩,
  ⟨.move (.tmp 5), some 6, none⟩,
  ⟨.move (.tmp 0), some 7, (some (6, true))⟩,
  ⟨.binOp .leq 21 (.tmp 7) (.const (Value.int .i32 122)) 21, some 8, (some (6, true))⟩,
  ⟨.pick (.tmp 6) (.tmp 8) (.const (Value.bool false)), some 9, none⟩,
  ⟨.assign (.tmp 9), some 3, none⟩])
 (.cond (.tmp 3) .skip
 (.region [⟨.move (.tmp 0), some 10, none⟩,
  ⟨.binOp .geq 21 (.tmp 10) (.const (Value.int .i32 48)) 21, some 11, none⟩,
  ⟨.move (.tmp 11), some 12, none⟩,
  ⟨.move (.tmp 0), some 13, (some (12, true))⟩,
  ⟨.binOp .leq 21 (.tmp 13) (.const (Value.int .i32 57)) 21, some 14, (some (12, true))⟩,
  ⟨.pick (.tmp 12) (.tmp 14) (.const (Value.bool false)), some 15, none⟩,
  ⟨.assign (.tmp 15), some 3, none⟩])))
 (.cond (.tmp 3) (.seq (.region [⟨.assign (.const (Value.bool true)), some 2, none⟩])
 .ret)
 .skip)))
 (.seq (.region [⟨.move (.tmp 0), some 16, none⟩,
  ⟨.binOp .eql 21 (.tmp 16) (.const (Value.int .i32 46)) 21, some 17, none⟩,
  ⟨.move (.tmp 17), some 18, none⟩,
  ⟨.move (.tmp 0), some 19, (some (18, false))⟩,
  ⟨.binOp .eql 21 (.tmp 19) (.const (Value.int .i32 95)) 21, some 20, (some (18, false))⟩,
  ⟨.pick (.tmp 18) (.const (Value.bool true)) (.tmp 20), some 21, none⟩,
  ⟨.move (.tmp 21), some 22, none⟩,
  ⟨.move (.tmp 0), some 23, (some (22, false))⟩,
  ⟨.binOp .eql 21 (.tmp 23) (.const (Value.int .i32 45)) 21, some 24, (some (22, false))⟩,
  ⟨.pick (.tmp 22) (.const (Value.bool true)) (.tmp 24), some 25, none⟩,
  ⟨.assign (.tmp 25), some 2, none⟩])
 .ret)))
theorem fc_name_letter : FnC Tryd.prog 31 26 [.tmp 2] c_name_letter := ⟨by kernel_rfl, Tryd.f31, _, Tryd.func31, rfl, rfl, rfl, by kernel_rfl⟩
/-- craquelure/craquelureref03.letter -/
def c_ref03_letter : AC := (.seq (.region [⟨.assign (.const (Value.bool false)), some 2, none⟩])
 (.seq (.region [⟨.move (.tmp 0), some 3, none⟩,
  ⟨.binOp .geq 5 (.tmp 3) (.const (Value.int .u8 97)) 5, some 4, none⟩,
  ⟨.move (.tmp 4), some 5, none⟩,
  ⟨.move (.tmp 0), some 6, (some (5, true))⟩,
  ⟨.binOp .leq 5 (.tmp 6) (.const (Value.int .u8 122)) 5, some 7, (some (5, true))⟩,
  ⟨.pick (.tmp 5) (.tmp 7) (.const (Value.bool false)), some 8, none⟩,
  ⟨.move (.tmp 8), some 9, none⟩,
  ⟨.move (.tmp 0), some 10, (some (9, false))⟩,
  ⟨.binOp .geq 5 (.tmp 10) (.const (Value.int .u8 48)) 5, some 11, (some (9, false))⟩,
  ⟨.move (.tmp 11), some 12, (some (9, false))⟩,
  ⟨.move (.tmp 0), some 13, (some (12, true))⟩,
  ⟨.binOp .leq 5 (.tmp 13) (.const (Value.int .u8 57)) 5, some 14, (some (12, true))⟩,
  ⟨.pick (.tmp 12) (.tmp 14) (.const (Value.bool false)), some 15, (some (9, false))⟩,
  ⟨.pick (.tmp 9) (.const (Value.bool true)) (.tmp 15), some 16, none⟩,
  ⟨.move (.tmp 16), some 17, none⟩,
  ⟨.move (.tmp 0), some 18, (some (17, false))⟩,
  ⟨.binOp .eql 5 (.tmp 18) (.const (Value.int .u8 46)) 5, some 19, (some (17, false))⟩,
  ⟨.pick (.tmp 17) (.const (Value.bool true)) (.tmp 19), some 20, none⟩,
  ⟨.move (.tmp 20), some 21, none⟩,
  ⟨.move (.tmp 0), some 22, (some (21, false))⟩,
  ⟨.binOp .eql 5 (.tmp 22) (.const (Value.int .u8 95)) 5, some 23, (some (21, false))⟩,
  ⟨.pick (.tmp 21) (.const (Value.bool true)) (.tmp 23), some 24, none⟩,
  ⟨.move (.tmp 24), some 25, none⟩,
  ⟨.move (.tmp 0), some 26, (some (25, false))⟩,
  ⟨.binOp .eql 5 (.tmp 26) (.const (Value.int .u8 45)) 5, some 27, (some (25, false))⟩,
  ⟨.pick (.tmp 25) (.const (Value.bool true)) (.tmp 27), some 28, none⟩,
  ⟨.assign (.tmp 28), some 2, none⟩])
 .ret))
theorem fc_ref03_letter : FnC Tryd.prog 32 29 [.tmp 2] c_ref03_letter := ⟨by kernel_rfl, Tryd.f32, _, Tryd.func32, rfl, rfl, rfl, by kernel_rfl⟩
end Go.Proofs.YtnmljicimdhpmaaDoor.AL

