/- What any node of any stack should say of copies, and which say otherwise, is what the document says: part 35 of 45. -/
import Derived.Test.YtlgikchfddhocaaChecked
import Derived.Test.YtlgikchfddhocaaA34
set_option linter.all false
/- AL: the functions of this seat's translation in AL's short form, written by gencode.py out of Lean's own print of them; each with the fact that it is so. -/
set_option maxRecDepth 100000
namespace Go.Proofs.Ytlgikchfddhocaa.AL
open Go Go.Proofs
/-- cmp.isNaN[string] -/
def c_cmp_isNaN_string : AC := (.seq (.region [⟨.assign (.const (Value.bool false)), some 2, none⟩])
 (.seq (.region [⟨.move (.tmp 0), some 3, none⟩,
  ⟨.move (.tmp 0), some 4, none⟩,
  ⟨.binOp .neq 9 (.tmp 3) (.tmp 4) 9, some 5, none⟩,
  ⟨.assign (.tmp 5), some 2, none⟩])
 .ret))
theorem fc_cmp_isNaN_string : FnC Try.prog 57 6 [.tmp 2] c_cmp_isNaN_string := ⟨by kernel_rfl, Try.f57, _, Try.func57, rfl, rfl, rfl, by kernel_rfl⟩
/-- slices.ContainsFunc[[]craquelure/api.Node,craquelure/api.Node] -/
def c_slices_ContainsFunc_api_Node_api_Node : AC := (.seq (.region [⟨.assign (.const (Value.bool false)), some 4, none⟩])
 (.seq (.region [⟨.move (.tmp 0), some 5, none⟩,
  ⟨.move (.tmp 1), some 6, none⟩,
  ⟨.call (Go.Call.mk (.value (.func 76)) #[.tmp 5, .tmp 6] #[36, 76]), some 7, none⟩,
  ⟨.binOp .geq 3 (.tmp 7) (.const (Value.int .i64 0)) 3, some 8, none⟩,
  ⟨.assign (.tmp 8), some 4, none⟩])
 .ret))
theorem fc_slices_ContainsFunc_api_Node_api_Node : FnC Try.prog 58 9 [.tmp 4] c_slices_ContainsFunc_api_Node_api_Node := ⟨by kernel_rfl, Try.f58, _, Try.func58, rfl, rfl, rfl, by kernel_rfl⟩
/-- craquelure/craquelureplain.Branch$1 -/
def c_plain_Branch_1 : AC := (.seq (.region [⟨.box 73 (.tmp 0), some 1, none⟩,
  ⟨.assign (.const (Value.bool false)), some 2, none⟩])
 (.seq (.region [⟨.load 73 (.tmp 1), some 3, none⟩,
  ⟨.call (Go.Call.mk (.value (.func 60)) #[.tmp 3] #[73]), some 4, none⟩,
  ⟨.unOp .not 4 (.tmp 4), some 5, none⟩,
  ⟨.assign (.tmp 5), some 2, none⟩])
 .ret))
theorem fc_plain_Branch_1 : FnC Try.prog 59 6 [.tmp 2] c_plain_Branch_1 := ⟨by kernel_rfl, Try.f59, _, Try.func59, rfl, rfl, rfl, by kernel_rfl⟩
/-- craquelure/craquelureplain.Node -/
def c_plain_Node : AC := (.seq (.region [⟨.box 73 (.tmp 0), some 1, none⟩,
  ⟨.assign (.const (Value.bool false)), some 2, none⟩])
 (.seq (.seq (.region [⟨.fieldAddr 73 (.tmp 1) 5, some 5, none⟩,
  ⟨.load 67 (.tmp 5), some 6, none⟩,
  ⟨.call (Go.Call.mk (.builtin .len) #[.tmp 6] #[67]), some 7, none⟩,
  ⟨.move (.const (Value.int .i64 0)), some 8, none⟩])
 (.block 0 (.loop (.seq (.region [⟨.binOp .lss 3 (.tmp 8) (.tmp 7) 3, some 9, none⟩])
 (.seq (.cond (.tmp 9) .skip
 (.exit 0))
 (.seq (.block 1 (.seq (.region [⟨.move (.tmp 8), some 10, none⟩,
  ⟨.indexAddr 67 (.tmp 6) (.tmp 8), some 11, none⟩,
  ⟨.load 83 (.tmp 11), some 12, none⟩,
  ⟨.alloc 83, some 4, none⟩,
  ⟨.assign (.tmp 10), some 3, none⟩,
  ⟨.store 83 (.tmp 4) (.tmp 12), none, none⟩])
 (.seq (.draw [⟨.fieldAddr 83 (.tmp 4) 0, some 13, none⟩,
  ⟨.load 3 (.tmp 13), some 14, none⟩,
  ⟨.binOp .lss 3 (.tmp 14) (.const (Value.int .i64 0)) 3, some 15, none⟩,
  ⟨.move (.tmp 15), some 16, none⟩,
  ⟨.fieldAddr 83 (.tmp 4) 0, some 17, (some (16, false))⟩,
  ⟨.load 3 (.tmp 17), some 18, (some (16, false))⟩,
  ⟨.binOp .geq 3 (.tmp 18) (.const (Value.int .i64 16)) 3, some 19, (some (16, false))⟩,
  ⟨.pick (.tmp 16) (.const (Value.bool true)) (.tmp 19), some 20, none⟩,
  ⟨.move (.tmp 20), some 21, none⟩,
  ⟨.move (.tmp 3), some 22, (some (21, false))⟩,
  ⟨.binOp .gtr 3 (.tmp 22) (.const (Value.int .i64 0)) 3, some 23, (some (21, false))⟩,
  ⟨.move (.tmp 23), some 24, (some (21, false))⟩,
  ⟨.fieldAddr 73 (.tmp 1) 5, some 25, (some (24, true))⟩,
  ⟨.load 67 (.tmp 25), some 26, (some (24, true))⟩,
  ⟨.move (.tmp 3), some 27, (some (24, true))⟩,
  ⟨.binOp .sub 3 (.tmp 27) (.const (Value.int .i64 1)) 3, some 28, (some (24, true))⟩,
  ⟨.indexAddr 67 (.tmp 26) (.tmp 28), some 29, (some (24, true))⟩,
  ⟨.fieldAddr 83 (.tmp 29) 0, some 30, (some (24, true))⟩,
  ⟨.load 3 (.tmp 30), some 31, (some (24, true))⟩,
  ⟨.fieldAddr 83 (.tmp 4) 0, some 32, (some (24, true))⟩,
  ⟨.load 3 (.tmp 32), some 33, (some (24, true))⟩,
  ⟨.binOp .geq 3 (.tmp 31) (.tmp 33) 3, some 34, (some (24, true))⟩,
  ⟨.pick (.tmp 24) (.tmp 34) (.const (Value.bool false)), some 35, (some (21, false))⟩,
  ⟨.pick (.tmp 21) (.const (Value.bool true)) (.tmp 35), some 36, none⟩] [0, 1, 3, 7, 15, 31, 63, 127, 255, 511, 1023, 2047, 4095, 8191, 4095, 20479, 65535, 131071, 262143, 4095, 528383, 2097151, 4194303, 8388607] [false, true, false, false, false, true, false, false, false, false, false, false, false, true, false, false, false, false, true, false, true, false, false, false])
 (.cond (.tmp 36) (.seq (.region [⟨.assign (.const (Value.bool false)), some 2, none⟩])
 .ret)
 .skip))))
 (.region [⟨.binOp .add 3 (.tmp 8) (.const (Value.int .i64 1)) 3, some 37, none⟩,
  ⟨.move (.tmp 37), some 8, none⟩])))))))
 (.seq (.region [⟨.fieldAddr 73 (.tmp 1) 0, some 38, none⟩,
  ⟨.load 3 (.tmp 38), some 39, none⟩,
  ⟨.binOp .geq 3 (.tmp 39) (.const (Value.int .i64 0)) 3, some 40, none⟩,
  ⟨.move (.tmp 40), some 41, none⟩,
  ⟨.fieldAddr 73 (.tmp 1) 0, some 42, (some (41, true))⟩,
  ⟨.load 3 (.tmp 42), some 43, (some (41, true))⟩,
  ⟨.binOp .leq 3 (.tmp 43) (.const (Value.int .i64 4)) 3, some 44, (some (41, true))⟩,
  ⟨.pick (.tmp 41) (.tmp 44) (.const (Value.bool false)), some 45, none⟩,
  ⟨.move (.tmp 45), some 46, none⟩,
  ⟨.fieldAddr 73 (.tmp 1) 2, some 47, (some (46, true))⟩,
  ⟨.load 3 (.tmp 47), some 48, (some (46, true))⟩,
  ⟨.binOp .geq 3 (.tmp 48) (.const (Value.int .i64 (-9007199254740992))) 3, some 49, (some (46, true))⟩,
  ⟨.pick (.tmp 46) (.tmp 49) (.const (Value.bool false)), some 50, none⟩,
  ⟨.move (.tmp 50), some 51, none⟩,
  ⟨.fieldAddr 73 (.tmp 1) 2, some 52, (some (51, true))⟩,
  ⟨.load 3 (.tmp 52), some 53, (some (51, true))⟩,
  ⟨.binOp .leq 3 (.tmp 53) (.const (Value.int .i64 9007199254740992)) 3, some 54, (some (51, true))⟩,
  ⟨.pick (.tmp 51) (.tmp 54) (.const (Value.bool false)), some 55, none⟩,
  ⟨.move (.tmp 55), some 56, none⟩,
  ⟨.fieldAddr 73 (.tmp 1) 6, some 57, (some (56, true))⟩,
  ⟨.fieldAddr 71 (.tmp 57) 0, some 58, (some (56, true))⟩,
  ⟨.load 3 (.tmp 58), some 59, (some (56, true))⟩,
  ⟨.binOp .geq 3 (.tmp 59) (.const (Value.int .i64 0)) 3, some 60, (some (56, true))⟩,
  ⟨.pick (.tmp 56) (.tmp 60) (.const (Value.bool false)), some 61, none⟩,
  ⟨.move (.tmp 61), some 62, none⟩,
  ⟨.fieldAddr 73 (.tmp 1) 6, some 63, (some (62, true))⟩,
  ⟨.fieldAddr 71 (.tmp 63) 0, some 64, (some (62, true))⟩,
  ⟨.load 3 (.tmp 64), some 65, (some (62, true))⟩,
  ⟨.binOp .leq 3 (.tmp 65) (.const (Value.int .i64 31)) 3, some 66, (some (62, true))⟩,
  ⟨.pick (.tmp 62) (.tmp 66) (.const (Value.bool false)), some 67, none⟩,
  ⟨.move (.tmp 67), some 68, none⟩,
  ⟨.fieldAddr 73 (.tmp 1) 4, some 69, (some (68, true))⟩,
  ⟨.load 25 (.tmp 69), some 70, (some (68, true))⟩,
  ⟨.call (Go.Call.mk (.builtin .len) #[.tmp 70] #[25]), some 71, (some (68, true))⟩,
  ⟨.binOp .leq 3 (.tmp 71) (.const (Value.int .i64 300)) 3, some 72, (some (68, true))⟩,
  ⟨.pick (.tmp 68) (.tmp 72) (.const (Value.bool false)), some 73, none⟩,
  ⟨.move (.tmp 73), some 74, none⟩,
  ⟨.fieldAddr 73 (.tmp 1) 5, some 75, (some (74, true))⟩,
  ⟨.load 67 (.tmp 75), some 76, (some (74, true))⟩,
  ⟨.call (Go.Call.mk (.builtin .len) #[.tmp 76] #[67]), some 77, (some (74, true))⟩,
  ⟨.binOp .leq 3 (.tmp 77) (.const (Value.int .i64 16)) 3, some 78, (some (74, true))⟩,
  ⟨.pick (.tmp 74) (.tmp 78) (.const (Value.bool false)), some 79, none⟩,
  ⟨.move (.tmp 79), some 80, none⟩,
  ⟨.fieldAddr 73 (.tmp 1) 6, some 81, (some (80, true))⟩,
  ⟨.fieldAddr 71 (.tmp 81) 2, some 82, (some (80, true))⟩,
  ⟨.load 9 (.tmp 82), some 83, (some (80, true))⟩,
  ⟨.call (Go.Call.mk (.builtin .len) #[.tmp 83] #[9]), some 84, (some (80, true))⟩,
  ⟨.binOp .leq 3 (.tmp 84) (.const (Value.int .i64 40)) 3, some 85, (some (80, true))⟩,
  ⟨.pick (.tmp 80) (.tmp 85) (.const (Value.bool false)), some 86, none⟩,
  ⟨.move (.tmp 86), some 87, none⟩,
  ⟨.fieldAddr 73 (.tmp 1) 5, some 88, (some (87, true))⟩,
  ⟨.load 67 (.tmp 88), some 89, (some (87, true))⟩,
  ⟨.call (Go.Call.mk (.value (.func 77)) #[.tmp 89, .func 78] #[67, 110]), some 90, (some (87, true))⟩,
  ⟨.unOp .not 4 (.tmp 90), some 91, (some (87, true))⟩,
  ⟨.pick (.tmp 87) (.tmp 91) (.const (Value.bool false)), some 92, none⟩,
  ⟨.assign (.tmp 92), some 2, none⟩])
 .ret)))
theorem fc_plain_Node : FnC Try.prog 60 93 [.tmp 2] c_plain_Node := ⟨by kernel_rfl, Try.f60, _, Try.func60, rfl, rfl, rfl, by kernel_rfl⟩
/-- slices.IndexFunc[[]craquelure/api.Branch,craquelure/api.Branch] -/
def c_slices_IndexFunc_api_Branch_api_Branch : AC := (.seq (.region [⟨.assign (.const (Value.int .i64 0)), some 4, none⟩])
 (.seq (.seq (.region [⟨.move (.tmp 0), some 6, none⟩,
  ⟨.call (Go.Call.mk (.builtin .len) #[.tmp 6] #[39]), some 7, none⟩,
  ⟨.move (.const (Value.int .i64 0)), some 8, none⟩])
 (.block 0 (.loop (.seq (.region [⟨.binOp .lss 3 (.tmp 8) (.tmp 7) 3, some 9, none⟩])
 (.seq (.cond (.tmp 9) .skip
 (.exit 0))
 (.seq (.block 1 (.seq (.region [⟨.move (.tmp 8), some 10, none⟩,
  ⟨.assign (.tmp 10), some 5, none⟩])
 (.seq (.region [⟨.move (.tmp 1), some 11, none⟩,
  ⟨.move (.tmp 0), some 12, none⟩,
  ⟨.move (.tmp 5), some 13, none⟩,
  ⟨.indexAddr 39 (.tmp 12) (.tmp 13), some 14, none⟩,
  ⟨.load 38 (.tmp 14), some 15, none⟩,
  ⟨.call (Go.Call.mk (.value (.tmp 11)) #[.tmp 15] #[38]), some 16, none⟩])
 (.cond (.tmp 16) (.seq (.region [⟨.move (.tmp 5), some 17, none⟩,
  ⟨.assign (.tmp 17), some 4, none⟩])
 .ret)
 .skip))))
 (.region [⟨.binOp .add 3 (.tmp 8) (.const (Value.int .i64 1)) 3, some 18, none⟩,
  ⟨.move (.tmp 18), some 8, none⟩])))))))
 (.seq (.region [⟨.assign (.const (Value.int .i64 (-1))), some 4, none⟩])
 .ret)))
theorem fc_slices_IndexFunc_api_Branch_api_Branch : FnC Try.prog 61 19 [.tmp 4] c_slices_IndexFunc_api_Branch_api_Branch := ⟨by kernel_rfl, Try.f61, _, Try.func61, rfl, rfl, rfl, by kernel_rfl⟩
/-- craquelure/craquelureplain.dir -/
def c_plain_dir : AC := (.seq (.region [⟨.alloc 73, some 2, none⟩])
 (.seq (.region [⟨.move (.tmp 0), some 3, none⟩,
  ⟨.build 73 #[(0, .const (Value.int .i64 1)), (2, .const (Value.int .i64 2)), (5, .tmp 3)], some 4, none⟩,
  ⟨.store 73 (.tmp 2) (.tmp 4), none, none⟩])
 .ret))
theorem fc_plain_dir : FnC Try.prog 62 5 [.cell 2 73] c_plain_dir := ⟨by kernel_rfl, Try.f62, _, Try.func62, rfl, rfl, rfl, by kernel_rfl⟩
/-- craquelure/craquelureref13.At -/
def c_ref13_At : AC := (.seq (.region [⟨.box 38 (.tmp 0), some 2, none⟩,
  ⟨.alloc 73, some 4, none⟩])
 (.seq (.seq (.region [⟨.move (.tmp 1), some 5, none⟩,
  ⟨.binOp .lss 3 (.tmp 5) (.const (Value.int .i64 1)) 3, some 6, none⟩,
  ⟨.move (.tmp 6), some 7, none⟩,
  ⟨.move (.tmp 1), some 8, (some (7, false))⟩,
  ⟨.fieldAddr 38 (.tmp 2) 0, some 9, (some (7, false))⟩,
  ⟨.load 36 (.tmp 9), some 10, (some (7, false))⟩,
  ⟨.call (Go.Call.mk (.builtin .len) #[.tmp 10] #[36]), some 11, (some (7, false))⟩,
  ⟨.binOp .gtr 3 (.tmp 8) (.tmp 11) 3, some 12, (some (7, false))⟩,
  ⟨.pick (.tmp 7) (.const (Value.bool true)) (.tmp 12), some 13, none⟩])
 (.cond (.tmp 13) (.seq (.region [⟨.build 73 #[], some 14, none⟩,
  ⟨.store 73 (.tmp 4) (.tmp 14), none, none⟩])
 .ret)
 .skip))
 (.seq (.region [⟨.fieldAddr 38 (.tmp 2) 0, some 15, none⟩,
  ⟨.load 36 (.tmp 15), some 16, none⟩,
  ⟨.move (.tmp 1), some 17, none⟩,
  ⟨.binOp .sub 3 (.tmp 17) (.const (Value.int .i64 1)) 3, some 18, none⟩,
  ⟨.indexAddr 36 (.tmp 16) (.tmp 18), some 19, none⟩,
  ⟨.load 73 (.tmp 19), some 20, none⟩,
  ⟨.store 73 (.tmp 4) (.tmp 20), none, none⟩])
 .ret)))
theorem fc_ref13_At : FnC Try.prog 63 21 [.cell 4 73] c_ref13_At := ⟨by kernel_rfl, Try.f63, _, Try.func63, rfl, rfl, rfl, by kernel_rfl⟩
/-- craquelure/craquelureref09.Has -/
def c_ref09_Has : AC := (.seq (.region [⟨.box 71 (.tmp 0), some 2, none⟩,
  ⟨.assign (.const (Value.bool false)), some 4, none⟩])
 (.seq (.region [⟨.fieldAddr 71 (.tmp 2) 0, some 5, none⟩,
  ⟨.load 3 (.tmp 5), some 6, none⟩,
  ⟨.binOp .geq 3 (.tmp 6) (.const (Value.int .i64 0)) 3, some 7, none⟩,
  ⟨.move (.tmp 7), some 8, none⟩,
  ⟨.fieldAddr 71 (.tmp 2) 0, some 9, (some (8, true))⟩,
  ⟨.load 3 (.tmp 9), some 10, (some (8, true))⟩,
  ⟨.move (.tmp 1), some 11, (some (8, true))⟩,
  ⟨.call (Go.Call.mk (.value (.func 79)) #[.tmp 10, .tmp 11] #[3, 3]), some 12, (some (8, true))⟩,
  ⟨.pick (.tmp 8) (.tmp 12) (.const (Value.bool false)), some 13, none⟩,
  ⟨.assign (.tmp 13), some 4, none⟩])
 .ret))
theorem fc_ref09_Has : FnC Try.prog 64 14 [.tmp 4] c_ref09_Has := ⟨by kernel_rfl, Try.f64, _, Try.func64, rfl, rfl, rfl, by kernel_rfl⟩
/-- slices.IndexFunc[[]string,string] -/
def c_slices_IndexFunc_string_string : AC := (.seq (.region [⟨.assign (.const (Value.int .i64 0)), some 4, none⟩])
 (.seq (.seq (.region [⟨.move (.tmp 0), some 6, none⟩,
  ⟨.call (Go.Call.mk (.builtin .len) #[.tmp 6] #[30]), some 7, none⟩,
  ⟨.move (.const (Value.int .i64 0)), some 8, none⟩])
 (.block 0 (.loop (.seq (.region [⟨.binOp .lss 3 (.tmp 8) (.tmp 7) 3, some 9, none⟩])
 (.seq (.cond (.tmp 9) .skip
 (.exit 0))
 (.seq (.block 1 (.seq (.region [⟨.move (.tmp 8), some 10, none⟩,
  ⟨.assign (.tmp 10), some 5, none⟩])
 (.seq (.region [⟨.move (.tmp 1), some 11, none⟩,
  ⟨.move (.tmp 0), some 12, none⟩,
  ⟨.move (.tmp 5), some 13, none⟩,
  ⟨.indexAddr 30 (.tmp 12) (.tmp 13), some 14, none⟩,
  ⟨.load 9 (.tmp 14), some 15, none⟩,
  ⟨.call (Go.Call.mk (.value (.tmp 11)) #[.tmp 15] #[9]), some 16, none⟩])
 (.cond (.tmp 16) (.seq (.region [⟨.move (.tmp 5), some 17, none⟩,
  ⟨.assign (.tmp 17), some 4, none⟩])
 .ret)
 .skip))))
 (.region [⟨.binOp .add 3 (.tmp 8) (.const (Value.int .i64 1)) 3, some 18, none⟩,
  ⟨.move (.tmp 18), some 8, none⟩])))))))
 (.seq (.region [⟨.assign (.const (Value.int .i64 (-1))), some 4, none⟩])
 .ret)))
theorem fc_slices_IndexFunc_string_string : FnC Try.prog 65 19 [.tmp 4] c_slices_IndexFunc_string_string := ⟨by kernel_rfl, Try.f65, _, Try.func65, rfl, rfl, rfl, by kernel_rfl⟩
/-- slices.IndexFunc[[]craquelure/api.Node,craquelure/api.Node] -/
def c_slices_IndexFunc_api_Node_api_Node : AC := (.seq (.region [⟨.assign (.const (Value.int .i64 0)), some 4, none⟩])
 (.seq (.seq (.region [⟨.move (.tmp 0), some 6, none⟩,
  ⟨.call (Go.Call.mk (.builtin .len) #[.tmp 6] #[36]), some 7, none⟩,
  ⟨.move (.const (Value.int .i64 0)), some 8, none⟩])
 (.block 0 (.loop (.seq (.region [⟨.binOp .lss 3 (.tmp 8) (.tmp 7) 3, some 9, none⟩])
 (.seq (.cond (.tmp 9) .skip
 (.exit 0))
 (.seq (.block 1 (.seq (.region [⟨.move (.tmp 8), some 10, none⟩,
  ⟨.assign (.tmp 10), some 5, none⟩])
 (.seq (.region [⟨.move (.tmp 1), some 11, none⟩,
  ⟨.move (.tmp 0), some 12, none⟩,
  ⟨.move (.tmp 5), some 13, none⟩,
  ⟨.indexAddr 36 (.tmp 12) (.tmp 13), some 14, none⟩,
  ⟨.load 73 (.tmp 14), some 15, none⟩,
  ⟨.call (Go.Call.mk (.value (.tmp 11)) #[.tmp 15] #[73]), some 16, none⟩])
 (.cond (.tmp 16) (.seq (.region [⟨.move (.tmp 5), some 17, none⟩,
  ⟨.assign (.tmp 17), some 4, none⟩])
 .ret)
 .skip))))
 (.region [⟨.binOp .add 3 (.tmp 8) (.const (Value.int .i64 1)) 3, some 18, none⟩,
  ⟨.move (.tmp 18), some 8, none⟩])))))))
 (.seq (.region [⟨.assign (.const (Value.int .i64 (-1))), some 4, none⟩])
 .ret)))
theorem fc_slices_IndexFunc_api_Node_api_Node : FnC Try.prog 76 19 [.tmp 4] c_slices_IndexFunc_api_Node_api_Node := ⟨by kernel_rfl, Try.f76, _, Try.func76, rfl, rfl, rfl, by kernel_rfl⟩
/-- slices.ContainsFunc[[]craquelure/api.Entry,craquelure/api.Entry] -/
def c_slices_ContainsFunc_api_Entry_api_Entry : AC := (.seq (.region [⟨.assign (.const (Value.bool false)), some 4, none⟩])
 (.seq (.region [⟨.move (.tmp 0), some 5, none⟩,
  ⟨.move (.tmp 1), some 6, none⟩,
  ⟨.call (Go.Call.mk (.value (.func 85)) #[.tmp 5, .tmp 6] #[67, 110]), some 7, none⟩,
  ⟨.binOp .geq 3 (.tmp 7) (.const (Value.int .i64 0)) 3, some 8, none⟩,
  ⟨.assign (.tmp 8), some 4, none⟩])
 .ret))
theorem fc_slices_ContainsFunc_api_Entry_api_Entry : FnC Try.prog 77 9 [.tmp 4] c_slices_ContainsFunc_api_Entry_api_Entry := ⟨by kernel_rfl, Try.f77, _, Try.func77, rfl, rfl, rfl, by kernel_rfl⟩
/-- craquelure/craquelureplain.odd -/
def c_plain_odd : AC := (.seq (.region [⟨.box 83 (.tmp 0), some 1, none⟩,
  ⟨.assign (.const (Value.bool false)), some 2, none⟩])
 (.seq (.region [⟨.fieldAddr 83 (.tmp 1) 2, some 3, none⟩,
  ⟨.load 9 (.tmp 3), some 4, none⟩,
  ⟨.call (Go.Call.mk (.value (.func 10)) #[.tmp 4] #[9]), some 5, none⟩,
  ⟨.unOp .not 4 (.tmp 5), some 6, none⟩,
  ⟨.assign (.tmp 6), some 2, none⟩])
 .ret))
theorem fc_plain_odd : FnC Try.prog 78 7 [.tmp 2] c_plain_odd := ⟨by kernel_rfl, Try.f78, _, Try.func78, rfl, rfl, rfl, by kernel_rfl⟩
/-- craquelure/craquelureref09.has -/
def c_ref09_has : AC := (.seq (.region [⟨.assign (.const (Value.bool false)), some 4, none⟩])
 (.seq (.region [⟨.move (.tmp 0), some 5, none⟩,
  ⟨.move (.tmp 1), some 6, none⟩,
  ⟨.binOp .quo 3 (.tmp 5) (.tmp 6) 3, some 7, none⟩,
  ⟨.binOp .rem 3 (.tmp 7) (.const (Value.int .i64 2)) 3, some 8, none⟩,
  ⟨.binOp .eql 3 (.tmp 8) (.const (Value.int .i64 1)) 3, some 9, none⟩,
  ⟨.assign (.tmp 9), some 4, none⟩])
 .ret))
theorem fc_ref09_has : FnC Try.prog 79 10 [.tmp 4] c_ref09_has := ⟨by kernel_rfl, Try.f79, _, Try.func79, rfl, rfl, rfl, by kernel_rfl⟩
/-- slices.IndexFunc[[]craquelure/api.Entry,craquelure/api.Entry] -/
def c_slices_IndexFunc_api_Entry_api_Entry : AC := (.seq (.region [⟨.assign (.const (Value.int .i64 0)), some 4, none⟩])
 (.seq (.seq (.region [⟨.move (.tmp 0), some 6, none⟩,
  ⟨.call (Go.Call.mk (.builtin .len) #[.tmp 6] #[67]), some 7, none⟩,
  ⟨.move (.const (Value.int .i64 0)), some 8, none⟩])
 (.block 0 (.loop (.seq (.region [⟨.binOp .lss 3 (.tmp 8) (.tmp 7) 3, some 9, none⟩])
 (.seq (.cond (.tmp 9) .skip
 (.exit 0))
 (.seq (.block 1 (.seq (.region [⟨.move (.tmp 8), some 10, none⟩,
  ⟨.assign (.tmp 10), some 5, none⟩])
 (.seq (.region [⟨.move (.tmp 1), some 11, none⟩,
  ⟨.move (.tmp 0), some 12, none⟩,
  ⟨.move (.tmp 5), some 13, none⟩,
  ⟨.indexAddr 67 (.tmp 12) (.tmp 13), some 14, none⟩,
  ⟨.load 83 (.tmp 14), some 15, none⟩,
  ⟨.call (Go.Call.mk (.value (.tmp 11)) #[.tmp 15] #[83]), some 16, none⟩])
 (.cond (.tmp 16) (.seq (.region [⟨.move (.tmp 5), some 17, none⟩,
  ⟨.assign (.tmp 17), some 4, none⟩])
 .ret)
 .skip))))
 (.region [⟨.binOp .add 3 (.tmp 8) (.const (Value.int .i64 1)) 3, some 18, none⟩,
  ⟨.move (.tmp 18), some 8, none⟩])))))))
 (.seq (.region [⟨.assign (.const (Value.int .i64 (-1))), some 4, none⟩])
 .ret)))
theorem fc_slices_IndexFunc_api_Entry_api_Entry : FnC Try.prog 85 19 [.tmp 4] c_slices_IndexFunc_api_Entry_api_Entry := ⟨by kernel_rfl, Try.f85, _, Try.func85, rfl, rfl, rfl, by kernel_rfl⟩
end Go.Proofs.Ytlgikchfddhocaa.AL

