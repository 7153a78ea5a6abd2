/- A law of the given program is proved: part 35 of 49. -/
import Derived.Test.YtnmljicimdhpmaaChecked
import Derived.Test.YtnmljicimdhpmaaH34
set_option linter.all false
/- AL: the functions of this seat's translation in AL's short form, written by gencode.py out of Lean's own print of them; each with the fact that it is so. -/
set_option maxRecDepth 100000
namespace Go.Proofs.Ytnmljicimdhpmaa.AL
open Go Go.Proofs
/-- slices.ContainsFunc[[]craquelure/api.Node,craquelure/api.Node] -/
def c_slices_ContainsFunc_api_Node_api_Node : AC := (.seq (.region [⟨.assign (.const (Value.bool false)), some 4, none⟩])
 (.seq (.region [⟨.move (.tmp 0), some 5, none⟩,
  ⟨.move (.tmp 1), some 6, none⟩,
  ⟨.call (Go.Call.mk (.value (.func 90)) #[.tmp 5, .tmp 6] #[24, 57]), some 7, none⟩,
  ⟨.binOp .geq 3 (.tmp 7) (.const (Value.int .i64 0)) 3, some 8, none⟩,
  ⟨.assign (.tmp 8), some 4, none⟩])
 .ret))
theorem fc_slices_ContainsFunc_api_Node_api_Node : FnC Try.prog 59 9 [.tmp 4] c_slices_ContainsFunc_api_Node_api_Node := ⟨by kernel_rfl, Try.f59, _, Try.func59, rfl, rfl, rfl, by kernel_rfl⟩
/-- craquelure/craquelureplain.Branch$1 -/
def c_plain_Branch_1 : AC := (.seq (.region [⟨.box 46 (.tmp 0), some 1, none⟩,
  ⟨.assign (.const (Value.bool false)), some 2, none⟩])
 (.seq (.region [⟨.load 46 (.tmp 1), some 3, none⟩,
  ⟨.call (Go.Call.mk (.value (.func 24)) #[.tmp 3] #[46]), some 4, none⟩,
  ⟨.unOp .not 4 (.tmp 4), some 5, none⟩,
  ⟨.assign (.tmp 5), some 2, none⟩])
 .ret))
theorem fc_plain_Branch_1 : FnC Try.prog 60 6 [.tmp 2] c_plain_Branch_1 := ⟨by kernel_rfl, Try.f60, _, Try.func60, rfl, rfl, rfl, by kernel_rfl⟩
/-- craquelure/walk.walk -/
def c_walk_walk : AC := (.seq (.region [⟨.box 26 (.tmp 0), some 2, none⟩,
  ⟨.assign (.const (Value.pointer none)), some 4, none⟩])
 (.seq (.region [⟨.load 26 (.tmp 2), some 9, none⟩,
  ⟨.makeMap 94 none, some 10, none⟩,
  ⟨.build 96 #[(0, .tmp 9), (2, .tmp 10)], some 11, none⟩,
  ⟨.box 96 (.tmp 11), some 12, none⟩,
  ⟨.assign (.tmp 12), some 5, none⟩])
 (.seq (.region [⟨.assign (.const (Value.int .i64 0)), some 6, none⟩])
 (.seq (.seq (.region [⟨.move (.tmp 1), some 13, none⟩,
  ⟨.call (Go.Call.mk (.builtin .len) #[.tmp 13] #[63]), some 14, none⟩,
  ⟨.move (.const (Value.int .i64 0)), some 15, none⟩])
 (.block 0 (.loop (.seq (.region [⟨.binOp .lss 3 (.tmp 15) (.tmp 14) 3, some 16, none⟩])
 (.seq (.cond (.tmp 16) .skip
 (.exit 0))
 (.seq (.block 1 (.seq (.region [⟨.indexAddr 63 (.tmp 13) (.tmp 15), some 17, none⟩,
  ⟨.load 3 (.tmp 17), some 18, none⟩,
  ⟨.assign (.tmp 18), some 8, none⟩])
 (.scope (.seq (.seq (.region [⟨.move (.tmp 5), some 19, none⟩,
  ⟨.move (.tmp 8), some 20, none⟩,
  ⟨.call (Go.Call.mk (.value (.func 92)) #[.tmp 19, .tmp 20] #[97, 3]), some 21, none⟩,
  ⟨.field 46 (.tmp 21) 0, some 22, none⟩,
  ⟨.binOp .eql 3 (.tmp 22) (.const (Value.int .i64 1)) 3, some 23, none⟩])
 (.cond (.tmp 23) (.region [⟨.move (.tmp 5), some 24, none⟩,
  ⟨.move (.tmp 8), some 25, none⟩,
  ⟨.build 52 #[(0, .tmp 25), (1, .const (Value.int .i64 (-1)))], some 26, none⟩,
  ⟨.call (Go.Call.mk (.value (.func 93)) #[.tmp 24, .tmp 26] #[97, 52]), some 27, none⟩])
 .skip))
 (.seq (.label 0)
 (.seq (.region [⟨.move (.tmp 6), some 28, none⟩,
  ⟨.move (.tmp 5), some 29, none⟩,
  ⟨.nilCheck (.tmp 29), some 30, none⟩,
  ⟨.fieldAddr 96 (.tmp 30) 1, some 31, none⟩,
  ⟨.load 49 (.tmp 31), some 32, none⟩,
  ⟨.call (Go.Call.mk (.builtin .len) #[.tmp 32] #[49]), some 33, none⟩,
  ⟨.binOp .lss 3 (.tmp 28) (.tmp 33) 3, some 34, none⟩])
 (.cond (.tmp 34) (.seq (.region [⟨.move (.tmp 5), some 35, none⟩,
  ⟨.move (.tmp 6), some 36, none⟩,
  ⟨.call (Go.Call.mk (.value (.func 94)) #[.tmp 35, .tmp 36] #[97, 3]), some 37, none⟩])
 (.seq (.region [⟨.move (.tmp 6), some 38, none⟩,
  ⟨.binOp .add 3 (.tmp 38) (.const (Value.int .i64 1)) 3, some 39, none⟩,
  ⟨.assign (.tmp 39), some 6, none⟩])
 (.goto 0)))
 .skip)))))))
 (.region [⟨.binOp .add 3 (.tmp 15) (.const (Value.int .i64 1)) 3, some 40, none⟩,
  ⟨.move (.tmp 40), some 15, none⟩])))))))
 (.seq (.region [⟨.move (.tmp 5), some 41, none⟩,
  ⟨.assign (.tmp 41), some 4, none⟩])
 .ret)))))
theorem fc_walk_walk : FnC Try.prog 64 42 [.tmp 4] c_walk_walk := ⟨by kernel_rfl, Try.f64, _, Try.func64, rfl, rfl, rfl, by kernel_rfl⟩
/-- slices.ContainsFunc[[]craquelure/api.Entry,craquelure/api.Entry] -/
def c_slices_ContainsFunc_api_Entry_api_Entry : AC := (.seq (.region [⟨.assign (.const (Value.bool false)), some 4, none⟩])
 (.seq (.region [⟨.move (.tmp 0), some 5, none⟩,
  ⟨.move (.tmp 1), some 6, none⟩,
  ⟨.call (Go.Call.mk (.value (.func 95)) #[.tmp 5, .tmp 6] #[40, 100]), some 7, none⟩,
  ⟨.binOp .geq 3 (.tmp 7) (.const (Value.int .i64 0)) 3, some 8, none⟩,
  ⟨.assign (.tmp 8), some 4, none⟩])
 .ret))
theorem fc_slices_ContainsFunc_api_Entry_api_Entry : FnC Try.prog 65 9 [.tmp 4] c_slices_ContainsFunc_api_Entry_api_Entry := ⟨by kernel_rfl, Try.f65, _, Try.func65, rfl, rfl, rfl, by kernel_rfl⟩
/-- craquelure/craquelureplain.odd -/
def c_plain_odd : AC := (.seq (.region [⟨.box 54 (.tmp 0), some 1, none⟩,
  ⟨.assign (.const (Value.bool false)), some 2, none⟩])
 (.seq (.region [⟨.fieldAddr 54 (.tmp 1) 2, some 3, none⟩,
  ⟨.load 9 (.tmp 3), some 4, none⟩,
  ⟨.call (Go.Call.mk (.value (.func 96)) #[.tmp 4] #[9]), some 5, none⟩,
  ⟨.unOp .not 4 (.tmp 5), some 6, none⟩,
  ⟨.assign (.tmp 6), some 2, none⟩])
 .ret))
theorem fc_plain_odd : FnC Try.prog 66 7 [.tmp 2] c_plain_odd := ⟨by kernel_rfl, Try.f66, _, Try.func66, rfl, rfl, rfl, by kernel_rfl⟩
/-- craquelure/path.Join -/
def c_path_Join : AC := (.seq (.region [⟨.assign (.const (Value.string (ByteArray.mk #[]))), some 2, none⟩])
 (.seq (.region [⟨.move (.tmp 0), some 3, none⟩,
  ⟨.call (Go.Call.mk (.value (.func 99)) #[.tmp 3, .const (Value.string (ByteArray.mk #[47]))] #[60, 9]), some 4, none⟩,
  ⟨.binOp .add 9 (.const (Value.string (ByteArray.mk #[47]))) (.tmp 4) 9, some 5, none⟩,
  ⟨.assign (.tmp 5), some 2, none⟩])
 .ret))
theorem fc_path_Join : FnC Try.prog 72 6 [.tmp 2] c_path_Join := ⟨by kernel_rfl, Try.f72, _, Try.func72, rfl, rfl, rfl, by kernel_rfl⟩
/-- slices.Reverse[[]string,string] -/
def c_slices_Reverse_string_string : AC := (.seq (.region [⟨.move (.tmp 0), some 4, none⟩,
  ⟨.call (Go.Call.mk (.builtin .len) #[.tmp 4] #[60]), some 5, none⟩,
  ⟨.binOp .sub 3 (.tmp 5) (.const (Value.int .i64 1)) 3, some 6, none⟩,
  ⟨.assign (.const (Value.int .i64 0)), some 2, none⟩,
  ⟨.assign (.tmp 6), some 3, none⟩])
 (.block 0 (.loop (.seq (.seq (.region [⟨.move (.tmp 2), some 7, none⟩,
  ⟨.move (.tmp 3), some 8, none⟩,
  ⟨.binOp .lss 3 (.tmp 7) (.tmp 8) 3, some 9, none⟩])
 (.cond (.tmp 9) .skip
 (.exit 0)))
 (.seq (.block 1 (.draw [⟨.move (.tmp 0), some 14, none⟩,
  ⟨.move (.tmp 2), some 15, none⟩,
  ⟨.move (.tmp 0), some 16, none⟩,
  ⟨.move (.tmp 3), some 17, none⟩,
  ⟨.move (.tmp 0), some 18, none⟩,
  ⟨.move (.tmp 3), some 19, none⟩,
  ⟨.indexAddr 60 (.tmp 18) (.tmp 19), some 20, none⟩,
  ⟨.load 9 (.tmp 20), some 21, none⟩,
  ⟨.move (.tmp 0), some 22, none⟩,
  ⟨.move (.tmp 2), some 23, none⟩,
  ⟨.indexAddr 60 (.tmp 22) (.tmp 23), some 24, none⟩,
  ⟨.load 9 (.tmp 24), some 25, none⟩,
  ⟨.indexAddr 60 (.tmp 14) (.tmp 15), some 26, none⟩,
  ⟨.store 9 (.tmp 26) (.tmp 21), none, none⟩,
  ⟨.indexAddr 60 (.tmp 16) (.tmp 17), some 27, none⟩,
  ⟨.store 9 (.tmp 27) (.tmp 25), none, none⟩] [0, 0, 0, 0, 0, 0, 48, 112, 0, 0, 768, 1792, 4083, 8179, 16383, 32767] [false, false, false, false, false, false, false, true, false, false, false, true, false, true, false, true]))
 (.region [⟨.move (.tmp 2), some 10, none⟩,
  ⟨.binOp .add 3 (.tmp 10) (.const (Value.int .i64 1)) 3, some 11, none⟩,
  ⟨.move (.tmp 3), some 12, none⟩,
  ⟨.binOp .sub 3 (.tmp 12) (.const (Value.int .i64 1)) 3, some 13, none⟩,
  ⟨.assign (.tmp 11), some 2, none⟩,
  ⟨.assign (.tmp 13), some 3, none⟩]))))))
theorem fc_slices_Reverse_string_string : FnC Try.prog 73 28 [] c_slices_Reverse_string_string := ⟨by kernel_rfl, Try.f73, _, Try.func73, rfl, rfl, rfl, by kernel_rfl⟩
/-- slices.Clone[[]byte,byte] -/
def c_slices_Clone_byte_byte : AC := (.seq (.region [⟨.assign (.const (Value.slice none 0 0)), some 2, none⟩])
 (.seq (.seq (.region [⟨.move (.tmp 0), some 3, none⟩,
  ⟨.binOp .eql 39 (.tmp 3) (.const (Value.slice none 0 0)) 39, some 4, none⟩])
 (.cond (.tmp 4) (.seq (.region [⟨.assign (.const (Value.slice none 0 0)), some 2, none⟩])
 .ret)
 .skip))
 (.seq (.region [⟨.buildSlice 39 0 #[], some 5, none⟩,
  ⟨.move (.tmp 0), some 6, none⟩,
  ⟨.call (Go.Call.mk (.builtin .append) #[.tmp 5, .tmp 6] #[39, 39]), some 7, none⟩,
  ⟨.assign (.tmp 7), some 2, none⟩])
 .ret)))
theorem fc_slices_Clone_byte_byte : FnC Try.prog 76 8 [.tmp 2] c_slices_Clone_byte_byte := ⟨by kernel_rfl, Try.f76, _, Try.func76, rfl, rfl, rfl, by kernel_rfl⟩
/-- slices.DeleteFunc[[]craquelure/api.Entry,craquelure/api.Entry] -/
def c_slices_DeleteFunc_api_Entry_api_Entry : AC := (.seq (.region [⟨.assign (.const (Value.slice none 0 0)), some 4, none⟩])
 (.seq (.region [⟨.move (.tmp 0), some 8, none⟩,
  ⟨.move (.tmp 1), some 9, none⟩,
  ⟨.call (Go.Call.mk (.value (.func 95)) #[.tmp 8, .tmp 9] #[40, 100]), some 10, none⟩,
  ⟨.assign (.tmp 10), some 5, none⟩])
 (.seq (.seq (.region [⟨.move (.tmp 5), some 11, none⟩,
  ⟨.binOp .eql 3 (.tmp 11) (.const (Value.int .i64 (-1))) 3, some 12, none⟩])
 (.cond (.tmp 12) (.seq (.region [⟨.move (.tmp 0), some 13, none⟩,
  ⟨.assign (.tmp 13), some 4, none⟩])
 .ret)
 .skip))
 (.seq (.seq (.region [⟨.move (.tmp 5), some 14, none⟩,
  ⟨.binOp .add 3 (.tmp 14) (.const (Value.int .i64 1)) 3, some 15, none⟩,
  ⟨.assign (.tmp 15), some 6, none⟩])
 (.block 0 (.loop (.seq (.seq (.region [⟨.move (.tmp 6), some 16, none⟩,
  ⟨.move (.tmp 0), some 17, none⟩,
  ⟨.call (Go.Call.mk (.builtin .len) #[.tmp 17] #[40]), some 18, none⟩,
  ⟨.binOp .lss 3 (.tmp 16) (.tmp 18) 3, some 19, none⟩])
 (.cond (.tmp 19) .skip
 (.exit 0)))
 (.seq (.block 1 (.seq (.region [⟨.move (.tmp 0), some 22, none⟩,
  ⟨.move (.tmp 6), some 23, none⟩,
  ⟨.indexAddr 40 (.tmp 22) (.tmp 23), some 24, none⟩,
  ⟨.load 54 (.tmp 24), some 25, none⟩,
  ⟨.alloc 54, some 7, none⟩,
  ⟨.store 54 (.tmp 7) (.tmp 25), none, none⟩])
 (.seq (.region [⟨.move (.tmp 1), some 26, none⟩,
  ⟨.load 54 (.tmp 7), some 27, none⟩,
  ⟨.call (Go.Call.mk (.value (.tmp 26)) #[.tmp 27] #[54]), some 28, none⟩,
  ⟨.unOp .not 4 (.tmp 28), some 29, none⟩])
 (.cond (.tmp 29) (.seq (.region [⟨.move (.tmp 0), some 30, none⟩,
  ⟨.move (.tmp 5), some 31, none⟩,
  ⟨.load 54 (.tmp 7), some 32, none⟩,
  ⟨.indexAddr 40 (.tmp 30) (.tmp 31), some 33, none⟩,
  ⟨.store 54 (.tmp 33) (.tmp 32), none, none⟩])
 (.region [⟨.move (.tmp 5), some 34, none⟩,
  ⟨.binOp .add 3 (.tmp 34) (.const (Value.int .i64 1)) 3, some 35, none⟩,
  ⟨.assign (.tmp 35), some 5, none⟩]))
 .skip))))
 (.region [⟨.move (.tmp 6), some 20, none⟩,
  ⟨.binOp .add 3 (.tmp 20) (.const (Value.int .i64 1)) 3, some 21, none⟩,
  ⟨.assign (.tmp 21), some 6, none⟩]))))))
 (.seq (.region [⟨.move (.tmp 0), some 36, none⟩,
  ⟨.move (.tmp 5), some 37, none⟩,
  ⟨.slice 40 (.tmp 36) (some (.tmp 37)) none none, some 38, none⟩,
  ⟨.call (Go.Call.mk (.builtin .clear) #[.tmp 38] #[40]), none, none⟩])
 (.seq (.region [⟨.move (.tmp 0), some 39, none⟩,
  ⟨.move (.tmp 5), some 40, none⟩,
  ⟨.slice 40 (.tmp 39) none (some (.tmp 40)) none, some 41, none⟩,
  ⟨.assign (.tmp 41), some 4, none⟩])
 .ret))))))
theorem fc_slices_DeleteFunc_api_Entry_api_Entry : FnC Try.prog 77 42 [.tmp 4] c_slices_DeleteFunc_api_Entry_api_Entry := ⟨by kernel_rfl, Try.f77, _, Try.func77, rfl, rfl, rfl, by kernel_rfl⟩
/-- slices.Clone[[]craquelure/api.Entry,craquelure/api.Entry] -/
def c_slices_Clone_api_Entry_api_Entry : AC := (.seq (.region [⟨.assign (.const (Value.slice none 0 0)), some 2, none⟩])
 (.seq (.seq (.region [⟨.move (.tmp 0), some 3, none⟩,
  ⟨.binOp .eql 40 (.tmp 3) (.const (Value.slice none 0 0)) 40, some 4, none⟩])
 (.cond (.tmp 4) (.seq (.region [⟨.assign (.const (Value.slice none 0 0)), some 2, none⟩])
 .ret)
 .skip))
 (.seq (.region [⟨.buildSlice 40 0 #[], some 5, none⟩,
  ⟨.move (.tmp 0), some 6, none⟩,
  ⟨.call (Go.Call.mk (.builtin .append) #[.tmp 5, .tmp 6] #[40, 40]), some 7, none⟩,
  ⟨.assign (.tmp 7), some 2, none⟩])
 .ret)))
theorem fc_slices_Clone_api_Entry_api_Entry : FnC Try.prog 78 8 [.tmp 2] c_slices_Clone_api_Entry_api_Entry := ⟨by kernel_rfl, Try.f78, _, Try.func78, rfl, rfl, rfl, by kernel_rfl⟩
/-- craquelure/walk.Prune$1 -/
def c_walk_Prune_1 : AC := (.seq (.region [⟨.box 54 (.tmp 0), some 3, none⟩,
  ⟨.assign (.const (Value.bool false)), some 4, none⟩])
 (.seq (.draw [⟨.load 97 (.tmp 1), some 5, none⟩,
  ⟨.nilCheck (.tmp 5), some 6, none⟩,
  ⟨.fieldAddr 96 (.tmp 6) 3, some 7, none⟩,
  ⟨.load 67 (.tmp 7), some 8, none⟩,
  ⟨.load 3 (.tmp 2), some 9, none⟩,
  ⟨.binOp .add 3 (.tmp 9) (.const (Value.int .i64 1)) 3, some 10, none⟩,
  ⟨.fieldAddr 54 (.tmp 3) 0, some 11, none⟩,
  ⟨.load 3 (.tmp 11), some 12, none⟩,
  ⟨.build 68 #[(0, .tmp 10), (1, .tmp 12)], some 13, none⟩,
  ⟨.call (Go.Call.mk (.value (.func 80)) #[.tmp 8, .tmp 13] #[67, 68]), some 14, none⟩,
  ⟨.assign (.tmp 14), some 4, none⟩] [0, 1, 3, 7, 0, 16, 0, 64, 240, 511, 1023] [true, false, false, true, true, false, false, true, false, true, false])
 .ret))
theorem fc_walk_Prune_1 : FnC Try.prog 79 15 [.tmp 4] c_walk_Prune_1 := ⟨by kernel_rfl, Try.f79, _, Try.func79, rfl, rfl, rfl, by kernel_rfl⟩
/-- slices.Contains[[][2]int,[2]int] -/
def c_slices_Contains_2_int_2_int : AC := (.seq (.region [⟨.box 68 (.tmp 1), some 3, none⟩,
  ⟨.assign (.const (Value.bool false)), some 4, none⟩])
 (.seq (.region [⟨.move (.tmp 0), some 5, none⟩,
  ⟨.load 68 (.tmp 3), some 6, none⟩,
  ⟨.call (Go.Call.mk (.value (.func 102)) #[.tmp 5, .tmp 6] #[67, 68]), some 7, none⟩,
  ⟨.binOp .geq 3 (.tmp 7) (.const (Value.int .i64 0)) 3, some 8, none⟩,
  ⟨.assign (.tmp 8), some 4, none⟩])
 .ret))
theorem fc_slices_Contains_2_int_2_int : FnC Try.prog 80 9 [.tmp 4] c_slices_Contains_2_int_2_int := ⟨by kernel_rfl, Try.f80, _, Try.func80, rfl, rfl, rfl, by kernel_rfl⟩
/-- slices.IndexFunc[[]craquelure/api.Way,craquelure/api.Way] -/
def c_slices_IndexFunc_api_Way_api_Way : AC := (.seq (.region [⟨.assign (.const (Value.int .i64 0)), some 4, none⟩])
 (.seq (.seq (.region [⟨.move (.tmp 0), some 6, none⟩,
  ⟨.call (Go.Call.mk (.builtin .len) #[.tmp 6] #[49]), some 7, none⟩,
  ⟨.move (.const (Value.int .i64 0)), some 8, none⟩])
 (.block 0 (.loop (.seq (.region [⟨.binOp .lss 3 (.tmp 8) (.tmp 7) 3, some 9, none⟩])
 (.seq (.cond (.tmp 9) .skip
 (.exit 0))
 (.seq (.block 1 (.seq (.region [⟨.move (.tmp 8), some 10, none⟩,
  ⟨.assign (.tmp 10), some 5, none⟩])
 (.seq (.region [⟨.move (.tmp 1), some 11, none⟩,
  ⟨.move (.tmp 0), some 12, none⟩,
  ⟨.move (.tmp 5), some 13, none⟩,
  ⟨.indexAddr 49 (.tmp 12) (.tmp 13), some 14, none⟩,
  ⟨.load 52 (.tmp 14), some 15, none⟩,
  ⟨.call (Go.Call.mk (.value (.tmp 11)) #[.tmp 15] #[52]), some 16, none⟩])
 (.cond (.tmp 16) (.seq (.region [⟨.move (.tmp 5), some 17, none⟩,
  ⟨.assign (.tmp 17), some 4, none⟩])
 .ret)
 .skip))))
 (.region [⟨.binOp .add 3 (.tmp 8) (.const (Value.int .i64 1)) 3, some 18, none⟩,
  ⟨.move (.tmp 18), some 8, none⟩])))))))
 (.seq (.region [⟨.assign (.const (Value.int .i64 (-1))), some 4, none⟩])
 .ret)))
theorem fc_slices_IndexFunc_api_Way_api_Way : FnC Try.prog 83 19 [.tmp 4] c_slices_IndexFunc_api_Way_api_Way := ⟨by kernel_rfl, Try.f83, _, Try.func83, rfl, rfl, rfl, by kernel_rfl⟩
/-- slices.Index[[]int,int] -/
def c_slices_Index_int_int : AC := (.seq (.region [⟨.assign (.const (Value.int .i64 0)), some 4, none⟩])
 (.seq (.seq (.region [⟨.move (.tmp 0), some 6, none⟩,
  ⟨.call (Go.Call.mk (.builtin .len) #[.tmp 6] #[63]), some 7, none⟩,
  ⟨.move (.const (Value.int .i64 0)), some 8, none⟩])
 (.block 0 (.loop (.seq (.region [⟨.binOp .lss 3 (.tmp 8) (.tmp 7) 3, some 9, none⟩])
 (.seq (.cond (.tmp 9) .skip
 (.exit 0))
 (.seq (.block 1 (.seq (.region [⟨.move (.tmp 8), some 10, none⟩,
  ⟨.assign (.tmp 10), some 5, none⟩])
 (.seq (.region [⟨.move (.tmp 1), some 11, none⟩,
  ⟨.move (.tmp 0), some 12, none⟩,
  ⟨.move (.tmp 5), some 13, none⟩,
  ⟨.indexAddr 63 (.tmp 12) (.tmp 13), some 14, none⟩,
  ⟨.load 3 (.tmp 14), some 15, none⟩,
  ⟨.binOp .eql 3 (.tmp 11) (.tmp 15) 3, some 16, none⟩])
 (.cond (.tmp 16) (.seq (.region [⟨.move (.tmp 5), some 17, none⟩,
  ⟨.assign (.tmp 17), some 4, none⟩])
 .ret)
 .skip))))
 (.region [⟨.binOp .add 3 (.tmp 8) (.const (Value.int .i64 1)) 3, some 18, none⟩,
  ⟨.move (.tmp 18), some 8, none⟩])))))))
 (.seq (.region [⟨.assign (.const (Value.int .i64 (-1))), some 4, none⟩])
 .ret)))
theorem fc_slices_Index_int_int : FnC Try.prog 84 19 [.tmp 4] c_slices_Index_int_int := ⟨by kernel_rfl, Try.f84, _, Try.func84, rfl, rfl, rfl, by kernel_rfl⟩
/-- slices.IndexFunc[[]craquelure/api.Node,craquelure/api.Node] -/
def c_slices_IndexFunc_api_Node_api_Node : AC := (.seq (.region [⟨.assign (.const (Value.int .i64 0)), some 4, none⟩])
 (.seq (.seq (.region [⟨.move (.tmp 0), some 6, none⟩,
  ⟨.call (Go.Call.mk (.builtin .len) #[.tmp 6] #[24]), some 7, none⟩,
  ⟨.move (.const (Value.int .i64 0)), some 8, none⟩])
 (.block 0 (.loop (.seq (.region [⟨.binOp .lss 3 (.tmp 8) (.tmp 7) 3, some 9, none⟩])
 (.seq (.cond (.tmp 9) .skip
 (.exit 0))
 (.seq (.block 1 (.seq (.region [⟨.move (.tmp 8), some 10, none⟩,
  ⟨.assign (.tmp 10), some 5, none⟩])
 (.seq (.region [⟨.move (.tmp 1), some 11, none⟩,
  ⟨.move (.tmp 0), some 12, none⟩,
  ⟨.move (.tmp 5), some 13, none⟩,
  ⟨.indexAddr 24 (.tmp 12) (.tmp 13), some 14, none⟩,
  ⟨.load 46 (.tmp 14), some 15, none⟩,
  ⟨.call (Go.Call.mk (.value (.tmp 11)) #[.tmp 15] #[46]), some 16, none⟩])
 (.cond (.tmp 16) (.seq (.region [⟨.move (.tmp 5), some 17, none⟩,
  ⟨.assign (.tmp 17), some 4, none⟩])
 .ret)
 .skip))))
 (.region [⟨.binOp .add 3 (.tmp 8) (.const (Value.int .i64 1)) 3, some 18, none⟩,
  ⟨.move (.tmp 18), some 8, none⟩])))))))
 (.seq (.region [⟨.assign (.const (Value.int .i64 (-1))), some 4, none⟩])
 .ret)))
theorem fc_slices_IndexFunc_api_Node_api_Node : FnC Try.prog 90 19 [.tmp 4] c_slices_IndexFunc_api_Node_api_Node := ⟨by kernel_rfl, Try.f90, _, Try.func90, rfl, rfl, rfl, by kernel_rfl⟩
/-- (*craquelure/walk.trail).node -/
def c_walk_trail_node : AC := (.seq (.region [⟨.alloc 46, some 4, none⟩])
 (.seq (.seq (.region [⟨.move (.tmp 1), some 5, none⟩,
  ⟨.binOp .lss 3 (.tmp 5) (.const (Value.int .i64 1)) 3, some 6, none⟩,
  ⟨.move (.tmp 6), some 7, none⟩,
  ⟨.move (.tmp 1), some 8, (some (7, false))⟩,
  ⟨.move (.tmp 0), some 9, (some (7, false))⟩,
  ⟨.nilCheck (.tmp 9), some 10, (some (7, false))⟩,
  ⟨.fieldAddr 96 (.tmp 10) 0, some 11, (some (7, false))⟩,
  ⟨.fieldAddr 26 (.tmp 11) 0, some 12, (some (7, false))⟩,
  ⟨.load 24 (.tmp 12), some 13, (some (7, false))⟩,
  ⟨.call (Go.Call.mk (.builtin .len) #[.tmp 13] #[24]), some 14, (some (7, false))⟩,
  ⟨.binOp .gtr 3 (.tmp 8) (.tmp 14) 3, some 15, (some (7, false))⟩,
  ⟨.pick (.tmp 7) (.const (Value.bool true)) (.tmp 15), some 16, none⟩])
 (.cond (.tmp 16) (.seq (.region [⟨.build 46 #[], some 17, none⟩,
  ⟨.store 46 (.tmp 4) (.tmp 17), none, none⟩])
 .ret)
 .skip))
 (.seq (.region [⟨.move (.tmp 0), some 18, none⟩,
  ⟨.nilCheck (.tmp 18), some 19, none⟩,
  ⟨.fieldAddr 96 (.tmp 19) 0, some 20, none⟩,
  ⟨.fieldAddr 26 (.tmp 20) 0, some 21, none⟩,
  ⟨.load 24 (.tmp 21), some 22, none⟩,
  ⟨.move (.tmp 1), some 23, none⟩,
  ⟨.binOp .sub 3 (.tmp 23) (.const (Value.int .i64 1)) 3, some 24, none⟩,
  ⟨.indexAddr 24 (.tmp 22) (.tmp 24), some 25, none⟩,
  ⟨.load 46 (.tmp 25), some 26, none⟩,
  ⟨.store 46 (.tmp 4) (.tmp 26), none, none⟩])
 .ret)))
theorem fc_walk_trail_node : FnC Try.prog 92 27 [.cell 4 46] c_walk_trail_node := ⟨by kernel_rfl, Try.f92, _, Try.func92, rfl, rfl, rfl, by kernel_rfl⟩
/-- (*craquelure/walk.trail).come -/
def c_walk_trail_come : AC := (.seq (.region [⟨.box 52 (.tmp 1), some 3, none⟩,
  ⟨.assign (.const (Value.bool false)), some 4, none⟩])
 (.seq (.seq (.draw [⟨.move (.tmp 0), some 5, none⟩,
  ⟨.nilCheck (.tmp 5), some 6, none⟩,
  ⟨.fieldAddr 96 (.tmp 6) 2, some 7, none⟩,
  ⟨.load 94 (.tmp 7), some 8, none⟩,
  ⟨.fieldAddr 52 (.tmp 3) 0, some 9, none⟩,
  ⟨.load 3 (.tmp 9), some 10, none⟩,
  ⟨.lookup 94 (.tmp 8) (.tmp 10) false, some 11, none⟩,
  ⟨.binOp .gtr 3 (.tmp 11) (.const (Value.int .i64 0)) 3, some 12, none⟩] [0, 1, 3, 7, 0, 16, 63, 127] [false, false, false, true, false, true, true, false])
 (.cond (.tmp 12) (.seq (.region [⟨.assign (.const (Value.bool false)), some 4, none⟩])
 .ret)
 .skip))
 (.seq (.draw [⟨.move (.tmp 0), some 13, none⟩,
  ⟨.nilCheck (.tmp 13), some 14, none⟩,
  ⟨.fieldAddr 96 (.tmp 14) 2, some 15, none⟩,
  ⟨.load 94 (.tmp 15), some 16, none⟩,
  ⟨.fieldAddr 52 (.tmp 3) 0, some 17, none⟩,
  ⟨.load 3 (.tmp 17), some 18, none⟩,
  ⟨.lookup 94 (.tmp 16) (.tmp 18) false, some 19, none⟩,
  ⟨.binOp .add 3 (.tmp 19) (.const (Value.int .i64 1)) 3, some 20, none⟩,
  ⟨.mapUpdate 94 (.tmp 16) (.tmp 18) (.tmp 20), none, none⟩] [0, 1, 3, 7, 0, 16, 63, 127, 255] [false, false, false, true, false, true, true, false, true])
 (.seq (.draw [⟨.move (.tmp 0), some 21, none⟩,
  ⟨.move (.tmp 0), some 22, none⟩,
  ⟨.nilCheck (.tmp 22), some 23, none⟩,
  ⟨.fieldAddr 96 (.tmp 23) 1, some 24, none⟩,
  ⟨.load 49 (.tmp 24), some 25, none⟩,
  ⟨.load 52 (.tmp 3), some 26, none⟩,
  ⟨.buildSlice 49 1 #[(0, .tmp 26)], some 27, none⟩,
  ⟨.call (Go.Call.mk (.builtin .append) #[.tmp 25, .tmp 27] #[49, 49]), some 28, none⟩,
  ⟨.nilCheck (.tmp 21), some 29, none⟩,
  ⟨.fieldAddr 96 (.tmp 29) 1, some 30, none⟩,
  ⟨.store 49 (.tmp 30) (.tmp 28), none, none⟩] [0, 0, 2, 6, 14, 0, 32, 126, 255, 511, 1023] [false, false, false, false, true, true, false, true, false, false, true])
 (.seq (.region [⟨.assign (.const (Value.bool true)), some 4, none⟩])
 .ret)))))
theorem fc_walk_trail_come : FnC Try.prog 93 31 [.tmp 4] c_walk_trail_come := ⟨by kernel_rfl, Try.f93, _, Try.func93, rfl, rfl, rfl, by kernel_rfl⟩
/-- (*craquelure/walk.trail).enter -/
def c_walk_trail_enter : AC := (.seq (.region [⟨.move (.tmp 0), some 7, none⟩,
  ⟨.nilCheck (.tmp 7), some 8, none⟩,
  ⟨.fieldAddr 96 (.tmp 8) 1, some 9, none⟩,
  ⟨.load 49 (.tmp 9), some 10, none⟩,
  ⟨.move (.tmp 1), some 11, none⟩,
  ⟨.indexAddr 49 (.tmp 10) (.tmp 11), some 12, none⟩,
  ⟨.fieldAddr 52 (.tmp 12) 0, some 13, none⟩,
  ⟨.load 3 (.tmp 13), some 14, none⟩,
  ⟨.assign (.tmp 14), some 4, none⟩])
 (.seq (.region [⟨.move (.tmp 0), some 15, none⟩,
  ⟨.move (.tmp 4), some 16, none⟩,
  ⟨.call (Go.Call.mk (.value (.func 92)) #[.tmp 15, .tmp 16] #[97, 3]), some 17, none⟩,
  ⟨.field 46 (.tmp 17) 5, some 18, none⟩,
  ⟨.call (Go.Call.mk (.builtin .len) #[.tmp 18] #[40]), some 19, none⟩,
  ⟨.move (.const (Value.int .i64 0)), some 20, none⟩])
 (.block 0 (.loop (.seq (.region [⟨.binOp .lss 3 (.tmp 20) (.tmp 19) 3, some 21, none⟩])
 (.seq (.cond (.tmp 21) .skip
 (.exit 0))
 (.seq (.block 1 (.seq (.region [⟨.indexAddr 40 (.tmp 18) (.tmp 20), some 22, none⟩,
  ⟨.load 54 (.tmp 22), some 23, none⟩,
  ⟨.alloc 54, some 6, none⟩,
  ⟨.store 54 (.tmp 6) (.tmp 23), none, none⟩])
 (.seq (.region [⟨.move (.tmp 0), some 24, none⟩,
  ⟨.fieldAddr 54 (.tmp 6) 1, some 25, none⟩,
  ⟨.load 3 (.tmp 25), some 26, none⟩,
  ⟨.call (Go.Call.mk (.value (.func 92)) #[.tmp 24, .tmp 26] #[97, 3]), some 27, none⟩,
  ⟨.field 46 (.tmp 27) 0, some 28, none⟩,
  ⟨.binOp .eql 3 (.tmp 28) (.const (Value.int .i64 1)) 3, some 29, none⟩,
  ⟨.move (.tmp 29), some 30, none⟩,
  ⟨.move (.tmp 0), some 31, (some (30, true))⟩,
  ⟨.fieldAddr 54 (.tmp 6) 1, some 32, (some (30, true))⟩,
  ⟨.load 3 (.tmp 32), some 33, (some (30, true))⟩,
  ⟨.move (.tmp 1), some 34, (some (30, true))⟩,
  ⟨.fieldAddr 54 (.tmp 6) 2, some 35, (some (30, true))⟩,
  ⟨.load 9 (.tmp 35), some 36, (some (30, true))⟩,
  ⟨.build 52 #[(0, .tmp 33), (1, .tmp 34), (2, .tmp 36)], some 37, (some (30, true))⟩,
  ⟨.call (Go.Call.mk (.value (.func 93)) #[.tmp 31, .tmp 37] #[97, 52]), some 38, (some (30, true))⟩,
  ⟨.unOp .not 4 (.tmp 38), some 39, (some (30, true))⟩,
  ⟨.pick (.tmp 30) (.tmp 39) (.const (Value.bool false)), some 40, none⟩])
 (.cond (.tmp 40) (.draw [⟨.move (.tmp 0), some 41, none⟩,
  ⟨.move (.tmp 0), some 42, none⟩,
  ⟨.nilCheck (.tmp 42), some 43, none⟩,
  ⟨.fieldAddr 96 (.tmp 43) 3, some 44, none⟩,
  ⟨.load 67 (.tmp 44), some 45, none⟩,
  ⟨.move (.tmp 4), some 46, none⟩,
  ⟨.fieldAddr 54 (.tmp 6) 0, some 47, none⟩,
  ⟨.load 3 (.tmp 47), some 48, none⟩,
  ⟨.build 68 #[(0, .tmp 46), (1, .tmp 48)], some 49, none⟩,
  ⟨.buildSlice 67 1 #[(0, .tmp 49)], some 50, none⟩,
  ⟨.call (Go.Call.mk (.builtin .append) #[.tmp 45, .tmp 50] #[67, 67]), some 51, none⟩,
  ⟨.nilCheck (.tmp 41), some 52, none⟩,
  ⟨.fieldAddr 96 (.tmp 52) 3, some 53, none⟩,
  ⟨.store 67 (.tmp 53) (.tmp 51), none, none⟩] [0, 0, 2, 6, 14, 0, 0, 64, 224, 480, 1022, 2047, 4095, 8191] [false, false, false, false, true, false, false, true, false, false, true, false, false, true])
 .skip))))
 (.region [⟨.binOp .add 3 (.tmp 20) (.const (Value.int .i64 1)) 3, some 54, none⟩,
  ⟨.move (.tmp 54), some 20, none⟩]))))))))
theorem fc_walk_trail_enter : FnC Try.prog 94 55 [] c_walk_trail_enter := ⟨by kernel_rfl, Try.f94, _, Try.func94, rfl, rfl, rfl, by kernel_rfl⟩
/-- slices.IndexFunc[[]craquelure/api.Entry,craquelure/api.Entry] -/
def c_slices_IndexFunc_api_Entry_api_Entry : AC := (.seq (.region [⟨.assign (.const (Value.int .i64 0)), some 4, none⟩])
 (.seq (.seq (.region [⟨.move (.tmp 0), some 6, none⟩,
  ⟨.call (Go.Call.mk (.builtin .len) #[.tmp 6] #[40]), some 7, none⟩,
  ⟨.move (.const (Value.int .i64 0)), some 8, none⟩])
 (.block 0 (.loop (.seq (.region [⟨.binOp .lss 3 (.tmp 8) (.tmp 7) 3, some 9, none⟩])
 (.seq (.cond (.tmp 9) .skip
 (.exit 0))
 (.seq (.block 1 (.seq (.region [⟨.move (.tmp 8), some 10, none⟩,
  ⟨.assign (.tmp 10), some 5, none⟩])
 (.seq (.region [⟨.move (.tmp 1), some 11, none⟩,
  ⟨.move (.tmp 0), some 12, none⟩,
  ⟨.move (.tmp 5), some 13, none⟩,
  ⟨.indexAddr 40 (.tmp 12) (.tmp 13), some 14, none⟩,
  ⟨.load 54 (.tmp 14), some 15, none⟩,
  ⟨.call (Go.Call.mk (.value (.tmp 11)) #[.tmp 15] #[54]), some 16, none⟩])
 (.cond (.tmp 16) (.seq (.region [⟨.move (.tmp 5), some 17, none⟩,
  ⟨.assign (.tmp 17), some 4, none⟩])
 .ret)
 .skip))))
 (.region [⟨.binOp .add 3 (.tmp 8) (.const (Value.int .i64 1)) 3, some 18, none⟩,
  ⟨.move (.tmp 18), some 8, none⟩])))))))
 (.seq (.region [⟨.assign (.const (Value.int .i64 (-1))), some 4, none⟩])
 .ret)))
theorem fc_slices_IndexFunc_api_Entry_api_Entry : FnC Try.prog 95 19 [.tmp 4] c_slices_IndexFunc_api_Entry_api_Entry := ⟨by kernel_rfl, Try.f95, _, Try.func95, rfl, rfl, rfl, by kernel_rfl⟩
/-- craquelure/craquelureref03.Right -/
def c_ref03_Right : AC := (.seq (.region [⟨.assign (.const (Value.bool false)), some 2, none⟩])
 (.seq (.seq (.region [⟨.move (.tmp 0), some 4, none⟩,
  ⟨.call (Go.Call.mk (.builtin .len) #[.tmp 4] #[9]), some 5, none⟩,
  ⟨.binOp .lss 3 (.tmp 5) (.const (Value.int .i64 1)) 3, some 6, none⟩,
  ⟨.move (.tmp 6), some 7, none⟩,
  ⟨.move (.tmp 0), some 8, (some (7, false))⟩,
  ⟨.call (Go.Call.mk (.builtin .len) #[.tmp 8] #[9]), some 9, (some (7, false))⟩,
  ⟨.binOp .gtr 3 (.tmp 9) (.const (Value.int .i64 12)) 3, some 10, (some (7, false))⟩,
  ⟨.pick (.tmp 7) (.const (Value.bool true)) (.tmp 10), some 11, none⟩,
  ⟨.move (.tmp 11), some 12, none⟩,
  ⟨.move (.tmp 0), some 13, (some (12, false))⟩,
  ⟨.binOp .eql 9 (.tmp 13) (.const (Value.string (ByteArray.mk #[46]))) 9, some 14, (some (12, false))⟩,
  ⟨.pick (.tmp 12) (.const (Value.bool true)) (.tmp 14), some 15, none⟩,
  ⟨.move (.tmp 15), some 16, none⟩,
  ⟨.move (.tmp 0), some 17, (some (16, false))⟩,
  ⟨.binOp .eql 9 (.tmp 17) (.const (Value.string (ByteArray.mk #[46, 46]))) 9, some 18, (some (16, false))⟩,
  ⟨.pick (.tmp 16) (.const (Value.bool true)) (.tmp 18), some 19, none⟩])
 (.cond (.tmp 19) (.seq (.region [⟨.assign (.const (Value.bool false)), some 2, none⟩])
 .ret)
 .skip))
 (.seq (.seq (.region [⟨.assign (.const (Value.int .i64 0)), some 3, none⟩])
 (.block 0 (.loop (.seq (.seq (.region [⟨.move (.tmp 3), some 20, none⟩,
  ⟨.move (.tmp 0), some 21, none⟩,
  ⟨.call (Go.Call.mk (.builtin .len) #[.tmp 21] #[9]), some 22, none⟩,
  ⟨.binOp .lss 3 (.tmp 20) (.tmp 22) 3, some 23, none⟩])
 (.cond (.tmp 23) .skip
 (.exit 0)))
 (.seq (.block 1 (.seq (.region [⟨.move (.tmp 0), some 26, none⟩,
  ⟨.move (.tmp 3), some 27, none⟩,
  ⟨.index 9 (.tmp 26) (.tmp 27), some 28, none⟩,
  ⟨.call (Go.Call.mk (.value (.func 105)) #[.tmp 28] #[5]), some 29, none⟩,
  ⟨.unOp .not 4 (.tmp 29), some 30, none⟩])
 (.cond (.tmp 30) (.seq (.region [⟨.assign (.const (Value.bool false)), some 2, none⟩])
 .ret)
 .skip)))
 (.region [⟨.move (.tmp 3), some 24, none⟩,
  ⟨.binOp .add 3 (.tmp 24) (.const (Value.int .i64 1)) 3, some 25, none⟩,
  ⟨.assign (.tmp 25), some 3, none⟩]))))))
 (.seq (.region [⟨.assign (.const (Value.bool true)), some 2, none⟩])
 .ret))))
theorem fc_ref03_Right : FnC Try.prog 96 31 [.tmp 2] c_ref03_Right := ⟨by kernel_rfl, Try.f96, _, Try.func96, rfl, rfl, rfl, by kernel_rfl⟩
/-- (*craquelure/walk.trail).names -/
def c_walk_trail_names : AC := (.seq (.region [⟨.box 97 (.tmp 0), some 1, none⟩,
  ⟨.assign (.const Value.nilFunc), some 2, none⟩])
 (.seq (.region [⟨.makeFunc (.func 109) #[] #[.tmp 1], some 3, none⟩,
  ⟨.assign (.tmp 3), some 2, none⟩])
 .ret))
theorem fc_walk_trail_names : FnC Try.prog 101 4 [.tmp 2] c_walk_trail_names := ⟨by kernel_rfl, Try.f101, _, Try.func101, rfl, rfl, rfl, by kernel_rfl⟩
/-- slices.Index[[][2]int,[2]int] -/
def c_slices_Index_2_int_2_int : AC := (.seq (.region [⟨.box 68 (.tmp 1), some 3, none⟩,
  ⟨.assign (.const (Value.int .i64 0)), some 4, none⟩])
 (.seq (.seq (.region [⟨.move (.tmp 0), some 6, none⟩,
  ⟨.call (Go.Call.mk (.builtin .len) #[.tmp 6] #[67]), some 7, none⟩,
  ⟨.move (.const (Value.int .i64 0)), some 8, none⟩])
 (.block 0 (.loop (.seq (.region [⟨.binOp .lss 3 (.tmp 8) (.tmp 7) 3, some 9, none⟩])
 (.seq (.cond (.tmp 9) .skip
 (.exit 0))
 (.seq (.block 1 (.seq (.region [⟨.move (.tmp 8), some 10, none⟩,
  ⟨.assign (.tmp 10), some 5, none⟩])
 (.seq (.draw [⟨.load 68 (.tmp 3), some 11, none⟩,
  ⟨.move (.tmp 0), some 12, none⟩,
  ⟨.move (.tmp 5), some 13, none⟩,
  ⟨.indexAddr 67 (.tmp 12) (.tmp 13), some 14, none⟩,
  ⟨.load 68 (.tmp 14), some 15, none⟩,
  ⟨.binOp .eql 68 (.tmp 11) (.tmp 15) 68, some 16, none⟩] [0, 0, 0, 6, 14, 31] [true, false, false, false, true, false])
 (.cond (.tmp 16) (.seq (.region [⟨.move (.tmp 5), some 17, none⟩,
  ⟨.assign (.tmp 17), some 4, none⟩])
 .ret)
 .skip))))
 (.region [⟨.binOp .add 3 (.tmp 8) (.const (Value.int .i64 1)) 3, some 18, none⟩,
  ⟨.move (.tmp 18), some 8, none⟩])))))))
 (.seq (.region [⟨.assign (.const (Value.int .i64 (-1))), some 4, none⟩])
 .ret)))
theorem fc_slices_Index_2_int_2_int : FnC Try.prog 102 19 [.tmp 4] c_slices_Index_2_int_2_int := ⟨by kernel_rfl, Try.f102, _, Try.func102, rfl, rfl, rfl, by kernel_rfl⟩
/-- craquelure/craquelureref03.letter -/
def c_ref03_letter : AC := (.seq (.region [⟨.assign (.const (Value.bool false)), some 2, none⟩])
 (.seq (.region [⟨.move (.tmp 0), some 3, none⟩,
  ⟨.binOp .geq 5 (.tmp 3) (.const (Value.int .u8 97)) 5, some 4, none⟩,
  ⟨.move (.tmp 4), some 5, none⟩,
  ⟨.move (.tmp 0), some 6, (some (5, true))⟩,
  ⟨.binOp .leq 5 (.tmp 6) (.const (Value.int .u8 122)) 5, some 7, (some (5, true))⟩,
  ⟨.pick (.tmp 5) (.tmp 7) (.const (Value.bool false)), some 8, none⟩,
  ⟨.move (.tmp 8), some 9, none⟩,
  ⟨.move (.tmp 0), some 10, (some (9, false))⟩,
  ⟨.binOp .geq 5 (.tmp 10) (.const (Value.int .u8 48)) 5, some 11, (some (9, false))⟩,
  ⟨.move (.tmp 11), some 12, (some (9, false))⟩,
  ⟨.move (.tmp 0), some 13, (some (12, true))⟩,
  ⟨.binOp .leq 5 (.tmp 13) (.const (Value.int .u8 57)) 5, some 14, (some (12, true))⟩,
  ⟨.pick (.tmp 12) (.tmp 14) (.const (Value.bool false)), some 15, (some (9, false))⟩,
  ⟨.pick (.tmp 9) (.const (Value.bool true)) (.tmp 15), some 16, none⟩,
  ⟨.move (.tmp 16), some 17, none⟩,
  ⟨.move (.tmp 0), some 18, (some (17, false))⟩,
  ⟨.binOp .eql 5 (.tmp 18) (.const (Value.int .u8 46)) 5, some 19, (some (17, false))⟩,
  ⟨.pick (.tmp 17) (.const (Value.bool true)) (.tmp 19), some 20, none⟩,
  ⟨.move (.tmp 20), some 21, none⟩,
  ⟨.move (.tmp 0), some 22, (some (21, false))⟩,
  ⟨.binOp .eql 5 (.tmp 22) (.const (Value.int .u8 95)) 5, some 23, (some (21, false))⟩,
  ⟨.pick (.tmp 21) (.const (Value.bool true)) (.tmp 23), some 24, none⟩,
  ⟨.move (.tmp 24), some 25, none⟩,
  ⟨.move (.tmp 0), some 26, (some (25, false))⟩,
  ⟨.binOp .eql 5 (.tmp 26) (.const (Value.int .u8 45)) 5, some 27, (some (25, false))⟩,
  ⟨.pick (.tmp 25) (.const (Value.bool true)) (.tmp 27), some 28, none⟩,
  ⟨.assign (.tmp 28), some 2, none⟩])
 .ret))
theorem fc_ref03_letter : FnC Try.prog 105 29 [.tmp 2] c_ref03_letter := ⟨by kernel_rfl, Try.f105, _, Try.func105, rfl, rfl, rfl, by kernel_rfl⟩
/-- (*craquelure/walk.trail).names$1 -/
def c_walk_trail_names_1 : AC := (.scope (.seq (.label 0)
 (.seq (.region [⟨.load 97 (.tmp 1), some 7, none⟩,
  ⟨.nilCheck (.tmp 7), some 8, none⟩,
  ⟨.fieldAddr 96 (.tmp 8) 1, some 9, none⟩,
  ⟨.load 49 (.tmp 9), some 10, none⟩,
  ⟨.call (Go.Call.mk (.builtin .len) #[.tmp 10] #[49]), some 11, none⟩,
  ⟨.move (.const (Value.int .i64 0)), some 12, none⟩])
 (.block 0 (.loop (.seq (.region [⟨.binOp .lss 3 (.tmp 12) (.tmp 11) 3, some 13, none⟩])
 (.seq (.cond (.tmp 13) .skip
 (.exit 0))
 (.seq (.block 1 (.seq (.region [⟨.indexAddr 49 (.tmp 10) (.tmp 12), some 14, none⟩,
  ⟨.load 52 (.tmp 14), some 15, none⟩,
  ⟨.alloc 52, some 4, none⟩,
  ⟨.store 52 (.tmp 4) (.tmp 15), none, none⟩])
 (.seq (.region [⟨.load 97 (.tmp 1), some 16, none⟩,
  ⟨.fieldAddr 52 (.tmp 4) 0, some 17, none⟩,
  ⟨.load 3 (.tmp 17), some 18, none⟩,
  ⟨.call (Go.Call.mk (.value (.func 92)) #[.tmp 16, .tmp 18] #[97, 3]), some 19, none⟩,
  ⟨.field 46 (.tmp 19) 5, some 20, none⟩,
  ⟨.call (Go.Call.mk (.builtin .len) #[.tmp 20] #[40]), some 21, none⟩,
  ⟨.move (.const (Value.int .i64 0)), some 22, none⟩])
 (.block 2 (.loop (.seq (.region [⟨.binOp .lss 3 (.tmp 22) (.tmp 21) 3, some 23, none⟩])
 (.seq (.cond (.tmp 23) .skip
 (.exit 2))
 (.seq (.block 3 (.seq (.region [⟨.indexAddr 40 (.tmp 20) (.tmp 22), some 24, none⟩,
  ⟨.load 54 (.tmp 24), some 25, none⟩,
  ⟨.alloc 54, some 6, none⟩,
  ⟨.store 54 (.tmp 6) (.tmp 25), none, none⟩])
 (.seq (.region [⟨.move (.tmp 0), some 26, none⟩,
  ⟨.load 54 (.tmp 6), some 27, none⟩,
  ⟨.call (Go.Call.mk (.value (.tmp 26)) #[.tmp 27] #[54]), some 28, none⟩,
  ⟨.unOp .not 4 (.tmp 28), some 29, none⟩])
 (.cond (.tmp 29) (.exit 0)
 .skip))))
 (.region [⟨.binOp .add 3 (.tmp 22) (.const (Value.int .i64 1)) 3, some 30, none⟩,
  ⟨.move (.tmp 30), some 22, none⟩])))))))))
 (.region [⟨.binOp .add 3 (.tmp 12) (.const (Value.int .i64 1)) 3, some 31, none⟩,
  ⟨.move (.tmp 31), some 12, none⟩])))))))))
theorem fc_walk_trail_names_1 : FnC Try.prog 109 32 [] c_walk_trail_names_1 := ⟨by kernel_rfl, Try.f109, _, Try.func109, rfl, rfl, rfl, by kernel_rfl⟩
end Go.Proofs.Ytnmljicimdhpmaa.AL

