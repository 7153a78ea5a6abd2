/- What of the attributes of any stack, and of any node, may not be, is what the document says: part 36 of 50. -/
import Derived.Test.YtapdjibjnfeipaaGreatDoorChecked
import Derived.Test.YtapdjibjnfeipaaGreatDoorB35
set_option linter.all false
/- AL: the functions of this seat's translation in AL's short form, written by gencode.py out of Lean's own print of them; each with the fact that it is so. -/
set_option maxRecDepth 100000
namespace Go.Proofs.YtapdjibjnfeipaaGreatDoor.AL
open Go Go.Proofs
def c_path_parts : AC := (.seq (.region [⟨.assign (.const (Value.slice none 0 0)), some 2, none⟩,
  ⟨.assign (.const (Value.bool false)), some 3, none⟩])
 (.seq (.region [⟨.move (.tmp 0), some 7, none⟩,
  ⟨.call (Go.Call.mk (.value (.func 131)) #[.tmp 7, .const (Value.string (ByteArray.mk #[47]))] #[9, 9]), some 8, none⟩,
  ⟨.move (.tmp 8), some 6, none⟩,
  ⟨.extract (.tmp 6) 0, some 9, none⟩,
  ⟨.extract (.tmp 6) 1, some 10, none⟩,
  ⟨.assign (.tmp 9), some 4, none⟩,
  ⟨.assign (.tmp 10), some 5, none⟩])
 (.seq (.seq (.region [⟨.move (.tmp 5), some 11, none⟩,
  ⟨.unOp .not 4 (.tmp 11), some 12, none⟩])
 (.cond (.tmp 12) (.seq (.region [⟨.assign (.const (Value.slice none 0 0)), some 2, none⟩,
  ⟨.assign (.const (Value.bool false)), some 3, none⟩])
 .ret)
 .skip))
 (.seq (.region [⟨.move (.tmp 4), some 13, none⟩,
  ⟨.call (Go.Call.mk (.value (.func 132)) #[.tmp 13, .const (Value.string (ByteArray.mk #[47]))] #[9, 9]), some 14, none⟩,
  ⟨.assign (.tmp 14), some 2, none⟩,
  ⟨.assign (.const (Value.bool true)), some 3, none⟩])
 .ret))))
theorem fc_path_parts : FnC Tryz.prog 119 15 [.tmp 2, .tmp 3] c_path_parts := ⟨by kernel_rfl, Tryz.f119, _, Tryz.func119, rfl, rfl, rfl, by kernel_rfl⟩
def c_slices_ContainsFunc_string_string : AC := (.seq (.region [⟨.assign (.const (Value.bool false)), some 4, none⟩])
 (.seq (.region [⟨.move (.tmp 0), some 5, none⟩,
  ⟨.move (.tmp 1), some 6, none⟩,
  ⟨.call (Go.Call.mk (.value (.func 91)) #[.tmp 5, .tmp 6] #[42, 104]), some 7, none⟩,
  ⟨.binOp .geq 3 (.tmp 7) (.const (Value.int .i64 0)) 3, some 8, none⟩,
  ⟨.assign (.tmp 8), some 4, none⟩])
 .ret))
theorem fc_slices_ContainsFunc_string_string : FnC Tryz.prog 120 9 [.tmp 4] c_slices_ContainsFunc_string_string := ⟨by kernel_rfl, Tryz.f120, _, Tryz.func120, rfl, rfl, rfl, by kernel_rfl⟩
def c_path_Split_1 : AC := (.seq (.region [⟨.assign (.const (Value.bool false)), some 2, none⟩])
 (.seq (.region [⟨.move (.tmp 0), some 3, none⟩,
  ⟨.call (Go.Call.mk (.value (.func 102)) #[.tmp 3] #[9]), some 4, none⟩,
  ⟨.unOp .not 4 (.tmp 4), some 5, none⟩,
  ⟨.assign (.tmp 5), some 2, none⟩])
 .ret))
theorem fc_path_Split_1 : FnC Tryz.prog 121 6 [.tmp 2] c_path_Split_1 := ⟨by kernel_rfl, Tryz.f121, _, Tryz.func121, rfl, rfl, rfl, by kernel_rfl⟩
def c_name_Right_1 : AC := (.seq (.region [⟨.assign (.const (Value.bool false)), some 2, none⟩])
 (.seq (.region [⟨.move (.tmp 0), some 3, none⟩,
  ⟨.call (Go.Call.mk (.value (.func 124)) #[.tmp 3] #[21]), some 4, none⟩,
  ⟨.unOp .not 4 (.tmp 4), some 5, none⟩,
  ⟨.assign (.tmp 5), some 2, none⟩])
 .ret))
theorem fc_name_Right_1 : FnC Tryz.prog 123 6 [.tmp 2] c_name_Right_1 := ⟨by kernel_rfl, Tryz.f123, _, Tryz.func123, rfl, rfl, rfl, by kernel_rfl⟩
def c_name_letter : AC := (.seq (.region [⟨.assign (.const (Value.bool false)), some 2, none⟩])
 (.seq (.block 0 (.seq (.seq (.region [⟨.move (.tmp 0), some 4, none⟩,
  ⟨.binOp .geq 21 (.tmp 4) (.const (Value.int .i32 97)) 21, some 5, none⟩,
  ⟨.move (.tmp 5), some 6, none⟩,
  ⟨.move (.tmp 0), some 7, (some (6, true))⟩,
  ⟨.binOp .leq 21 (.tmp 7) (.const (Value.int .i32 122)) 21, some 8, (some (6, true))⟩,
  ⟨.pick (.tmp 6) (.tmp 8) (.const (Value.bool false)), some 9, none⟩,
  ⟨.assign (.tmp 9), some 3, none⟩])
 (.cond (.tmp 3) .skip
 (.region [⟨.move (.tmp 0), some 10, none⟩,
  ⟨.binOp .geq 21 (.tmp 10) (.const (Value.int .i32 48)) 21, some 11, none⟩,
  ⟨.move (.tmp 11), some 12, none⟩,
  ⟨.move (.tmp 0), some 13, (some (12, true))⟩,
  ⟨.binOp .leq 21 (.tmp 13) (.const (Value.int .i32 57)) 21, some 14, (some (12, true))⟩,
  ⟨.pick (.tmp 12) (.tmp 14) (.const (Value.bool false)), some 15, none⟩,
  ⟨.assign (.tmp 15), some 3, none⟩])))
 (.cond (.tmp 3) (.seq (.region [⟨.assign (.const (Value.bool true)), some 2, none⟩])
 .ret)
 .skip)))
 (.seq (.region [⟨.move (.tmp 0), some 16, none⟩,
  ⟨.binOp .eql 21 (.tmp 16) (.const (Value.int .i32 46)) 21, some 17, none⟩,
  ⟨.move (.tmp 17), some 18, none⟩,
  ⟨.move (.tmp 0), some 19, (some (18, false))⟩,
  ⟨.binOp .eql 21 (.tmp 19) (.const (Value.int .i32 95)) 21, some 20, (some (18, false))⟩,
  ⟨.pick (.tmp 18) (.const (Value.bool true)) (.tmp 20), some 21, none⟩,
  ⟨.move (.tmp 21), some 22, none⟩,
  ⟨.move (.tmp 0), some 23, (some (22, false))⟩,
  ⟨.binOp .eql 21 (.tmp 23) (.const (Value.int .i32 45)) 21, some 24, (some (22, false))⟩,
  ⟨.pick (.tmp 22) (.const (Value.bool true)) (.tmp 24), some 25, none⟩,
  ⟨.assign (.tmp 25), some 2, none⟩])
 .ret)))
theorem fc_name_letter : FnC Tryz.prog 124 26 [.tmp 2] c_name_letter := ⟨by kernel_rfl, Tryz.f124, _, Tryz.func124, rfl, rfl, rfl, by kernel_rfl⟩
end Go.Proofs.YtapdjibjnfeipaaGreatDoor.AL

