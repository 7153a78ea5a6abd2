/- What of the attributes of any stack, and of any node, may not be, is what the document says: part 35 of 46. -/
import Derived.Test.YtlgikchfddhocaaChecked
import Derived.Test.YtlgikchfddhocaaB34
set_option linter.all false
/- AL: the functions of this seat's translation in AL's short form, written by gencode.py out of Lean's own print of them; each with the fact that it is so. -/
set_option maxRecDepth 100000
namespace Go.Proofs.Ytlgikchfddhocaa.AL
open Go Go.Proofs
/-- cmp.isNaN[string] -/
def c_cmp_isNaN_string : AC := (.seq (.region [⟨.assign (.const (Value.bool false)), some 2, none⟩])
 (.seq (.region [⟨.move (.tmp 0), some 3, none⟩,
  ⟨.move (.tmp 0), some 4, none⟩,
  ⟨.binOp .neq 9 (.tmp 3) (.tmp 4) 9, some 5, none⟩,
  ⟨.assign (.tmp 5), some 2, none⟩])
 .ret))
theorem fc_cmp_isNaN_string : FnC Try.prog 57 6 [.tmp 2] c_cmp_isNaN_string := ⟨by kernel_rfl, Try.f57, _, Try.func57, rfl, rfl, rfl, by kernel_rfl⟩
end Go.Proofs.Ytlgikchfddhocaa.AL

