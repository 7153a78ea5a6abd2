/- A law of the given program is proved: part 32 of 50. -/
import Derived.IntWalk
import Derived.Test.YtefdlpandfhcgaaGreatDoorA31
set_option linter.all false
/- Generic functions of slices: IndexFunc, ContainsFunc, for all types. -/
set_option linter.unusedSimpArgs false
set_option linter.unusedVariables false
namespace Go.Proofs.YtefdlpandfhcgaaGreatDoor.AL
open Go.RowKit
def idxAC (S E : TypeId) : AC := (.seq (.region [⟨.assign (.const (Value.int .i64 0)), some 4, none⟩])
 (.seq (.seq (.region [⟨.move (.tmp 0), some 6, none⟩,
  ⟨.call (Go.Call.mk (.builtin .len) #[.tmp 6] #[S]), some 7, none⟩,
  ⟨.move (.const (Value.int .i64 0)), some 8, none⟩])
 (.block 0 (.loop (.seq (.region [⟨.binOp .lss 3 (.tmp 8) (.tmp 7) 3, some 9, none⟩])
 (.seq (.cond (.tmp 9) .skip
 (.exit 0))
 (.seq (.block 1 (.seq (.region [⟨.move (.tmp 8), some 10, none⟩,
  ⟨.assign (.tmp 10), some 5, none⟩])
 (.seq (.region [⟨.move (.tmp 1), some 11, none⟩,
  ⟨.move (.tmp 0), some 12, none⟩,
  ⟨.move (.tmp 5), some 13, none⟩,
  ⟨.indexAddr S (.tmp 12) (.tmp 13), some 14, none⟩,
  ⟨.load E (.tmp 14), some 15, none⟩,
  ⟨.call (Go.Call.mk (.value (.tmp 11)) #[.tmp 15] #[E]), some 16, none⟩])
 (.cond (.tmp 16) (.seq (.region [⟨.move (.tmp 5), some 17, none⟩,
  ⟨.assign (.tmp 17), some 4, none⟩])
 .ret)
 .skip))))
 (.region [⟨.binOp .add 3 (.tmp 8) (.const (Value.int .i64 1)) 3, some 18, none⟩,
  ⟨.move (.tmp 18), some 8, none⟩])))))))
 (.seq (.region [⟨.assign (.const (Value.int .i64 (-1))), some 4, none⟩])
 .ret)))
theorem xyl {a b : List AV} (ha : closeds a = true) (hb : closeds b = true) : closeds (a ++ b) = true := by
  induction a with
  | nil => exact hb
  | cons x a ih =>
    simp only [closeds, Bool.and_eq_true] at ha
    simp only [List.cons_append, closeds, Bool.and_eq_true]
    exact ⟨ha.1, ih ha.2⟩
def conAC (g : FuncId) (S F : TypeId) : AC := (.seq (.region [⟨.assign (.const (Value.bool false)), some 4, none⟩])
 (.seq (.region [⟨.move (.tmp 0), some 5, none⟩,
  ⟨.move (.tmp 1), some 6, none⟩,
  ⟨.call (Go.Call.mk (.value (.func g)) #[.tmp 5, .tmp 6] #[S, F]), some 7, none⟩,
  ⟨.binOp .geq 3 (.tmp 7) (.const (Value.int .i64 0)) 3, some 8, none⟩,
  ⟨.assign (.tmp 8), some 4, none⟩])
 .ret))
end Go.Proofs.YtefdlpandfhcgaaGreatDoor.AL

