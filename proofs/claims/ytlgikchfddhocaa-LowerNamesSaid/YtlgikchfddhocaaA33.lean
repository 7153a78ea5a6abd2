/- What any node of any stack should say of copies, and which say otherwise, is what the document says: part 33 of 45. -/
import Derived.Test.YtlgikchfddhocaaA32
set_option linter.all false
/- '==' of plain structs, printed by eqrules.py. -/
set_option linter.all false
set_option maxRecDepth 100000
namespace Go.Proofs.Ytlgikchfddhocaa.AL
open Go Go.Proofs
theorem eqv_48 (x y : Place) : evalEq Try.prog 40 48 (encPlace x) (encPlace y) = some ((x.layer == y.layer) && ((x.ino == y.ino) && true)) := by kernel_rfl
theorem eqg_48 : Program.eqGuardType Try.prog (Program.depth Try.prog) 48 = false := by kernel_rfl
theorem eqd_48 (x y : Place) : ((x.layer == y.layer) && ((x.ino == y.ino) && true)) = decide (x = y) := by
  rw [Bool.eq_iff_iff]
  obtain ⟨z21, z22⟩ := x
  obtain ⟨z23, z24⟩ := y
  simp [beq_bytes, Place.mk.injEq]
theorem eqE_48 (x y : Place) : binK Try.prog .eql 48 (encPlace x) (encPlace y) = brR (decide (x = y)) := by
  have h := eqv_48 x y
  rw [eqd_48] at h
  have g := eqg_48
  simp only [binK, evalBin, encPlace] at h ⊢
  rw [h, if_neg (by rw [g]; simp)]
  rfl
theorem eqN_48 (x y : Place) : binK Try.prog .neq 48 (encPlace x) (encPlace y) = brR (!(decide (x = y))) := by
  have h := eqv_48 x y
  rw [eqd_48] at h
  have g := eqg_48
  simp only [binK, evalBin, encPlace] at h ⊢
  rw [h, if_neg (by rw [g]; simp)]
  rfl
def eq48 := And.intro @eqE_48 (And.intro @eqN_48 (And.intro @Bool.not_true @Bool.not_false))
end Go.Proofs.Ytlgikchfddhocaa.AL

