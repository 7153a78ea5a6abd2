/- A law of the given program is proved: part 35 of 51. -/
import Derived.Test.YtefdlpandfhcgaaDoorB34
set_option linter.all false
/- '==' of plain structs, printed by eqrules.py. -/
set_option linter.all false
set_option maxRecDepth 100000
namespace Go.Proofs.YtefdlpandfhcgaaDoor.AL
open Go Go.Proofs
theorem eqv_23 (x y : Origin) : evalEq Tryd.prog 40 23 (xo x) (xo y) = some ((x.layer == y.layer) && ((x.ino == y.ino) && ((x.gen == y.gen) && true))) := by kernel_rfl
theorem eqg_23 : Program.eqGuardType Tryd.prog (Program.depth Tryd.prog) 23 = false := by kernel_rfl
theorem eqd_23 (x y : Origin) : ((x.layer == y.layer) && ((x.ino == y.ino) && ((x.gen == y.gen) && true))) = decide (x = y) := by
  rw [Bool.eq_iff_iff]
  obtain ⟨z7, z8, z9⟩ := x
  obtain ⟨z10, z11, z12⟩ := y
  simp [xcn, Origin.mk.injEq]
theorem eqE_23 (x y : Origin) : binK Tryd.prog .eql 23 (xo x) (xo y) = brR (decide (x = y)) := by
  have h := eqv_23 x y
  rw [eqd_23] at h
  have g := eqg_23
  simp only [binK, xqb, xo] at h ⊢
  rw [h, if_neg (by rw [g]; simp)]
  rfl
theorem eqN_23 (x y : Origin) : binK Tryd.prog .neq 23 (xo x) (xo y) = brR (!(decide (x = y))) := by
  have h := eqv_23 x y
  rw [eqd_23] at h
  have g := eqg_23
  simp only [binK, xqb, xo] at h ⊢
  rw [h, if_neg (by rw [g]; simp)]
  rfl
def eq23 := aI @eqE_23 (aI @eqN_23 (aI @Bool.not_true @Bool.not_false))
end Go.Proofs.YtefdlpandfhcgaaDoor.AL

