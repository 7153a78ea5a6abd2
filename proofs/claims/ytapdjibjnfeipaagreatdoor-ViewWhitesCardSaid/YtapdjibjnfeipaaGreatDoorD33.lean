/- A law of the given program is proved: part 33 of 51. -/
import Derived.Test.YtapdjibjnfeipaaGreatDoorD32
set_option linter.all false
/- '==' of plain structs, printed by eqrules.py. -/
set_option linter.all false
set_option maxRecDepth 100000
namespace Go.Proofs.YtapdjibjnfeipaaGreatDoor.AL
open Go Go.Proofs
theorem eqv_45 (x y : Place) : evalEq Tryz.prog 40 45 (xg x) (xg y) = some ((x.layer == y.layer) && ((x.ino == y.ino) && true)) := by kernel_rfl
theorem eqg_45 : Program.eqGuardType Tryz.prog (Program.depth Tryz.prog) 45 = false := by kernel_rfl
theorem eqd_45 (x y : Place) : ((x.layer == y.layer) && ((x.ino == y.ino) && true)) = decide (x = y) := by
  rw [Bool.eq_iff_iff]
  obtain ⟨z37, z38⟩ := x
  obtain ⟨z39, z40⟩ := y
  simp [x0q, Place.mk.injEq]
theorem eqE_45 (x y : Place) : binK Tryz.prog .eql 45 (xg x) (xg y) = brR (decide (x = y)) := by
  have h := eqv_45 x y
  rw [eqd_45] at h
  have g := eqg_45
  simp only [binK, xvb, xg] at h ⊢
  rw [h, if_neg (by rw [g]; simp)]
  rfl
theorem eqN_45 (x y : Place) : binK Tryz.prog .neq 45 (xg x) (xg y) = brR (!(decide (x = y))) := by
  have h := eqv_45 x y
  rw [eqd_45] at h
  have g := eqg_45
  simp only [binK, xvb, xg] at h ⊢
  rw [h, if_neg (by rw [g]; simp)]
  rfl
def eq45 := aI @eqE_45 (aI @eqN_45 (aI @Bool.not_true @Bool.not_false))
end Go.Proofs.YtapdjibjnfeipaaGreatDoor.AL

