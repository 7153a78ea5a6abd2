/- What any node of any stack should say of copies, and which say otherwise, is what the document says: part 33 of 51. -/
import Derived.Test.YtfefidkblgendaaGreatDoorA32
set_option linter.all false
/- '==' of plain structs, printed by eqrules.py. -/
set_option linter.all false
set_option maxRecDepth 100000
namespace Go.Proofs.YtfefidkblgendaaGreatDoor.AL
open Go Go.Proofs
theorem eqv_44 (x y : Place) : evalEq Tryz.prog 40 44 (xc x) (xc y) = some ((x.layer == y.layer) && ((x.ino == y.ino) && true)) := by kernel_rfl
theorem eqg_44 : Program.eqGuardType Tryz.prog (Program.depth Tryz.prog) 44 = false := by kernel_rfl
theorem eqd_44 (x y : Place) : ((x.layer == y.layer) && ((x.ino == y.ino) && true)) = decide (x = y) := by
  rw [Bool.eq_iff_iff]
  obtain ⟨z21, z22⟩ := x
  obtain ⟨z23, z24⟩ := y
  simp [x1t, Place.mk.injEq]
theorem eqE_44 (x y : Place) : binK Tryz.prog .eql 44 (xc x) (xc y) = brR (decide (x = y)) := by
  have h := eqv_44 x y
  rw [eqd_44] at h
  have g := eqg_44
  simp only [binK, x7b, xc] at h ⊢
  rw [h, if_neg (by rw [g]; simp)]
  rfl
theorem eqN_44 (x y : Place) : binK Tryz.prog .neq 44 (xc x) (xc y) = brR (!(decide (x = y))) := by
  have h := eqv_44 x y
  rw [eqd_44] at h
  have g := eqg_44
  simp only [binK, x7b, xc] at h ⊢
  rw [h, if_neg (by rw [g]; simp)]
  rfl
def eq44 := aI @eqE_44 (aI @eqN_44 (aI @Bool.not_true @Bool.not_false))
end Go.Proofs.YtfefidkblgendaaGreatDoor.AL

