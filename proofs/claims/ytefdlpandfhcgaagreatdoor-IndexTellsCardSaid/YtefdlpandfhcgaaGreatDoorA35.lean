/- A law of the given program is proved: part 35 of 50. -/
import Derived.Test.YtefdlpandfhcgaaGreatDoorA34
set_option linter.all false
/- '==' of plain structs, printed by eqrules.py. -/
set_option linter.all false
set_option maxRecDepth 100000
namespace Go.Proofs.YtefdlpandfhcgaaGreatDoor.AL
open Go Go.Proofs
theorem eqv_37 (x y : Finding) : evalEq Tryz.prog 40 37 (xw x) (xw y) = some ((x.clause == y.clause) && ((x.layer == y.layer) && ((x.ino == y.ino) && ((x.slot == y.slot) && true)))) := by kernel_rfl
theorem eqg_37 : Program.eqGuardType Tryz.prog (Program.depth Tryz.prog) 37 = false := by kernel_rfl
theorem eqd_37 (x y : Finding) : ((x.clause == y.clause) && ((x.layer == y.layer) && ((x.ino == y.ino) && ((x.slot == y.slot) && true)))) = decide (x = y) := by
  rw [Bool.eq_iff_iff]
  obtain ⟨z37, z38, z39, z40⟩ := x
  obtain ⟨z41, z42, z43, z44⟩ := y
  simp [xfl, Finding.mk.injEq]
theorem eqE_37 (x y : Finding) : binK Tryz.prog .eql 37 (xw x) (xw y) = brR (decide (x = y)) := by
  have h := eqv_37 x y
  rw [eqd_37] at h
  have g := eqg_37
  simp only [binK, x0b, xw] at h ⊢
  rw [h, if_neg (by rw [g]; simp)]
  rfl
theorem eqN_37 (x y : Finding) : binK Tryz.prog .neq 37 (xw x) (xw y) = brR (!(decide (x = y))) := by
  have h := eqv_37 x y
  rw [eqd_37] at h
  have g := eqg_37
  simp only [binK, x0b, xw] at h ⊢
  rw [h, if_neg (by rw [g]; simp)]
  rfl
def eq37 := aI @eqE_37 (aI @eqN_37 (aI @Bool.not_true @Bool.not_false))
theorem eqv_48 (x y : Origin) : evalEq Tryz.prog 40 48 (xm x) (xm y) = some ((x.layer == y.layer) && ((x.ino == y.ino) && ((x.gen == y.gen) && true))) := by kernel_rfl
theorem eqg_48 : Program.eqGuardType Tryz.prog (Program.depth Tryz.prog) 48 = false := by kernel_rfl
theorem eqd_48 (x y : Origin) : ((x.layer == y.layer) && ((x.ino == y.ino) && ((x.gen == y.gen) && true))) = decide (x = y) := by
  rw [Bool.eq_iff_iff]
  obtain ⟨z51, z52, z53⟩ := x
  obtain ⟨z54, z55, z56⟩ := y
  simp [xfl, Origin.mk.injEq]
theorem eqE_48 (x y : Origin) : binK Tryz.prog .eql 48 (xm x) (xm y) = brR (decide (x = y)) := by
  have h := eqv_48 x y
  rw [eqd_48] at h
  have g := eqg_48
  simp only [binK, x0b, xm] at h ⊢
  rw [h, if_neg (by rw [g]; simp)]
  rfl
theorem eqN_48 (x y : Origin) : binK Tryz.prog .neq 48 (xm x) (xm y) = brR (!(decide (x = y))) := by
  have h := eqv_48 x y
  rw [eqd_48] at h
  have g := eqg_48
  simp only [binK, x0b, xm] at h ⊢
  rw [h, if_neg (by rw [g]; simp)]
  rfl
def eq48 := aI @eqE_48 (aI @eqN_48 (aI @Bool.not_true @Bool.not_false))
end Go.Proofs.YtefdlpandfhcgaaGreatDoor.AL

