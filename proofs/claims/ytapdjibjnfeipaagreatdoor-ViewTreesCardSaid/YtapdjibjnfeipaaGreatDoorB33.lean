/- What of the attributes of any stack, and of any node, may not be, is what the document says: part 33 of 50. -/
import Derived.Test.YtapdjibjnfeipaaGreatDoorB32
set_option linter.all false
/- '==' of plain structs, printed by eqrules.py. -/
set_option linter.all false
set_option maxRecDepth 100000
namespace Go.Proofs.YtapdjibjnfeipaaGreatDoor.AL
open Go Go.Proofs
theorem eqv_45 (x y : Place) : evalEq Tryz.prog 40 45 (encPlace x) (encPlace y) = some ((x.layer == y.layer) && ((x.ino == y.ino) && true)) := by kernel_rfl
theorem eqg_45 : Program.eqGuardType Tryz.prog (Program.depth Tryz.prog) 45 = false := by kernel_rfl
theorem eqd_45 (x y : Place) : ((x.layer == y.layer) && ((x.ino == y.ino) && true)) = decide (x = y) := by
  rw [Bool.eq_iff_iff]
  obtain ⟨z37, z38⟩ := x
  obtain ⟨z39, z40⟩ := y
  simp [beq_bytes, Place.mk.injEq]
theorem eqE_45 (x y : Place) : binK Tryz.prog .eql 45 (encPlace x) (encPlace y) = brR (decide (x = y)) := by
  have h := eqv_45 x y
  rw [eqd_45] at h
  have g := eqg_45
  simp only [binK, evalBin, encPlace] at h ⊢
  rw [h, if_neg (by rw [g]; simp)]
  rfl
theorem eqN_45 (x y : Place) : binK Tryz.prog .neq 45 (encPlace x) (encPlace y) = brR (!(decide (x = y))) := by
  have h := eqv_45 x y
  rw [eqd_45] at h
  have g := eqg_45
  simp only [binK, evalBin, encPlace] at h ⊢
  rw [h, if_neg (by rw [g]; simp)]
  rfl
def eq45 := And.intro @eqE_45 (And.intro @eqN_45 (And.intro @Bool.not_true @Bool.not_false))
theorem eqv_79 (x y : Way) : evalEq Tryz.prog 40 79 (encWay x) (encWay y) = some ((x.ino == y.ino) && ((x.up == y.up) && ((x.name == y.name) && true))) := by kernel_rfl
theorem eqg_79 : Program.eqGuardType Tryz.prog (Program.depth Tryz.prog) 79 = false := by kernel_rfl
theorem eqd_79 (x y : Way) : ((x.ino == y.ino) && ((x.up == y.up) && ((x.name == y.name) && true))) = decide (x = y) := by
  rw [Bool.eq_iff_iff]
  obtain ⟨z99, z100, z101⟩ := x
  obtain ⟨z102, z103, z104⟩ := y
  simp [beq_bytes, Way.mk.injEq]
theorem eqE_79 (x y : Way) : binK Tryz.prog .eql 79 (encWay x) (encWay y) = brR (decide (x = y)) := by
  have h := eqv_79 x y
  rw [eqd_79] at h
  have g := eqg_79
  simp only [binK, evalBin, encWay] at h ⊢
  rw [h, if_neg (by rw [g]; simp)]
  rfl
theorem eqN_79 (x y : Way) : binK Tryz.prog .neq 79 (encWay x) (encWay y) = brR (!(decide (x = y))) := by
  have h := eqv_79 x y
  rw [eqd_79] at h
  have g := eqg_79
  simp only [binK, evalBin, encWay] at h ⊢
  rw [h, if_neg (by rw [g]; simp)]
  rfl
def eq79 := And.intro @eqE_79 (And.intro @eqN_79 (And.intro @Bool.not_true @Bool.not_false))
end Go.Proofs.YtapdjibjnfeipaaGreatDoor.AL

