/- A law of the given program is proved: part 33 of 50. -/
import Derived.Test.YtapdjibjnfeipaaGreatDoorC32
set_option linter.all false
/- '==' of plain structs, printed by eqrules.py. -/
set_option linter.all false
set_option maxRecDepth 100000
namespace Go.Proofs.YtapdjibjnfeipaaGreatDoor.AL
open Go Go.Proofs
theorem eqv_38 (x y : Finding) : evalEq Tryz.prog 40 38 (encFinding x) (encFinding y) = some ((x.clause == y.clause) && ((x.layer == y.layer) && ((x.ino == y.ino) && ((x.slot == y.slot) && true)))) := by kernel_rfl
theorem eqg_38 : Program.eqGuardType Tryz.prog (Program.depth Tryz.prog) 38 = false := by kernel_rfl
theorem eqd_38 (x y : Finding) : ((x.clause == y.clause) && ((x.layer == y.layer) && ((x.ino == y.ino) && ((x.slot == y.slot) && true)))) = decide (x = y) := by
  rw [Bool.eq_iff_iff]
  obtain ⟨z25, z26, z27, z28⟩ := x
  obtain ⟨z29, z30, z31, z32⟩ := y
  simp [beq_bytes, Finding.mk.injEq]
theorem eqE_38 (x y : Finding) : binK Tryz.prog .eql 38 (encFinding x) (encFinding y) = brR (decide (x = y)) := by
  have h := eqv_38 x y
  rw [eqd_38] at h
  have g := eqg_38
  simp only [binK, evalBin, encFinding] at h ⊢
  rw [h, if_neg (by rw [g]; simp)]
  rfl
theorem eqN_38 (x y : Finding) : binK Tryz.prog .neq 38 (encFinding x) (encFinding y) = brR (!(decide (x = y))) := by
  have h := eqv_38 x y
  rw [eqd_38] at h
  have g := eqg_38
  simp only [binK, evalBin, encFinding] at h ⊢
  rw [h, if_neg (by rw [g]; simp)]
  rfl
def eq38 := And.intro @eqE_38 (And.intro @eqN_38 (And.intro @Bool.not_true @Bool.not_false))
end Go.Proofs.YtapdjibjnfeipaaGreatDoor.AL

