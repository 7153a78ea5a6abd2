/- What of the attributes of any stack, and of any node, may not be, is what the document says: part 33 of 53. -/
import Derived.Test.YtnmljicimdhpmaaB32
set_option linter.all false
/- '==' of plain structs, printed by eqrules.py. -/
set_option linter.all false
set_option maxRecDepth 100000
namespace Go.Proofs.Ytnmljicimdhpmaa.AL
open Go Go.Proofs
theorem eqv_35 (x y : Finding) : evalEq Try.prog 40 35 (encFinding x) (encFinding y) = some ((x.clause == y.clause) && ((x.layer == y.layer) && ((x.ino == y.ino) && ((x.slot == y.slot) && true)))) := by kernel_rfl
theorem eqg_35 : Program.eqGuardType Try.prog (Program.depth Try.prog) 35 = false := by kernel_rfl
theorem eqd_35 (x y : Finding) : ((x.clause == y.clause) && ((x.layer == y.layer) && ((x.ino == y.ino) && ((x.slot == y.slot) && true)))) = decide (x = y) := by
  rw [Bool.eq_iff_iff]
  obtain ⟨z25, z26, z27, z28⟩ := x
  obtain ⟨z29, z30, z31, z32⟩ := y
  simp [beq_bytes, Finding.mk.injEq]
theorem eqE_35 (x y : Finding) : binK Try.prog .eql 35 (encFinding x) (encFinding y) = brR (decide (x = y)) := by
  have h := eqv_35 x y
  rw [eqd_35] at h
  have g := eqg_35
  simp only [binK, evalBin, encFinding] at h ⊢
  rw [h, if_neg (by rw [g]; simp)]
  rfl
theorem eqN_35 (x y : Finding) : binK Try.prog .neq 35 (encFinding x) (encFinding y) = brR (!(decide (x = y))) := by
  have h := eqv_35 x y
  rw [eqd_35] at h
  have g := eqg_35
  simp only [binK, evalBin, encFinding] at h ⊢
  rw [h, if_neg (by rw [g]; simp)]
  rfl
def eq35 := And.intro @eqE_35 (And.intro @eqN_35 (And.intro @Bool.not_true @Bool.not_false))
end Go.Proofs.Ytnmljicimdhpmaa.AL

