/- A law of the given program is proved: part 34 of 40. -/
import Derived.Test.YtjmnoaoeediodaaDoorA33
set_option linter.all false
/- '==' of plain structs, printed by eqrules.py. -/
set_option linter.all false
set_option maxRecDepth 100000
namespace Go.Proofs.YtjmnoaoeediodaaDoor.AL
open Go Go.Proofs
theorem eqv_23 (x y : Finding) : evalEq Tryd.prog 40 23 (xb x) (xb y) = some ((x.clause == y.clause) && ((x.layer == y.layer) && ((x.ino == y.ino) && ((x.slot == y.slot) && true)))) := by kernel_rfl
theorem eqg_23 : Program.eqGuardType Tryd.prog (Program.depth Tryd.prog) 23 = false := by kernel_rfl
theorem eqd_23 (x y : Finding) : ((x.clause == y.clause) && ((x.layer == y.layer) && ((x.ino == y.ino) && ((x.slot == y.slot) && true)))) = decide (x = y) := by
  rw [Bool.eq_iff_iff]
  obtain ⟨z9, z10, z11, z12⟩ := x
  obtain ⟨z13, z14, z15, z16⟩ := y
  simp [xpi, Finding.mk.injEq]
theorem eqE_23 (x y : Finding) : binK Tryd.prog .eql 23 (xb x) (xb y) = brR (decide (x = y)) := by
  have h := eqv_23 x y
  rw [eqd_23] at h
  have g := eqg_23
  simp only [binK, xt, xb] at h ⊢
  rw [h, if_neg (by rw [g]; simp)]
  rfl
theorem eqN_23 (x y : Finding) : binK Tryd.prog .neq 23 (xb x) (xb y) = brR (!(decide (x = y))) := by
  have h := eqv_23 x y
  rw [eqd_23] at h
  have g := eqg_23
  simp only [binK, xt, xb] at h ⊢
  rw [h, if_neg (by rw [g]; simp)]
  rfl
def eq23 := aI @eqE_23 (aI @eqN_23 (aI @Bool.not_true @Bool.not_false))
end Go.Proofs.YtjmnoaoeediodaaDoor.AL

