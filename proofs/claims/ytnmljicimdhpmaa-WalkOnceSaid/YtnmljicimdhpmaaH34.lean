/- A law of the given program is proved: part 34 of 49. -/
import Derived.Test.YtnmljicimdhpmaaH33
set_option linter.all false
/- '==' of plain structs, printed by eqrules.py. -/
set_option linter.all false
set_option maxRecDepth 100000
namespace Go.Proofs.Ytnmljicimdhpmaa.AL
open Go Go.Proofs
theorem eqv_52 (x y : Way) : evalEq Try.prog 40 52 (encWay x) (encWay y) = some ((x.ino == y.ino) && ((x.up == y.up) && ((x.name == y.name) && true))) := by kernel_rfl
theorem eqg_52 : Program.eqGuardType Try.prog (Program.depth Try.prog) 52 = false := by kernel_rfl
theorem eqd_52 (x y : Way) : ((x.ino == y.ino) && ((x.up == y.up) && ((x.name == y.name) && true))) = decide (x = y) := by
  rw [Bool.eq_iff_iff]
  obtain ⟨z79, z80, z81⟩ := x
  obtain ⟨z82, z83, z84⟩ := y
  simp [beq_bytes, Way.mk.injEq]
theorem eqE_52 (x y : Way) : binK Try.prog .eql 52 (encWay x) (encWay y) = brR (decide (x = y)) := by
  have h := eqv_52 x y
  rw [eqd_52] at h
  have g := eqg_52
  simp only [binK, evalBin, encWay] at h ⊢
  rw [h, if_neg (by rw [g]; simp)]
  rfl
theorem eqN_52 (x y : Way) : binK Try.prog .neq 52 (encWay x) (encWay y) = brR (!(decide (x = y))) := by
  have h := eqv_52 x y
  rw [eqd_52] at h
  have g := eqg_52
  simp only [binK, evalBin, encWay] at h ⊢
  rw [h, if_neg (by rw [g]; simp)]
  rfl
def eq52 := And.intro @eqE_52 (And.intro @eqN_52 (And.intro @Bool.not_true @Bool.not_false))
end Go.Proofs.Ytnmljicimdhpmaa.AL

