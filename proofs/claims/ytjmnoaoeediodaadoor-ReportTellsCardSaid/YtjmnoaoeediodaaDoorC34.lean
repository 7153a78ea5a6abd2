/- A law of the given program is proved: part 34 of 47. -/
import Derived.Test.YtjmnoaoeediodaaDoorC33
set_option linter.all false
/- '==' of plain structs, printed by eqrules.py. -/
set_option linter.all false
set_option maxRecDepth 100000
namespace Go.Proofs.YtjmnoaoeediodaaDoor.AL
open Go Go.Proofs
theorem eqv_23 (x y : Finding) : evalEq Tryd.prog 40 23 (xd x) (xd y) = some ((x.clause == y.clause) && ((x.layer == y.layer) && ((x.ino == y.ino) && ((x.slot == y.slot) && true)))) := by kernel_rfl
theorem eqg_23 : Program.eqGuardType Tryd.prog (Program.depth Tryd.prog) 23 = false := by kernel_rfl
theorem eqd_23 (x y : Finding) : ((x.clause == y.clause) && ((x.layer == y.layer) && ((x.ino == y.ino) && ((x.slot == y.slot) && true)))) = decide (x = y) := by
  rw [Bool.eq_iff_iff]
  obtain ⟨z9, z10, z11, z12⟩ := x
  obtain ⟨z13, z14, z15, z16⟩ := y
  simp [xdj, Finding.mk.injEq]
theorem eqE_23 (x y : Finding) : binK Tryd.prog .eql 23 (xd x) (xd y) = brR (decide (x = y)) := by
  have h := eqv_23 x y
  rw [eqd_23] at h
  have g := eqg_23
  simp only [binK, xkb, xd] at h ⊢
  rw [h, if_neg (by rw [g]; simp)]
  rfl
theorem eqN_23 (x y : Finding) : binK Tryd.prog .neq 23 (xd x) (xd y) = brR (!(decide (x = y))) := by
  have h := eqv_23 x y
  rw [eqd_23] at h
  have g := eqg_23
  simp only [binK, xkb, xd] at h ⊢
  rw [h, if_neg (by rw [g]; simp)]
  rfl
def eq23 := aI @eqE_23 (aI @eqN_23 (aI @Bool.not_true @Bool.not_false))
theorem eqv_36 (x y : Answer) : evalEq Tryd.prog 40 36 (xc x) (xc y) = some ((x.clause == y.clause) && ((x.ino == y.ino) && ((x.slot == y.slot) && ((x.yes == y.yes) && true)))) := by kernel_rfl
theorem eqg_36 : Program.eqGuardType Tryd.prog (Program.depth Tryd.prog) 36 = false := by kernel_rfl
theorem eqd_36 (x y : Answer) : ((x.clause == y.clause) && ((x.ino == y.ino) && ((x.slot == y.slot) && ((x.yes == y.yes) && true)))) = decide (x = y) := by
  rw [Bool.eq_iff_iff]
  obtain ⟨z25, z26, z27, z28⟩ := x
  obtain ⟨z29, z30, z31, z32⟩ := y
  simp [xdj, Answer.mk.injEq]
theorem eqE_36 (x y : Answer) : binK Tryd.prog .eql 36 (xc x) (xc y) = brR (decide (x = y)) := by
  have h := eqv_36 x y
  rw [eqd_36] at h
  have g := eqg_36
  simp only [binK, xkb, xc] at h ⊢
  rw [h, if_neg (by rw [g]; simp)]
  rfl
theorem eqN_36 (x y : Answer) : binK Tryd.prog .neq 36 (xc x) (xc y) = brR (!(decide (x = y))) := by
  have h := eqv_36 x y
  rw [eqd_36] at h
  have g := eqg_36
  simp only [binK, xkb, xc] at h ⊢
  rw [h, if_neg (by rw [g]; simp)]
  rfl
def eq36 := aI @eqE_36 (aI @eqN_36 (aI @Bool.not_true @Bool.not_false))
end Go.Proofs.YtjmnoaoeediodaaDoor.AL

