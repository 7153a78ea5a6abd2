/- A law of the given program is proved: part 35 of 50. -/
import Derived.Test.YtefdlpandfhcgaaDoorA34
set_option linter.all false
/- '==' of plain structs, printed by eqrules.py. -/
set_option linter.all false
set_option maxRecDepth 100000
namespace Go.Proofs.YtefdlpandfhcgaaDoor.AL
open Go Go.Proofs
theorem eqv_23 (x y : Origin) : evalEq Tryd.prog 40 23 (xd x) (xd y) = some ((x.layer == y.layer) && ((x.ino == y.ino) && ((x.gen == y.gen) && true))) := by kernel_rfl
theorem eqg_23 : Program.eqGuardType Tryd.prog (Program.depth Tryd.prog) 23 = false := by kernel_rfl
theorem eqd_23 (x y : Origin) : ((x.layer == y.layer) && ((x.ino == y.ino) && ((x.gen == y.gen) && true))) = decide (x = y) := by
  rw [Bool.eq_iff_iff]
  obtain ⟨z7, z8, z9⟩ := x
  obtain ⟨z10, z11, z12⟩ := y
  simp [xvg, Origin.mk.injEq]
theorem eqE_23 (x y : Origin) : binK Tryd.prog .eql 23 (xd x) (xd y) = brR (decide (x = y)) := by
  have h := eqv_23 x y
  rw [eqd_23] at h
  have g := eqg_23
  simp only [binK, xeb, xd] at h ⊢
  rw [h, if_neg (by rw [g]; simp)]
  rfl
theorem eqN_23 (x y : Origin) : binK Tryd.prog .neq 23 (xd x) (xd y) = brR (!(decide (x = y))) := by
  have h := eqv_23 x y
  rw [eqd_23] at h
  have g := eqg_23
  simp only [binK, xeb, xd] at h ⊢
  rw [h, if_neg (by rw [g]; simp)]
  rfl
def eq23 := aI @eqE_23 (aI @eqN_23 (aI @Bool.not_true @Bool.not_false))
theorem eqv_42 (x y : Attr) : evalEq Tryd.prog 40 42 (x5c x) (x5c y) = some ((x.has == y.has) && ((x.opaque0 == y.opaque0) && ((x.redirect == y.redirect) && ((((x.origin.layer == y.origin.layer) && ((x.origin.ino == y.origin.ino) && ((x.origin.gen == y.origin.gen) && true)))) && ((x.shown == y.shown) && true))))) := by kernel_rfl
theorem eqg_42 : Program.eqGuardType Tryd.prog (Program.depth Tryd.prog) 42 = false := by kernel_rfl
theorem eqd_42 (x y : Attr) : ((x.has == y.has) && ((x.opaque0 == y.opaque0) && ((x.redirect == y.redirect) && ((((x.origin.layer == y.origin.layer) && ((x.origin.ino == y.origin.ino) && ((x.origin.gen == y.origin.gen) && true)))) && ((x.shown == y.shown) && true))))) = decide (x = y) := by
  rw [Bool.eq_iff_iff]
  obtain ⟨z43, z44, z45, ⟨z46, z47, z48⟩, z49⟩ := x
  obtain ⟨z50, z51, z52, ⟨z53, z54, z55⟩, z56⟩ := y
  simp [xvg, Attr.mk.injEq, Origin.mk.injEq]
theorem eqE_42 (x y : Attr) : binK Tryd.prog .eql 42 (x5c x) (x5c y) = brR (decide (x = y)) := by
  have h := eqv_42 x y
  rw [eqd_42] at h
  have g := eqg_42
  simp only [binK, xeb, x5c] at h ⊢
  rw [h, if_neg (by rw [g]; simp)]
  rfl
theorem eqN_42 (x y : Attr) : binK Tryd.prog .neq 42 (x5c x) (x5c y) = brR (!(decide (x = y))) := by
  have h := eqv_42 x y
  rw [eqd_42] at h
  have g := eqg_42
  simp only [binK, xeb, x5c] at h ⊢
  rw [h, if_neg (by rw [g]; simp)]
  rfl
def eq42 := aI @eqE_42 (aI @eqN_42 (aI @Bool.not_true @Bool.not_false))
theorem eqv_51 (x y : Entry) : evalEq Tryd.prog 40 51 (xt x) (xt y) = some ((x.slot == y.slot) && ((x.ino == y.ino) && ((x.name == y.name) && true))) := by kernel_rfl
theorem eqg_51 : Program.eqGuardType Tryd.prog (Program.depth Tryd.prog) 51 = false := by kernel_rfl
theorem eqd_51 (x y : Entry) : ((x.slot == y.slot) && ((x.ino == y.ino) && ((x.name == y.name) && true))) = decide (x = y) := by
  rw [Bool.eq_iff_iff]
  obtain ⟨z63, z64, z65⟩ := x
  obtain ⟨z66, z67, z68⟩ := y
  simp [xvg, Entry.mk.injEq]
theorem eqE_51 (x y : Entry) : binK Tryd.prog .eql 51 (xt x) (xt y) = brR (decide (x = y)) := by
  have h := eqv_51 x y
  rw [eqd_51] at h
  have g := eqg_51
  simp only [binK, xeb, xt] at h ⊢
  rw [h, if_neg (by rw [g]; simp)]
  rfl
theorem eqN_51 (x y : Entry) : binK Tryd.prog .neq 51 (xt x) (xt y) = brR (!(decide (x = y))) := by
  have h := eqv_51 x y
  rw [eqd_51] at h
  have g := eqg_51
  simp only [binK, xeb, xt] at h ⊢
  rw [h, if_neg (by rw [g]; simp)]
  rfl
def eq51 := aI @eqE_51 (aI @eqN_51 (aI @Bool.not_true @Bool.not_false))
end Go.Proofs.YtefdlpandfhcgaaDoor.AL

