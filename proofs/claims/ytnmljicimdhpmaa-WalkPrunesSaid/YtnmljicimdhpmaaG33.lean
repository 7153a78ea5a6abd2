/- A law of the given program is proved: part 33 of 55. -/
import Derived.Test.YtnmljicimdhpmaaG32
set_option linter.all false
/- '==' of plain structs, printed by eqrules.py. -/
set_option linter.all false
set_option maxRecDepth 100000
namespace Go.Proofs.Ytnmljicimdhpmaa.AL
open Go Go.Proofs
theorem eqv_44 (x y : Attr) : evalEq Try.prog 40 44 (encAttr x) (encAttr y) = some ((x.has == y.has) && ((x.opaque0 == y.opaque0) && ((x.redirect == y.redirect) && ((((x.origin.layer == y.origin.layer) && ((x.origin.ino == y.origin.ino) && ((x.origin.gen == y.origin.gen) && true)))) && ((x.shown == y.shown) && true))))) := by kernel_rfl
theorem eqg_44 : Program.eqGuardType Try.prog (Program.depth Try.prog) 44 = false := by kernel_rfl
theorem eqd_44 (x y : Attr) : ((x.has == y.has) && ((x.opaque0 == y.opaque0) && ((x.redirect == y.redirect) && ((((x.origin.layer == y.origin.layer) && ((x.origin.ino == y.origin.ino) && ((x.origin.gen == y.origin.gen) && true)))) && ((x.shown == y.shown) && true))))) = decide (x = y) := by
  rw [Bool.eq_iff_iff]
  obtain ⟨z59, z60, z61, ⟨z62, z63, z64⟩, z65⟩ := x
  obtain ⟨z66, z67, z68, ⟨z69, z70, z71⟩, z72⟩ := y
  simp [beq_bytes, Attr.mk.injEq, Origin.mk.injEq]
theorem eqE_44 (x y : Attr) : binK Try.prog .eql 44 (encAttr x) (encAttr y) = brR (decide (x = y)) := by
  have h := eqv_44 x y
  rw [eqd_44] at h
  have g := eqg_44
  simp only [binK, evalBin, encAttr] at h ⊢
  rw [h, if_neg (by rw [g]; simp)]
  rfl
theorem eqN_44 (x y : Attr) : binK Try.prog .neq 44 (encAttr x) (encAttr y) = brR (!(decide (x = y))) := by
  have h := eqv_44 x y
  rw [eqd_44] at h
  have g := eqg_44
  simp only [binK, evalBin, encAttr] at h ⊢
  rw [h, if_neg (by rw [g]; simp)]
  rfl
def eq44 := And.intro @eqE_44 (And.intro @eqN_44 (And.intro @Bool.not_true @Bool.not_false))
theorem eqv_54 (x y : Entry) : evalEq Try.prog 40 54 (encEntry x) (encEntry y) = some ((x.slot == y.slot) && ((x.ino == y.ino) && ((x.name == y.name) && true))) := by kernel_rfl
theorem eqg_54 : Program.eqGuardType Try.prog (Program.depth Try.prog) 54 = false := by kernel_rfl
theorem eqd_54 (x y : Entry) : ((x.slot == y.slot) && ((x.ino == y.ino) && ((x.name == y.name) && true))) = decide (x = y) := by
  rw [Bool.eq_iff_iff]
  obtain ⟨z91, z92, z93⟩ := x
  obtain ⟨z94, z95, z96⟩ := y
  simp [beq_bytes, Entry.mk.injEq]
theorem eqE_54 (x y : Entry) : binK Try.prog .eql 54 (encEntry x) (encEntry y) = brR (decide (x = y)) := by
  have h := eqv_54 x y
  rw [eqd_54] at h
  have g := eqg_54
  simp only [binK, evalBin, encEntry] at h ⊢
  rw [h, if_neg (by rw [g]; simp)]
  rfl
theorem eqN_54 (x y : Entry) : binK Try.prog .neq 54 (encEntry x) (encEntry y) = brR (!(decide (x = y))) := by
  have h := eqv_54 x y
  rw [eqd_54] at h
  have g := eqg_54
  simp only [binK, evalBin, encEntry] at h ⊢
  rw [h, if_neg (by rw [g]; simp)]
  rfl
def eq54 := And.intro @eqE_54 (And.intro @eqN_54 (And.intro @Bool.not_true @Bool.not_false))
theorem eqv_68 (x y : Ar2_Int) : evalEq Try.prog 40 68 (encAr2_Int x) (encAr2_Int y) = some ((x.c0 == y.c0) && ((x.c1 == y.c1) && true)) := by kernel_rfl
theorem eqg_68 : Program.eqGuardType Try.prog (Program.depth Try.prog) 68 = false := by kernel_rfl
theorem eqd_68 (x y : Ar2_Int) : ((x.c0 == y.c0) && ((x.c1 == y.c1) && true)) = decide (x = y) := by
  rw [Bool.eq_iff_iff]
  obtain ⟨z97, z98⟩ := x
  obtain ⟨z99, z100⟩ := y
  simp [beq_bytes, Ar2_Int.mk.injEq]
theorem eqE_68 (x y : Ar2_Int) : binK Try.prog .eql 68 (encAr2_Int x) (encAr2_Int y) = brR (decide (x = y)) := by
  have h := eqv_68 x y
  rw [eqd_68] at h
  have g := eqg_68
  simp only [binK, evalBin, encAr2_Int] at h ⊢
  rw [h, if_neg (by rw [g]; simp)]
  rfl
theorem eqN_68 (x y : Ar2_Int) : binK Try.prog .neq 68 (encAr2_Int x) (encAr2_Int y) = brR (!(decide (x = y))) := by
  have h := eqv_68 x y
  rw [eqd_68] at h
  have g := eqg_68
  simp only [binK, evalBin, encAr2_Int] at h ⊢
  rw [h, if_neg (by rw [g]; simp)]
  rfl
def eq68 := And.intro @eqE_68 (And.intro @eqN_68 (And.intro @Bool.not_true @Bool.not_false))
end Go.Proofs.Ytnmljicimdhpmaa.AL

