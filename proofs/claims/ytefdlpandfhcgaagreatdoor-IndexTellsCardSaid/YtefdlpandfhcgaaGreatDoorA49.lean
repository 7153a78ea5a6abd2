/- A law of the given program is proved: part 49 of 50. -/
import Derived.Test.YtefdlpandfhcgaaGreatDoorA48
set_option linter.all false
/- The table of functions for closed runs; written by tabgen.py. -/
set_option linter.all false
namespace Go.Proofs.YtefdlpandfhcgaaGreatDoor.AL
open Go Go.Proofs
def x9h : List (Nat × Nat × List ResultVar × AC) := [(5, 33, [.tmp 0], x8m), (6, 26, [.tmp 4], xic), (7, 43, [.tmp 2], x1h), (9, 9, [.tmp 4], xul), (11, 28, [.tmp 4], xhi), (16, 28, [.cell 2 29], xmp), (17, 9, [.cell 2 55], xfp), (18, 14, [.tmp 4], xqf), (19, 75, [.tmp 4], xsh), (30, 25, [.cell 0 29], xhp), (31, 9, [.tmp 4], xpk), (32, 25, [.cell 4 52], xbh), (34, 58, [.cell 4 52, .tmp 5], xnj), (35, 8, [.tmp 4], xpj), (44, 5, [.cell 2 52], xmq), (45, 42, [.tmp 4], xrl), (55, 27, [.cell 4 52], xdd), (56, 31, [.tmp 4], xgf), (57, 55, [], x2g)]
def x1f : List (Nat × Nat × List ResultVar × AC) → FuncId → Option (Nat × List ResultVar × AC)
  | [], _ => none
  | p :: l, f => bif Nat.beq p.1 f then some p.2 else x1f l f
theorem xui : ∀ p ∈ x9h, FnC Tryz.prog p.1 p.2.1 p.2.2.1 p.2.2.2 := by
  unfold x9h
  simp only [List.forall_mem_cons]
  exact ⟨xct, xkd, xrj, xeo, xrk, x7u, xhv, xuh, xjj, xnv, xln, x0i, xvl, x3l, xsw, x1n, x2d, xxg, xzi, fun p h => by cases h⟩
theorem xpi {l : List (Nat × Nat × List ResultVar × AC)} (h : ∀ p ∈ l, FnC Tryz.prog p.1 p.2.1 p.2.2.1 p.2.2.2) : ∀ f n rs ac, x1f l f = some (n, rs, ac) → FnC Tryz.prog f n rs ac := by
  induction l with
  | nil => intro f n rs ac e; simp [x1f] at e
  | cons p l ih =>
    intro f n rs ac e
    unfold x1f at e
    cases hb : Nat.beq p.1 f with
    | true =>
      rw [hb] at e
      simp only [cond_true, Option.some.injEq] at e
      have := h p (by simp)
      rw [e, Nat.eq_of_beq_eq_true hb] at this
      exact this
    | false =>
      rw [hb] at e
      exact ih (fun q hq => h q (by simp [hq])) f n rs ac e
noncomputable def xgi (f : FuncId) : Option (List AV → Option AV) := bif [7, 9, 11].any (Nat.beq f) then some (fun ag => xFN Tryz.prog (x1f x9h) told (xC Tryz.prog (x1f x9h) told 3000) f ag) else told f
theorem x3u : ∀ f g, xgi f = some g → ∀ ag r, g ag = some r → OkN Tryz.prog f ag r := by
  intro f g h ag r hr
  unfold xgi at h
  cases hb : [7, 9, 11].any (Nat.beq f) with
  | true =>
    rw [hb] at h
    simp only [cond_true, Option.some.injEq] at h
    subst h
    exact xxu (xpi xui) xtt (x7v (xpi xui) xtt (by kernel_rfl) 3000) f ag r hr
  | false =>
    rw [hb] at h
    exact xtt f g h ag r hr
noncomputable def xgn (k : Nat) (f : FuncId) : Bool := match xF Tryz.prog (x1f x9h) xgi (xC Tryz.prog (x1f x9h) xgi k) f [] [] 0 with
  | some (.val (.bool true), _, _) => true
  | _ => false
theorem xmr {k : Nat} {f : FuncId} (hf : xgi f = none) (h : xgn k f = true) : Ok Tryz.prog f [] (bool true) := by
  unfold xgn at h
  split at h
  · rename_i H nx hr
    refine xxq ((xup (xpi xui) (x7v (xpi xui) x3u (by kernel_rfl) k) hf hr).mono ?_)
    rintro r H2 n2 ⟨rfl, rfl, rfl⟩
    exact ⟨_, Sub.refl _, 0, x8c rfl _ 0⟩
  · cases h
def xrc : Option Bool := some true
theorem xne (r : Bool) (h : xrc = some r) : Ok Tryz.prog 5 [] (bool r) := by
  injection h with h
  subst h
  exact xmr (k := 3000) (by kernel_rfl) (by kernel_rfl)
end Go.Proofs.YtefdlpandfhcgaaGreatDoor.AL

