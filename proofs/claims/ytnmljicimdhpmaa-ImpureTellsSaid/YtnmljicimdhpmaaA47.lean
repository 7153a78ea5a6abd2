/- What any node of any stack should say of copies, and which say otherwise, is what the document says: part 47 of 49. -/
import Derived.Test.YtnmljicimdhpmaaA46
set_option linter.all false
/- The table of functions for closed runs; written by tabgen.py. -/
set_option linter.all false
namespace Go.Proofs.Ytnmljicimdhpmaa.AL
open Go Go.Proofs
def tabL : List (Nat × Nat × List ResultVar × AC) := [(13, 37, [.tmp 0], c_law24_awake), (14, 26, [.tmp 4], c_slices_Equal_api_Finding_api_Finding), (15, 56, [.tmp 2], c_impure_Findings), (17, 36, [.tmp 4], c_impure_Want), (55, 25, [.cell 0 29], c_plain_Base), (44, 9, [.tmp 4], c_walk_Reach), (56, 14, [.tmp 4], c_impure_want), (86, 5, [.cell 2 46], c_plain_dir), (64, 42, [.tmp 4], c_walk_walk), (65, 9, [.tmp 4], c_slices_ContainsFunc_api_Entry_api_Entry), (87, 8, [.tmp 3], c_impure_want_1), (92, 27, [.cell 4 46], c_walk_trail_node), (93, 31, [.tmp 4], c_walk_trail_come), (94, 55, [], c_walk_trail_enter), (95, 19, [.tmp 4], c_slices_IndexFunc_api_Entry_api_Entry), (88, 37, [.tmp 4], c_impure_copied)]
def tabF : List (Nat × Nat × List ResultVar × AC) → FuncId → Option (Nat × List ResultVar × AC)
  | [], _ => none
  | p :: l, f => bif Nat.beq p.1 f then some p.2 else tabF l f
theorem tabL_ok : ∀ p ∈ tabL, FnC Try.prog p.1 p.2.1 p.2.2.1 p.2.2.2 := by
  unfold tabL
  simp only [List.forall_mem_cons]
  exact ⟨fc_law24_awake, fc_slices_Equal_api_Finding_api_Finding, fc_impure_Findings, fc_impure_Want, fc_plain_Base, fc_walk_Reach, fc_impure_want, fc_plain_dir, fc_walk_walk, fc_slices_ContainsFunc_api_Entry_api_Entry, fc_impure_want_1, fc_walk_trail_node, fc_walk_trail_come, fc_walk_trail_enter, fc_slices_IndexFunc_api_Entry_api_Entry, fc_impure_copied, fun p h => by cases h⟩
theorem tabF_ok {l : List (Nat × Nat × List ResultVar × AC)} (h : ∀ p ∈ l, FnC Try.prog p.1 p.2.1 p.2.2.1 p.2.2.2) : ∀ f n rs ac, tabF l f = some (n, rs, ac) → FnC Try.prog f n rs ac := by
  induction l with
  | nil => intro f n rs ac e; simp [tabF] at e
  | cons p l ih =>
    intro f n rs ac e
    unfold tabF at e
    cases hb : Nat.beq p.1 f with
    | true =>
      rw [hb] at e
      simp only [cond_true, Option.some.injEq] at e
      have := h p (by simp)
      rw [e, Nat.eq_of_beq_eq_true hb] at this
      exact this
    | false =>
      rw [hb] at e
      exact ih (fun q hq => h q (by simp [hq])) f n rs ac e
noncomputable def runsTrue (k : Nat) (f : FuncId) : Bool := match xF Try.prog (tabF tabL) told (xC Try.prog (tabF tabL) told k) f [] [] 0 with
  | some (.val (.bool true), _, _) => true
  | _ => false
theorem ok_runsTrue {k : Nat} {f : FuncId} (hf : told f = none) (h : runsTrue k f = true) : Ok Try.prog f [] (bool true) := by
  unfold runsTrue at h
  split at h
  · rename_i H nx hr
    refine ok_of_acall ((xF_call (tabF_ok tabL_ok) (xC_sound (tabF_ok tabL_ok) told_ok (by kernel_rfl) k) hf hr).mono ?_)
    rintro r H2 n2 ⟨rfl, rfl, rfl⟩
    exact ⟨_, Sub.refl _, 0, frz_closed rfl _ 0⟩
  · cases h
def m_law24_awake : Option Bool := some true
theorem ok_law24_awake (r : Bool) (h : m_law24_awake = some r) : Ok Try.prog 13 [] (bool r) := by
  injection h with h
  subst h
  exact ok_runsTrue (k := 3000) (by kernel_rfl) (by kernel_rfl)
end Go.Proofs.Ytnmljicimdhpmaa.AL

