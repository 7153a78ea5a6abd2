/- What of the attributes of any stack, and of any node, may not be, is what the document says: part 50 of 53. -/
import Derived.Test.YtnmljicimdhpmaaB49
set_option linter.all false
/- The table of functions for closed runs; written by tabgen.py. -/
set_option linter.all false
namespace Go.Proofs.Ytnmljicimdhpmaa.AL
open Go Go.Proofs
def tabL_Aw22 : List (Nat × Nat × List ResultVar × AC) := [(25, 46, [.tmp 0], c_law22_awake), (14, 26, [.tmp 4], c_slices_Equal_api_Finding_api_Finding), (26, 48, [.tmp 2], c_origin_Findings), (28, 16, [.tmp 2], c_origin_Odd), (32, 18, [.tmp 4], c_origin_Lacks), (67, 19, [.cell 2 29], c_law22_copied), (44, 9, [.tmp 4], c_walk_Reach), (68, 20, [.tmp 6], c_origin_wrong), (69, 17, [.tmp 4], c_origin_has), (70, 20, [.tmp 4], c_origin_kind), (55, 25, [.cell 0 29], c_plain_Base), (64, 42, [.tmp 4], c_walk_walk), (30, 27, [.tmp 4], c_origin_Stale), (97, 58, [.cell 4 46, .tmp 5], c_handle_Find), (86, 5, [.cell 2 46], c_plain_dir), (92, 27, [.cell 4 46], c_walk_trail_node), (93, 31, [.tmp 4], c_walk_trail_come), (94, 55, [], c_walk_trail_enter)]
def tabF_Aw22 : List (Nat × Nat × List ResultVar × AC) → FuncId → Option (Nat × List ResultVar × AC)
  | [], _ => none
  | p :: l, f => bif Nat.beq p.1 f then some p.2 else tabF_Aw22 l f
theorem tabL_ok_Aw22 : ∀ p ∈ tabL_Aw22, FnC Try.prog p.1 p.2.1 p.2.2.1 p.2.2.2 := by
  unfold tabL_Aw22
  simp only [List.forall_mem_cons]
  exact ⟨fc_law22_awake, fc_slices_Equal_api_Finding_api_Finding, fc_origin_Findings, fc_origin_Odd, fc_origin_Lacks, fc_law22_copied, fc_walk_Reach, fc_origin_wrong, fc_origin_has, fc_origin_kind, fc_plain_Base, fc_walk_walk, fc_origin_Stale, fc_handle_Find, fc_plain_dir, fc_walk_trail_node, fc_walk_trail_come, fc_walk_trail_enter, fun p h => by cases h⟩
theorem tabF_ok_Aw22 {l : List (Nat × Nat × List ResultVar × AC)} (h : ∀ p ∈ l, FnC Try.prog p.1 p.2.1 p.2.2.1 p.2.2.2) : ∀ f n rs ac, tabF_Aw22 l f = some (n, rs, ac) → FnC Try.prog f n rs ac := by
  induction l with
  | nil => intro f n rs ac e; simp [tabF_Aw22] at e
  | cons p l ih =>
    intro f n rs ac e
    unfold tabF_Aw22 at e
    cases hb : Nat.beq p.1 f with
    | true =>
      rw [hb] at e
      simp only [cond_true, Option.some.injEq] at e
      have := h p (by simp)
      rw [e, Nat.eq_of_beq_eq_true hb] at this
      exact this
    | false =>
      rw [hb] at e
      exact ih (fun q hq => h q (by simp [hq])) f n rs ac e
noncomputable def runsTrue_Aw22 (k : Nat) (f : FuncId) : Bool := match xF Try.prog (tabF_Aw22 tabL_Aw22) told (xC Try.prog (tabF_Aw22 tabL_Aw22) told k) f [] [] 0 with
  | some (.val (.bool true), _, _) => true
  | _ => false
theorem ok_runsTrue_Aw22 {k : Nat} {f : FuncId} (hf : told f = none) (h : runsTrue_Aw22 k f = true) : Ok Try.prog f [] (bool true) := by
  unfold runsTrue_Aw22 at h
  split at h
  · rename_i H nx hr
    refine ok_of_acall ((xF_call (tabF_ok_Aw22 tabL_ok_Aw22) (xC_sound (tabF_ok_Aw22 tabL_ok_Aw22) told_ok (by kernel_rfl) k) hf hr).mono ?_)
    rintro r H2 n2 ⟨rfl, rfl, rfl⟩
    exact ⟨_, Sub.refl _, 0, frz_closed rfl _ 0⟩
  · cases h
def m_law22_awake : Option Bool := some true
theorem ok_law22_awake (r : Bool) (h : m_law22_awake = some r) : Ok Try.prog 25 [] (bool r) := by
  injection h with h
  subst h
  exact ok_runsTrue_Aw22 (k := 3000) (by kernel_rfl) (by kernel_rfl)
end Go.Proofs.Ytnmljicimdhpmaa.AL

