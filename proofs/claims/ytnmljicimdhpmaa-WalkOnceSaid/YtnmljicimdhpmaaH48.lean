/- A law of the given program is proved: part 48 of 49. -/
import Derived.Test.YtnmljicimdhpmaaH47
set_option linter.all false
/- The table of functions for closed runs; written by tabgen.py. -/
set_option linter.all false
namespace Go.Proofs.Ytnmljicimdhpmaa.AL
open Go Go.Proofs
def tabL_Aw13 : List (Nat × Nat × List ResultVar × AC) := [(34, 66, [.tmp 0], c_law13_awake), (22, 11, [.tmp 4], c_walk_Dirs), (36, 38, [.tmp 4], c_walk_Path), (40, 26, [.tmp 4], c_slices_Equal_2_int_2_int), (41, 11, [.tmp 4], c_walk_Twice), (43, 26, [.tmp 4], c_slices_Equal_bool_bool), (44, 9, [.tmp 4], c_walk_Reach), (46, 50, [.cell 4 26], c_walk_Prune), (72, 6, [.tmp 2], c_path_Join), (64, 42, [.tmp 4], c_walk_walk), (73, 28, [], c_slices_Reverse_string_string), (76, 8, [.tmp 2], c_slices_Clone_byte_byte), (77, 42, [.tmp 4], c_slices_DeleteFunc_api_Entry_api_Entry), (78, 8, [.tmp 2], c_slices_Clone_api_Entry_api_Entry), (79, 15, [.tmp 4], c_walk_Prune_1), (92, 27, [.cell 4 46], c_walk_trail_node), (93, 31, [.tmp 4], c_walk_trail_come), (94, 55, [], c_walk_trail_enter), (95, 19, [.tmp 4], c_slices_IndexFunc_api_Entry_api_Entry), (80, 9, [.tmp 4], c_slices_Contains_2_int_2_int), (102, 19, [.tmp 4], c_slices_Index_2_int_2_int)]
def tabF_Aw13 : List (Nat × Nat × List ResultVar × AC) → FuncId → Option (Nat × List ResultVar × AC)
  | [], _ => none
  | p :: l, f => bif Nat.beq p.1 f then some p.2 else tabF_Aw13 l f
theorem tabL_ok_Aw13 : ∀ p ∈ tabL_Aw13, FnC Try.prog p.1 p.2.1 p.2.2.1 p.2.2.2 := by
  unfold tabL_Aw13
  simp only [List.forall_mem_cons]
  exact ⟨fc_law13_awake, fc_walk_Dirs, fc_walk_Path, fc_slices_Equal_2_int_2_int, fc_walk_Twice, fc_slices_Equal_bool_bool, fc_walk_Reach, fc_walk_Prune, fc_path_Join, fc_walk_walk, fc_slices_Reverse_string_string, fc_slices_Clone_byte_byte, fc_slices_DeleteFunc_api_Entry_api_Entry, fc_slices_Clone_api_Entry_api_Entry, fc_walk_Prune_1, fc_walk_trail_node, fc_walk_trail_come, fc_walk_trail_enter, fc_slices_IndexFunc_api_Entry_api_Entry, fc_slices_Contains_2_int_2_int, fc_slices_Index_2_int_2_int, fun p h => by cases h⟩
theorem tabF_ok_Aw13 {l : List (Nat × Nat × List ResultVar × AC)} (h : ∀ p ∈ l, FnC Try.prog p.1 p.2.1 p.2.2.1 p.2.2.2) : ∀ f n rs ac, tabF_Aw13 l f = some (n, rs, ac) → FnC Try.prog f n rs ac := by
  induction l with
  | nil => intro f n rs ac e; simp [tabF_Aw13] at e
  | cons p l ih =>
    intro f n rs ac e
    unfold tabF_Aw13 at e
    cases hb : Nat.beq p.1 f with
    | true =>
      rw [hb] at e
      simp only [cond_true, Option.some.injEq] at e
      have := h p (by simp)
      rw [e, Nat.eq_of_beq_eq_true hb] at this
      exact this
    | false =>
      rw [hb] at e
      exact ih (fun q hq => h q (by simp [hq])) f n rs ac e
noncomputable def runsTrue_Aw13 (k : Nat) (f : FuncId) : Bool := match xF Try.prog (tabF_Aw13 tabL_Aw13) told (xC Try.prog (tabF_Aw13 tabL_Aw13) told k) f [] [] 0 with
  | some (.val (.bool true), _, _) => true
  | _ => false
theorem ok_runsTrue_Aw13 {k : Nat} {f : FuncId} (hf : told f = none) (h : runsTrue_Aw13 k f = true) : Ok Try.prog f [] (bool true) := by
  unfold runsTrue_Aw13 at h
  split at h
  · rename_i H nx hr
    refine ok_of_acall ((xF_call (tabF_ok_Aw13 tabL_ok_Aw13) (xC_sound (tabF_ok_Aw13 tabL_ok_Aw13) told_ok (by kernel_rfl) k) hf hr).mono ?_)
    rintro r H2 n2 ⟨rfl, rfl, rfl⟩
    exact ⟨_, Sub.refl _, 0, frz_closed rfl _ 0⟩
  · cases h
def m_law13_awake : Option Bool := some true
theorem ok_law13_awake (r : Bool) (h : m_law13_awake = some r) : Ok Try.prog 34 [] (bool r) := by
  injection h with h
  subst h
  exact ok_runsTrue_Aw13 (k := 3000) (by kernel_rfl) (by kernel_rfl)
end Go.Proofs.Ytnmljicimdhpmaa.AL

/- Models of functions, and that the functions are as their models: written by gen.py. -/
set_option linter.all false
set_option maxRecDepth 100000
namespace Go.Proofs.Ytnmljicimdhpmaa.AL
open Go Go.Proofs
end Go.Proofs.Ytnmljicimdhpmaa.AL

/- Plain laws: WalkPaths. -/
set_option linter.all false
namespace Go.Proofs.Ytnmljicimdhpmaa.AL
open Go Go.Proofs

end Go.Proofs.Ytnmljicimdhpmaa.AL

