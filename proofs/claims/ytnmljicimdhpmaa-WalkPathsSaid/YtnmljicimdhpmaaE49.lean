/- A law of the given program is proved: part 49 of 49. -/
import Derived.Test.YtnmljicimdhpmaaE48
set_option linter.all false
/- The table of functions for closed runs; written by tabgen.py. -/
set_option linter.all false
namespace Go.Proofs.Ytnmljicimdhpmaa.AL
open Go Go.Proofs
def tabL_Aw13 : List (Nat × Nat × List ResultVar × AC) := [(34, 66, [.tmp 0], c_law13_awake), (22, 11, [.tmp 4], c_walk_Dirs), (36, 38, [.tmp 4], c_walk_Path), (40, 26, [.tmp 4], c_slices_Equal_2_int_2_int), (41, 11, [.tmp 4], c_walk_Twice), (43, 26, [.tmp 4], c_slices_Equal_bool_bool), (44, 9, [.tmp 4], c_walk_Reach), (46, 50, [.cell 4 26], c_walk_Prune), (72, 6, [.tmp 2], c_path_Join), (64, 42, [.tmp 4], c_walk_walk), (73, 28, [], c_slices_Reverse_string_string), (76, 8, [.tmp 2], c_slices_Clone_byte_byte), (77, 42, [.tmp 4], c_slices_DeleteFunc_api_Entry_api_Entry), (78, 8, [.tmp 2], c_slices_Clone_api_Entry_api_Entry), (79, 15, [.tmp 4], c_walk_Prune_1), (92, 27, [.cell 4 46], c_walk_trail_node), (93, 31, [.tmp 4], c_walk_trail_come), (94, 55, [], c_walk_trail_enter), (95, 19, [.tmp 4], c_slices_IndexFunc_api_Entry_api_Entry), (80, 9, [.tmp 4], c_slices_Contains_2_int_2_int), (102, 19, [.tmp 4], c_slices_Index_2_int_2_int)]
def tabF_Aw13 : List (Nat × Nat × List ResultVar × AC) → FuncId → Option (Nat × List ResultVar × AC)
  | [], _ => none
  | p :: l, f => bif Nat.beq p.1 f then some p.2 else tabF_Aw13 l f
theorem tabL_ok_Aw13 : ∀ p ∈ tabL_Aw13, FnC Try.prog p.1 p.2.1 p.2.2.1 p.2.2.2 := by
  unfold tabL_Aw13
  simp only [List.forall_mem_cons]
  exact ⟨fc_law13_awake, fc_walk_Dirs, fc_walk_Path, fc_slices_Equal_2_int_2_int, fc_walk_Twice, fc_slices_Equal_bool_bool, fc_walk_Reach, fc_walk_Prune, fc_path_Join, fc_walk_walk, fc_slices_Reverse_string_string, fc_slices_Clone_byte_byte, fc_slices_DeleteFunc_api_Entry_api_Entry, fc_slices_Clone_api_Entry_api_Entry, fc_walk_Prune_1, fc_walk_trail_node, fc_walk_trail_come, fc_walk_trail_enter, fc_slices_IndexFunc_api_Entry_api_Entry, fc_slices_Contains_2_int_2_int, fc_slices_Index_2_int_2_int, fun p h => by cases h⟩
theorem tabF_ok_Aw13 {l : List (Nat × Nat × List ResultVar × AC)} (h : ∀ p ∈ l, FnC Try.prog p.1 p.2.1 p.2.2.1 p.2.2.2) : ∀ f n rs ac, tabF_Aw13 l f = some (n, rs, ac) → FnC Try.prog f n rs ac := by
  induction l with
  | nil => intro f n rs ac e; simp [tabF_Aw13] at e
  | cons p l ih =>
    intro f n rs ac e
    unfold tabF_Aw13 at e
    cases hb : Nat.beq p.1 f with
    | true =>
      rw [hb] at e
      simp only [cond_true, Option.some.injEq] at e
      have := h p (by simp)
      rw [e, Nat.eq_of_beq_eq_true hb] at this
      exact this
    | false =>
      rw [hb] at e
      exact ih (fun q hq => h q (by simp [hq])) f n rs ac e
noncomputable def runsTrue_Aw13 (k : Nat) (f : FuncId) : Bool := match xF Try.prog (tabF_Aw13 tabL_Aw13) told (xC Try.prog (tabF_Aw13 tabL_Aw13) told k) f [] [] 0 with
  | some (.val (.bool true), _, _) => true
  | _ => false
theorem ok_runsTrue_Aw13 {k : Nat} {f : FuncId} (hf : told f = none) (h : runsTrue_Aw13 k f = true) : Ok Try.prog f [] (bool true) := by
  unfold runsTrue_Aw13 at h
  split at h
  · rename_i H nx hr
    refine ok_of_acall ((xF_call (tabF_ok_Aw13 tabL_ok_Aw13) (xC_sound (tabF_ok_Aw13 tabL_ok_Aw13) told_ok (by kernel_rfl) k) hf hr).mono ?_)
    rintro r H2 n2 ⟨rfl, rfl, rfl⟩
    exact ⟨_, Sub.refl _, 0, frz_closed rfl _ 0⟩
  · cases h
def m_law13_awake : Option Bool := some true
theorem ok_law13_awake (r : Bool) (h : m_law13_awake = some r) : Ok Try.prog 34 [] (bool r) := by
  injection h with h
  subst h
  exact ok_runsTrue_Aw13 (k := 3000) (by kernel_rfl) (by kernel_rfl)
end Go.Proofs.Ytnmljicimdhpmaa.AL

/- Models of functions, and that the functions are as their models: written by gen.py. -/
set_option linter.all false
set_option maxRecDepth 100000
namespace Go.Proofs.Ytnmljicimdhpmaa.AL
open Go Go.Proofs
def m_law13_WalkPaths (a0 : List Way) (a1 : Int) : Option (Bool) := if 60 < (a0.length : Int) then (m_law13_awake ).bind fun v3 => some v3
 else (m_walk_Path a0 a1).bind fun v5 => (m_ref13_Path a0 a1).bind fun v7 => (m_slices_Equal_string_string v5 v7).bind fun v9 => if v9 = true then (m_law13_awake ).bind fun v13 => some v13
 else some false
def Y_law13_WalkPaths := And.intro (And.intro ((@EV)) (And.intro ((@R3)) ((@R9)))) (And.intro (And.intro ((@R49)) ((@R52))) (And.intro ((@R60)) ((@DWay))))
set_option maxHeartbeats 2000000 in
theorem ok_law13_WalkPaths (a0 : List Way) (a1 : Int) (r : Bool) (hm0 : m_law13_WalkPaths a0 a1 = some r) : Ok Try.prog 8 [.sl 3 (a0.map encWay), int a1] (bool r) := by
 unfold m_law13_WalkPaths at hm0
 refine okG fc_law13_WalkPaths ?_
 unfold c_law13_WalkPaths
 rcases iteE hm0 with ⟨e2, hm0⟩ | ⟨e2, hm0⟩
 · obtain ⟨v3, h4, hm0⟩ := bsE hm0
   simp only [e2, Y_law13_WalkPaths, ↓EVd, isCall, sevalprocAttr]
   refine qc (ok_law13_awake  _ h4) rfl ?_
   obtain rfl := Option.some.inj hm0
   simp only [e2, Y_law13_WalkPaths, ↓EVd, isCall, sevalprocAttr]
   all_goals first | done | rfl
 obtain ⟨v5, h6, hm0⟩ := bsE hm0
 simp only [e2, Y_law13_WalkPaths, ↓EVd, isCall, sevalprocAttr]
 refine qc (ok_walk_Path _ _ _ h6) rfl ?_
 obtain ⟨v7, h8, hm0⟩ := bsE hm0
 simp only [e2, Y_law13_WalkPaths, ↓EVd, isCall, sevalprocAttr]
 refine qc (ok_ref13_Path _ _ _ h8) rfl ?_
 obtain ⟨v9, h10, hm0⟩ := bsE hm0
 simp only [e2, Y_law13_WalkPaths, ↓EVd, isCall, sevalprocAttr]
 refine qc (ok_slices_Equal_string_string _ _ _ h10) rfl ?_
 rcases itbE hm0 with ⟨e12, hm0⟩ | ⟨e12, hm0⟩
 · obtain ⟨v13, h14, hm0⟩ := bsE hm0
   simp only [e2, e12, Y_law13_WalkPaths, ↓EVd, isCall, sevalprocAttr]
   refine qc (ok_law13_awake  _ h14) rfl ?_
   obtain rfl := Option.some.inj hm0
   simp only [e2, e12, Y_law13_WalkPaths, ↓EVd, isCall, sevalprocAttr]
   all_goals first | done | rfl
 obtain rfl := Option.some.inj hm0
 simp only [e2, e12, Y_law13_WalkPaths, ↓EVd, isCall, sevalprocAttr]
 all_goals first | done | rfl
end Go.Proofs.Ytnmljicimdhpmaa.AL

/- Plain laws: WalkPaths. -/
set_option linter.all false
namespace Go.Proofs.Ytnmljicimdhpmaa.AL
open Go Go.Proofs

def pathR (l : List Way) : Nat → Int → List ByteArray
  | 0, _ => []
  | f + 1, i => if 0 ≤ i then match l[i.toNat]? with
    | some w => if 0 ≤ w.up ∧ w.up < i then w.name :: pathR l f w.up else []
    | none => []
    else []
def pathP (l : List Way) (i : Int) : List ByteArray := (pathR l 61 i).reverse
theorem pathR_len (l : List Way) : ∀ f i, (pathR l f i).length ≤ f
  | 0, i => by simp [pathR]
  | f + 1, i => by
    unfold pathR
    repeat' split
    all_goals first
      | (simp; done)
      | (have := pathR_len l f ‹Way›.up; simp only [List.length_cons]; omega)
theorem pathR_in {l : List Way} {f : Nat} {i : Int} (h0 : 0 ≤ i) (h : i < l.length) : pathR l (f + 1) i = if 0 ≤ (l[i.toNat]'(by omega)).up ∧ (l[i.toNat]'(by omega)).up < i then (l[i.toNat]'(by omega)).name :: pathR l f (l[i.toNat]'(by omega)).up else [] := by
  conv => lhs; unfold pathR
  rw [if_pos h0, List.getElem?_eq_getElem (by omega)]
theorem pathR_out {l : List Way} {f : Nat} {i : Int} (h : i < 0 ∨ (l.length : Int) ≤ i) : pathR l f i = [] := by
  cases f with
  | zero => rfl
  | succ f =>
    unfold pathR
    rcases h with h | h
    · rw [if_neg (by omega)]
    · split
      · rw [List.getElem?_eq_none (by omega)]
      · rfl
theorem myPath_eq {l : List Way} (hl : l.length ≤ 60) (i : Int) : m_walk_Path l i = some (pathP l i) := by
  unfold m_walk_Path
  obtain ⟨r, h1, h2⟩ := iter_term (B := m_walk_Path_b0 l) (R := fun r => r = pathR l 61 i) (fun k t => t.2.length = k ∧ k ≤ 61 ∧ (k = 0 ∨ t.1 + k ≤ 60) ∧ t.2 ++ pathR l (61 - k) t.1 = pathR l 61 i) 61 (by
    rintro k ⟨v2, v4⟩ ⟨g1, g2, g3, g4⟩
    simp only at g1 g3 g4
    refine ⟨g2, ?_⟩
    have stop : pathR l (61 - k) v2 = [] → ∃ r, (some (St.out v4) : Option (St (Int × List ByteArray) (List ByteArray))) = some (.out r) ∧ r = pathR l 61 i := fun h => ⟨v4, rfl, by rw [← g4, h]; simp⟩
    simp only [m_walk_Path_b0]
    by_cases c0 : 0 ≤ v2
    · rw [if_pos c0]
      by_cases c1 : v2 < (l.length : Int)
      · have e : 61 - k = (61 - (k + 1)) + 1 := by omega
        rw [if_pos c1, ix_of c0 c1]
        simp only [Option.bind_some]
        by_cases c2 : (l[v2.toNat]'(by omega)).up < 0
        · rw [if_pos c2]
          exact .inr (stop (by rw [e, pathR_in c0 c1, if_neg (by omega)]))
        rw [if_neg c2]
        by_cases c3 : v2 ≤ (l[v2.toNat]'(by omega)).up
        · rw [if_pos c3]
          exact .inr (stop (by rw [e, pathR_in c0 c1, if_neg (by omega)]))
        rw [if_neg c3, ap_of (by simp; omega) (by omega)]
        refine .inl ⟨_, rfl, by simp [g1], by omega, .inr (by omega), ?_⟩
        rw [← g4]
        conv => rhs; rw [e, pathR_in c0 c1, if_pos (by omega)]
        simp
      · rw [if_neg c1]
        exact .inr (stop (pathR_out (.inr (by omega))))
    · rw [if_neg c0]
      exact .inr (stop (pathR_out (.inl (by omega))))) big 0 (i, []) ⟨rfl, by omega, .inl rfl, rfl⟩ (by rw [big_eq]; omega)
  rw [h1, h2]
  simp only [Option.bind_some]
  unfold revM ck
  have := pathR_len l 61 i
  rw [if_pos (by omega)]
  rfl
theorem refPath_eq {l : List Way} (hl : l.length ≤ 60) (i : Int) : m_ref13_Path l i = some (pathP l i) := by
  unfold m_ref13_Path
  obtain ⟨r, h1, h2⟩ := iter_term (B := m_ref13_Path_b0 l) (R := fun r => r = pathP l i) (fun k t => t.2.length = k ∧ k ≤ 61 ∧ (k = 0 ∨ t.1 + k ≤ 60) ∧ (pathR l (61 - k) t.1).reverse ++ t.2 = pathP l i) 61 (by
    rintro k ⟨v2, v4⟩ ⟨g1, g2, g3, g4⟩
    simp only at g1 g3 g4
    refine ⟨g2, ?_⟩
    have stop : pathR l (61 - k) v2 = [] → ∃ r, (some (St.out v4) : Option (St (Int × List ByteArray) (List ByteArray))) = some (.out r) ∧ r = pathP l i := fun h => ⟨v4, rfl, by rw [← g4, h]; simp⟩
    simp only [m_ref13_Path_b0]
    by_cases c0 : 0 ≤ v2
    · rw [if_pos c0]
      by_cases c1 : v2 < (l.length : Int)
      · have e : 61 - k = (61 - (k + 1)) + 1 := by omega
        rw [if_pos c1, ix_of c0 c1]
        simp only [Option.bind_some]
        by_cases c2 : 0 ≤ (l[v2.toNat]'(by omega)).up
        · rw [if_pos c2]
          by_cases c3 : (l[v2.toNat]'(by omega)).up < v2
          · rw [if_pos c3, ap_of (by simp; omega) (by omega)]
            refine .inl ⟨_, rfl, by simp [g1], by omega, .inr (by omega), ?_⟩
            rw [← g4]
            conv => rhs; rw [e, pathR_in c0 c1, if_pos (by omega)]
            simp
          · rw [if_neg c3]
            exact .inr (stop (by rw [e, pathR_in c0 c1, if_neg (by omega)]))
        · rw [if_neg c2]
          exact .inr (stop (by rw [e, pathR_in c0 c1, if_neg (by omega)]))
      · rw [if_neg c1]
        exact .inr (stop (pathR_out (.inr (by omega))))
    · rw [if_neg c0]
      exact .inr (stop (pathR_out (.inl (by omega))))) big 0 (i, []) ⟨rfl, by omega, .inl rfl, by simp [pathP]⟩ (by rw [big_eq]; omega)
  rw [h1, h2]
  rfl
theorem equal_refl_string {l : List ByteArray} (h : l.length ≤ 1000000) : m_slices_Equal_string_string l l = some true := by
  unfold m_slices_Equal_string_string
  rw [if_pos rfl]
  obtain ⟨r, h1, h2⟩ := iter_term (B := m_slices_Equal_string_string_b0 l l) (R := fun r => ∃ u, r = .inl u) (fun i t => t = (i : Int) ∧ i ≤ l.length) l.length (by
    rintro i t ⟨rfl, hi⟩
    refine ⟨hi, ?_⟩
    simp only [m_slices_Equal_string_string_b0]
    by_cases hlt : i < l.length
    · rw [if_pos (by omega), ix_at hlt]
      simp only [Option.bind_some]
      rw [if_pos (by simp), wr_suc (by omega)]
      exact .inl ⟨_, rfl, rfl, by omega⟩
    · rw [if_neg (by omega)]
      exact .inr ⟨_, rfl, _, rfl⟩) big 0 0 ⟨rfl, by omega⟩ (by rw [big_eq]; omega)
  obtain ⟨u, rfl⟩ := h2
  rw [h1]
  rfl
theorem pathP_len (l : List Way) (i : Int) : (pathP l i).length ≤ 61 := by
  have := pathR_len l 61 i
  unfold pathP
  simpa using this
theorem law_walkPaths (l : List Way) (i : Int) : m_law13_WalkPaths l i = some true := by
  unfold m_law13_WalkPaths
  by_cases h : 60 < (l.length : Int)
  · rw [if_pos h]; rfl
  · have := pathP_len l i
    rw [if_neg h, myPath_eq (by omega), refPath_eq (by omega)]
    simp only [Option.bind_some]
    rw [equal_refl_string (by omega)]
    rfl
theorem ok_walkPaths (l : List Way) (i : Int) : Ok Try.prog 8 [.sl 3 (l.map encWay), int i] (bool true) := ok_law13_WalkPaths l i true (law_walkPaths l i)
end Go.Proofs.Ytnmljicimdhpmaa.AL

/- The names down to any place of any list are what the document says: for every list and every number. -/
namespace Go.Proofs.Ytnmljicimdhpmaa
theorem walkPaths_holds : Rows.WalkPathsSaid := holds_walkPaths_of fun l i _ _ => AL.ok_walkPaths l i
#print axioms walkPaths_holds
end Go.Proofs.Ytnmljicimdhpmaa

