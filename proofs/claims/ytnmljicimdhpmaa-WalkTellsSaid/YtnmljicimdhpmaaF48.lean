/- A law of the given program is proved: part 48 of 50. -/
import Derived.Test.YtnmljicimdhpmaaF47
set_option linter.all false
/- The table of functions for closed runs; written by tabgen.py. -/
set_option linter.all false
namespace Go.Proofs.Ytnmljicimdhpmaa.AL
open Go Go.Proofs
def tabL_Aw13 : List (Nat × Nat × List ResultVar × AC) := [(34, 66, [.tmp 0], c_law13_awake), (22, 11, [.tmp 4], c_walk_Dirs), (36, 38, [.tmp 4], c_walk_Path), (40, 26, [.tmp 4], c_slices_Equal_2_int_2_int), (41, 11, [.tmp 4], c_walk_Twice), (43, 26, [.tmp 4], c_slices_Equal_bool_bool), (44, 9, [.tmp 4], c_walk_Reach), (46, 50, [.cell 4 26], c_walk_Prune), (72, 6, [.tmp 2], c_path_Join), (64, 42, [.tmp 4], c_walk_walk), (73, 28, [], c_slices_Reverse_string_string), (76, 8, [.tmp 2], c_slices_Clone_byte_byte), (77, 42, [.tmp 4], c_slices_DeleteFunc_api_Entry_api_Entry), (78, 8, [.tmp 2], c_slices_Clone_api_Entry_api_Entry), (79, 15, [.tmp 4], c_walk_Prune_1), (92, 27, [.cell 4 46], c_walk_trail_node), (93, 31, [.tmp 4], c_walk_trail_come), (94, 55, [], c_walk_trail_enter), (95, 19, [.tmp 4], c_slices_IndexFunc_api_Entry_api_Entry), (80, 9, [.tmp 4], c_slices_Contains_2_int_2_int), (102, 19, [.tmp 4], c_slices_Index_2_int_2_int)]
def tabF_Aw13 : List (Nat × Nat × List ResultVar × AC) → FuncId → Option (Nat × List ResultVar × AC)
  | [], _ => none
  | p :: l, f => bif Nat.beq p.1 f then some p.2 else tabF_Aw13 l f
theorem tabL_ok_Aw13 : ∀ p ∈ tabL_Aw13, FnC Try.prog p.1 p.2.1 p.2.2.1 p.2.2.2 := by
  unfold tabL_Aw13
  simp only [List.forall_mem_cons]
  exact ⟨fc_law13_awake, fc_walk_Dirs, fc_walk_Path, fc_slices_Equal_2_int_2_int, fc_walk_Twice, fc_slices_Equal_bool_bool, fc_walk_Reach, fc_walk_Prune, fc_path_Join, fc_walk_walk, fc_slices_Reverse_string_string, fc_slices_Clone_byte_byte, fc_slices_DeleteFunc_api_Entry_api_Entry, fc_slices_Clone_api_Entry_api_Entry, fc_walk_Prune_1, fc_walk_trail_node, fc_walk_trail_come, fc_walk_trail_enter, fc_slices_IndexFunc_api_Entry_api_Entry, fc_slices_Contains_2_int_2_int, fc_slices_Index_2_int_2_int, fun p h => by cases h⟩
theorem tabF_ok_Aw13 {l : List (Nat × Nat × List ResultVar × AC)} (h : ∀ p ∈ l, FnC Try.prog p.1 p.2.1 p.2.2.1 p.2.2.2) : ∀ f n rs ac, tabF_Aw13 l f = some (n, rs, ac) → FnC Try.prog f n rs ac := by
  induction l with
  | nil => intro f n rs ac e; simp [tabF_Aw13] at e
  | cons p l ih =>
    intro f n rs ac e
    unfold tabF_Aw13 at e
    cases hb : Nat.beq p.1 f with
    | true =>
      rw [hb] at e
      simp only [cond_true, Option.some.injEq] at e
      have := h p (by simp)
      rw [e, Nat.eq_of_beq_eq_true hb] at this
      exact this
    | false =>
      rw [hb] at e
      exact ih (fun q hq => h q (by simp [hq])) f n rs ac e
noncomputable def runsTrue_Aw13 (k : Nat) (f : FuncId) : Bool := match xF Try.prog (tabF_Aw13 tabL_Aw13) told (xC Try.prog (tabF_Aw13 tabL_Aw13) told k) f [] [] 0 with
  | some (.val (.bool true), _, _) => true
  | _ => false
theorem ok_runsTrue_Aw13 {k : Nat} {f : FuncId} (hf : told f = none) (h : runsTrue_Aw13 k f = true) : Ok Try.prog f [] (bool true) := by
  unfold runsTrue_Aw13 at h
  split at h
  · rename_i H nx hr
    refine ok_of_acall ((xF_call (tabF_ok_Aw13 tabL_ok_Aw13) (xC_sound (tabF_ok_Aw13 tabL_ok_Aw13) told_ok (by kernel_rfl) k) hf hr).mono ?_)
    rintro r H2 n2 ⟨rfl, rfl, rfl⟩
    exact ⟨_, Sub.refl _, 0, frz_closed rfl _ 0⟩
  · cases h
def m_law13_awake : Option Bool := some true
theorem ok_law13_awake (r : Bool) (h : m_law13_awake = some r) : Ok Try.prog 34 [] (bool r) := by
  injection h with h
  subst h
  exact ok_runsTrue_Aw13 (k := 3000) (by kernel_rfl) (by kernel_rfl)
end Go.Proofs.Ytnmljicimdhpmaa.AL

/- Models of functions, and that the functions are as their models: written by gen.py. -/
set_option linter.all false
set_option maxRecDepth 100000
namespace Go.Proofs.Ytnmljicimdhpmaa.AL
open Go Go.Proofs
end Go.Proofs.Ytnmljicimdhpmaa.AL

/- Plain laws: WalkPaths. -/
set_option linter.all false
namespace Go.Proofs.Ytnmljicimdhpmaa.AL
open Go Go.Proofs

def pathR (l : List Way) : Nat → Int → List ByteArray
  | 0, _ => []
  | f + 1, i => if 0 ≤ i then match l[i.toNat]? with
    | some w => if 0 ≤ w.up ∧ w.up < i then w.name :: pathR l f w.up else []
    | none => []
    else []
def pathP (l : List Way) (i : Int) : List ByteArray := (pathR l 61 i).reverse
theorem pathR_len (l : List Way) : ∀ f i, (pathR l f i).length ≤ f
  | 0, i => by simp [pathR]
  | f + 1, i => by
    unfold pathR
    repeat' split
    all_goals first
      | (simp; done)
      | (have := pathR_len l f ‹Way›.up; simp only [List.length_cons]; omega)
theorem pathR_in {l : List Way} {f : Nat} {i : Int} (h0 : 0 ≤ i) (h : i < l.length) : pathR l (f + 1) i = if 0 ≤ (l[i.toNat]'(by omega)).up ∧ (l[i.toNat]'(by omega)).up < i then (l[i.toNat]'(by omega)).name :: pathR l f (l[i.toNat]'(by omega)).up else [] := by
  conv => lhs; unfold pathR
  rw [if_pos h0, List.getElem?_eq_getElem (by omega)]
theorem pathR_out {l : List Way} {f : Nat} {i : Int} (h : i < 0 ∨ (l.length : Int) ≤ i) : pathR l f i = [] := by
  cases f with
  | zero => rfl
  | succ f =>
    unfold pathR
    rcases h with h | h
    · rw [if_neg (by omega)]
    · split
      · rw [List.getElem?_eq_none (by omega)]
      · rfl
theorem myPath_eq {l : List Way} (hl : l.length ≤ 60) (i : Int) : m_walk_Path l i = some (pathP l i) := by
  unfold m_walk_Path
  obtain ⟨r, h1, h2⟩ := iter_term (B := m_walk_Path_b0 l) (R := fun r => r = pathR l 61 i) (fun k t => t.2.length = k ∧ k ≤ 61 ∧ (k = 0 ∨ t.1 + k ≤ 60) ∧ t.2 ++ pathR l (61 - k) t.1 = pathR l 61 i) 61 (by
    rintro k ⟨v2, v4⟩ ⟨g1, g2, g3, g4⟩
    simp only at g1 g3 g4
    refine ⟨g2, ?_⟩
    have stop : pathR l (61 - k) v2 = [] → ∃ r, (some (St.out v4) : Option (St (Int × List ByteArray) (List ByteArray))) = some (.out r) ∧ r = pathR l 61 i := fun h => ⟨v4, rfl, by rw [← g4, h]; simp⟩
    simp only [m_walk_Path_b0]
    by_cases c0 : 0 ≤ v2
    · rw [if_pos c0]
      by_cases c1 : v2 < (l.length : Int)
      · have e : 61 - k = (61 - (k + 1)) + 1 := by omega
        rw [if_pos c1, ix_of c0 c1]
        simp only [Option.bind_some]
        by_cases c2 : (l[v2.toNat]'(by omega)).up < 0
        · rw [if_pos c2]
          exact .inr (stop (by rw [e, pathR_in c0 c1, if_neg (by omega)]))
        rw [if_neg c2]
        by_cases c3 : v2 ≤ (l[v2.toNat]'(by omega)).up
        · rw [if_pos c3]
          exact .inr (stop (by rw [e, pathR_in c0 c1, if_neg (by omega)]))
        rw [if_neg c3, ap_of (by simp; omega) (by omega)]
        refine .inl ⟨_, rfl, by simp [g1], by omega, .inr (by omega), ?_⟩
        rw [← g4]
        conv => rhs; rw [e, pathR_in c0 c1, if_pos (by omega)]
        simp
      · rw [if_neg c1]
        exact .inr (stop (pathR_out (.inr (by omega))))
    · rw [if_neg c0]
      exact .inr (stop (pathR_out (.inl (by omega))))) big 0 (i, []) ⟨rfl, by omega, .inl rfl, rfl⟩ (by rw [big_eq]; omega)
  rw [h1, h2]
  simp only [Option.bind_some]
  unfold revM ck
  have := pathR_len l 61 i
  rw [if_pos (by omega)]
  rfl
theorem refPath_eq {l : List Way} (hl : l.length ≤ 60) (i : Int) : m_ref13_Path l i = some (pathP l i) := by
  unfold m_ref13_Path
  obtain ⟨r, h1, h2⟩ := iter_term (B := m_ref13_Path_b0 l) (R := fun r => r = pathP l i) (fun k t => t.2.length = k ∧ k ≤ 61 ∧ (k = 0 ∨ t.1 + k ≤ 60) ∧ (pathR l (61 - k) t.1).reverse ++ t.2 = pathP l i) 61 (by
    rintro k ⟨v2, v4⟩ ⟨g1, g2, g3, g4⟩
    simp only at g1 g3 g4
    refine ⟨g2, ?_⟩
    have stop : pathR l (61 - k) v2 = [] → ∃ r, (some (St.out v4) : Option (St (Int × List ByteArray) (List ByteArray))) = some (.out r) ∧ r = pathP l i := fun h => ⟨v4, rfl, by rw [← g4, h]; simp⟩
    simp only [m_ref13_Path_b0]
    by_cases c0 : 0 ≤ v2
    · rw [if_pos c0]
      by_cases c1 : v2 < (l.length : Int)
      · have e : 61 - k = (61 - (k + 1)) + 1 := by omega
        rw [if_pos c1, ix_of c0 c1]
        simp only [Option.bind_some]
        by_cases c2 : 0 ≤ (l[v2.toNat]'(by omega)).up
        · rw [if_pos c2]
          by_cases c3 : (l[v2.toNat]'(by omega)).up < v2
          · rw [if_pos c3, ap_of (by simp; omega) (by omega)]
            refine .inl ⟨_, rfl, by simp [g1], by omega, .inr (by omega), ?_⟩
            rw [← g4]
            conv => rhs; rw [e, pathR_in c0 c1, if_pos (by omega)]
            simp
          · rw [if_neg c3]
            exact .inr (stop (by rw [e, pathR_in c0 c1, if_neg (by omega)]))
        · rw [if_neg c2]
          exact .inr (stop (by rw [e, pathR_in c0 c1, if_neg (by omega)]))
      · rw [if_neg c1]
        exact .inr (stop (pathR_out (.inr (by omega))))
    · rw [if_neg c0]
      exact .inr (stop (pathR_out (.inl (by omega))))) big 0 (i, []) ⟨rfl, by omega, .inl rfl, by simp [pathP]⟩ (by rw [big_eq]; omega)
  rw [h1, h2]
  rfl
theorem equal_refl_string {l : List ByteArray} (h : l.length ≤ 1000000) : m_slices_Equal_string_string l l = some true := by
  unfold m_slices_Equal_string_string
  rw [if_pos rfl]
  obtain ⟨r, h1, h2⟩ := iter_term (B := m_slices_Equal_string_string_b0 l l) (R := fun r => ∃ u, r = .inl u) (fun i t => t = (i : Int) ∧ i ≤ l.length) l.length (by
    rintro i t ⟨rfl, hi⟩
    refine ⟨hi, ?_⟩
    simp only [m_slices_Equal_string_string_b0]
    by_cases hlt : i < l.length
    · rw [if_pos (by omega), ix_at hlt]
      simp only [Option.bind_some]
      rw [if_pos (by simp), wr_suc (by omega)]
      exact .inl ⟨_, rfl, rfl, by omega⟩
    · rw [if_neg (by omega)]
      exact .inr ⟨_, rfl, _, rfl⟩) big 0 0 ⟨rfl, by omega⟩ (by rw [big_eq]; omega)
  obtain ⟨u, rfl⟩ := h2
  rw [h1]
  rfl
theorem pathP_len (l : List Way) (i : Int) : (pathP l i).length ≤ 61 := by
  have := pathR_len l 61 i
  unfold pathP
  simpa using this
end Go.Proofs.Ytnmljicimdhpmaa.AL

/- Plain laws, part 2: the program's walk; what is common. -/
set_option linter.all false
namespace Go.Proofs.Ytnmljicimdhpmaa.AL
open Go Go.Proofs

theorem mget_mset (m : List (Int × Int)) (k v k' : Int) : mget (mset m k v) k' = if k' = k then v else mget m k' := by
  induction m with
  | nil =>
    unfold mget mset
    by_cases h : k' = k
    · subst h; simp
    · have : (k' == k) = false := by simpa using h
      simp [this, h]
  | cons p m ih =>
    unfold mset
    by_cases h : k = p.1
    · rw [if_pos h]
      unfold mget
      by_cases h' : k' = k
      · subst h'; simp [h]
      · have : (k' == p.1) = false := by simp; omega
        simp [this, h']
    · rw [if_neg h]
      unfold mget at ih ⊢
      by_cases h' : k' = p.1
      · have h2 : ¬ k' = k := by omega
        have : (k' == p.1) = true := by simpa using h'
        simp [this, h2]
      · have : (k' == p.1) = false := by simpa using h'
        simpa [List.find?_cons, this] using ih
abbrev MS := WS × List (Int × Int)
/-- The map tells what has been come to. -/
def SM (t : MS) : Prop := ∀ ino, mget t.2 ino = if seenB t.1.1 ino = true then 1 else 0
def eStepM (b : Branch) (k : Nat) (ino : Int) (t : MS) (e : Entry) : MS :=
  (eStep b k ino t.1 e, if (nodeP b e.ino).kind = 1 ∧ seenB t.1.1 e.ino = false then mset t.2 e.ino 1 else t.2)
theorem seenB_push (ways : List Way) (w : Way) (ino : Int) : seenB (ways ++ [w]) ino = (seenB ways ino || decide (w.ino = ino)) := by simp [seenB]
theorem eStepM_sm {b : Branch} {k : Nat} {ino : Int} {t : MS} {e : Entry} (h : SM t) : SM (eStepM b k ino t e) := by
  intro i
  unfold eStepM eStep
  by_cases hk : (nodeP b e.ino).kind = 1
  · by_cases hs : seenB t.1.1 e.ino = true
    · simp only [hk, hs, true_and, if_true, reduceCtorEq, if_false]
      simpa using h i
    · have hs' : seenB t.1.1 e.ino = false := by simpa using hs
      simp only [hk, hs', true_and, if_true, if_false, Bool.false_eq_true]
      rw [mget_mset, seenB_push, h i]
      by_cases hi : i = e.ino
      · subst hi; simp
      · have : ¬ e.ino = i := fun h => hi h.symm
        simp [hi, this]
  · simp only [hk, false_and, if_false]
    exact h i
theorem foldM_fst (b : Branch) (k : Nat) (ino : Int) : ∀ (es : List Entry) (t : MS), (es.foldl (eStepM b k ino) t).1 = es.foldl (eStep b k ino) t.1
  | [], t => rfl
  | e :: es, t => by rw [List.foldl_cons, List.foldl_cons, foldM_fst b k ino es]; rfl
def wStepM (b : Branch) (k : Nat) (t : MS) : MS := (nodeP b (wIno t.1 k)).entries.foldl (eStepM b k (wIno t.1 k)) t
theorem wStepM_fst (b : Branch) (k : Nat) (t : MS) : (wStepM b k t).1 = wStep b k t.1 := foldM_fst _ _ _ _ _
theorem nodeP_in {b : Branch} {ino : Int} (h1 : ¬ ino < 1) (h2 : ¬ (b.nodes.length : Int) < ino) (hn : b.nodes.length ≤ 24) : ix b.nodes (wr (ino - 1)) = some (nodeP b ino) := by
  rw [wr_in (by omega) (by omega), ix_of (by omega) (by omega)]
  unfold nodeP
  rw [if_neg h1, if_neg h2]
  have hlt : (ino - 1).toNat < b.nodes.length := by omega
  simp only [List.getElem?_eq_getElem hlt, Option.getD_some]
theorem nodeP_out {b : Branch} {ino : Int} (h : ino < 1 ∨ (b.nodes.length : Int) < ino) : nodeP b ino = zeroNode := by
  unfold nodeP
  rcases h with h | h
  · rw [if_pos h]
  · rw [if_pos h]; split <;> rfl
theorem kind_zero : ¬ zeroNode.kind = 1 := by simp [zeroNode]
def wLoopM (b : Branch) (k : Nat) (t : MS) : Nat × MS := wl (wStepM b) (fun t => t.1.1.length) 25 k t
theorem wlM_fst (b : Branch) : ∀ (f k : Nat) (t : MS), (wl (wStepM b) (fun t => t.1.1.length) f k t).1 = (wl (wStep b) (fun s => s.1.length) f k t.1).1 ∧ (wl (wStepM b) (fun t => t.1.1.length) f k t).2.1 = (wl (wStep b) (fun s => s.1.length) f k t.1).2
  | 0, k, t => ⟨rfl, rfl⟩
  | f + 1, k, t => by
    unfold wl
    by_cases h : k < t.1.1.length
    · rw [if_pos h, if_pos h]
      have := wlM_fst b f (k + 1) (wStepM b k t)
      rw [wStepM_fst] at this
      exact this
    · rw [if_neg h, if_neg h]
      exact ⟨rfl, rfl⟩
def fStepM (b : Branch) (t : Nat × MS) (r : Int) : Nat × MS :=
  if (nodeP b r).kind = 1 ∧ seenB t.2.1.1 r = false then wLoopM b t.1 ((t.2.1.1 ++ [⟨r, -1, noBytes⟩], t.2.1.2), mset t.2.2 r 1) else t
theorem fStepM_fst (b : Branch) (t : Nat × MS) (r : Int) : ((fStepM b t r).1, (fStepM b t r).2.1) = fStep b (t.1, t.2.1) r := by
  unfold fStepM fStep
  split
  · have := wlM_fst b 25 t.1 ((t.2.1.1 ++ [⟨r, -1, noBytes⟩], t.2.1.2), mset t.2.2 r 1)
    exact Prod.ext this.1 this.2
  · rfl
theorem SM.push {t : MS} (h : SM t) (r : Int) (hs : seenB t.1.1 r = false) : SM ((t.1.1 ++ [⟨r, -1, noBytes⟩], t.1.2), mset t.2 r 1) := by
  intro i
  rw [mget_mset, seenB_push, h i]
  by_cases hi : i = r
  · subst hi; simp
  · have : ¬ r = i := fun h => hi h.symm
    simp [hi, this]
end Go.Proofs.Ytnmljicimdhpmaa.AL

