/- What of the attributes of any stack, and of any node, may not be, is what the document says: part 44 of 46. -/
import Derived.Laws.CopyRow
import Derived.Laws.Slices
import Derived.Test.YtlgikchfddhocaaB43
set_option linter.all false
/- Models of functions, and that the functions are as their models: written by gen.py. -/
set_option linter.all false
set_option maxRecDepth 100000
namespace Go.Proofs.Ytlgikchfddhocaa.AL
open Go Go.Proofs
end Go.Proofs.Ytlgikchfddhocaa.AL

/- Plain laws of chapter 16: nodes, entries, what a name tells, where names lead, roots. -/
set_option linter.all false
namespace Go.Proofs.Ytlgikchfddhocaa.AL
open Go Go.Proofs

/-! ### Loops that may be left early -/
/-! ### Nodes -/
structure PQ (bs : List Branch) : Prop where
  len : bs.length ≤ 3
  nodes : ∀ b ∈ bs, b.nodes.length ≤ 24 ∧ ∀ n ∈ b.nodes, NB n
/-! ### Opaque -/
/-! ### Entries -/
/-! ### What a name tells -/
structure FQ' (n : Nat) (r : Int × List Place) : Prop where
  some : r.1 = 0 ∨ 0 < r.2.length
  nil : r.1 = 0 → r.2 = []
  kinds : r.1 = 0 ∨ r.1 = 1 ∨ r.1 = 2 ∨ r.1 = 3
  one : ¬ r.1 = 1 → r.2.length ≤ 1
/-! ### Where names lead -/
/-! ### Roots -/
end Go.Proofs.Ytlgikchfddhocaa.AL

/- Plain laws: sorted texts, each once. -/
set_option linter.all false
namespace Go.Proofs.Ytlgikchfddhocaa.AL
open Go Go.Proofs

abbrev Rising (l : List ByteArray) : Prop := l.Pairwise (fun a b => bl a < bl b)
theorem less_eq (a b : ByteArray) : Op.bytesLess a.toList b.toList = decide (bl a < bl b) := by
  rw [bytesLess_eq, Lib.toList_data, Lib.toList_data]
  rfl
/-- Rising lists of the same texts are the same. -/
theorem rising_ext {a b : List ByteArray} (ha : Rising a) (hb : Rising b) (h : ∀ x, x ∈ a ↔ x ∈ b) : a = b := by
  have nd : ∀ {l : List ByteArray}, Rising l → l.Nodup := fun h => List.Pairwise.imp (by rintro x y hxy rfl; exact List.lt_irrefl _ hxy) h
  have hp : a.Perm b := (List.perm_ext_iff_of_nodup (nd ha) (nd hb)).2 h
  refine List.Perm.eq_of_pairwise (le := fun a b => bl a < bl b) (fun x y _ _ h1 h2 => absurd (List.lt_trans h1 h2) (List.lt_irrefl _)) ha hb hp
/-! ### name.Sort -/
def sortQ (l : List ByteArray) : List ByteArray := cmpB (sortB l)
theorem sortQ_rising (l : List ByteArray) : Rising (sortQ l) := cmpB_sorted _ (sortB_sorted l)
theorem sortQ_mem (l : List ByteArray) (x : ByteArray) : x ∈ sortQ l ↔ x ∈ l := by
  unfold sortQ
  rw [cmpB_mem, (sortB_perm l).mem_iff]
theorem sortQ_len (l : List ByteArray) : (sortQ l).length ≤ l.length := by
  have := cmpB_len (sortB l)
  rw [(sortB_perm l).length_eq] at this
  exact this
theorem nsort_eq {l : List ByteArray} (h : l.length ≤ 1000000) : m_name_Sort l = some (sortQ l) := by
  have hs := (sortB_perm l).length_eq
  unfold m_name_Sort m_slices_Sort_string_string m_slices_Compact_string_string cloneM ck
  rw [ap_of (by simp; omega) (by decide)]
  simp only [Option.bind_some, List.nil_append]
  rw [if_pos (by omega)]
  simp only [Option.bind_some]
  rw [if_pos (by omega)]
  rfl
/-! ### The reference's -/
def twB (x : ByteArray) (out : List ByteArray) : List ByteArray := out.takeWhile fun y => decide (bl y < bl x)
def dwB (x : ByteArray) (out : List ByteArray) : List ByteArray := out.dropWhile fun y => decide (bl y < bl x)
def insU (out : List ByteArray) (x : ByteArray) : List ByteArray := match dwB x out with
  | [] => twB x out ++ [x]
  | b :: B => if b = x then out else twB x out ++ x :: b :: B
theorem tw_dw (x : ByteArray) (out : List ByteArray) : twB x out ++ dwB x out = out := List.takeWhile_append_dropWhile
theorem take_tw (x : ByteArray) (out : List ByteArray) : out.take (twB x out).length = twB x out := by
  have h := tw_dw x out
  generalize twB x out = a at h
  generalize dwB x out = b at h
  subst h
  simp
theorem drop_tw (x : ByteArray) (out : List ByteArray) : out.drop (twB x out).length = dwB x out := by
  have h := tw_dw x out
  generalize twB x out = a at h
  generalize dwB x out = b at h
  subst h
  simp
theorem tw_lt {x y : ByteArray} {out : List ByteArray} (h : y ∈ twB x out) : bl y < bl x := by
  have := List.all_takeWhile (l := out) (p := fun y => decide (bl y < bl x))
  have := List.all_eq_true.1 this y h
  simpa using this
theorem dw_head {x b : ByteArray} {out B : List ByteArray} (h : dwB x out = b :: B) : ¬ bl b < bl x := by
  induction out with
  | nil => simp [dwB] at h
  | cons a out ih =>
    unfold dwB at h
    rw [List.dropWhile_cons] at h
    split at h
    · exact ih h
    · rename_i ha
      injection h with h1 h2
      subst h1
      simpa using ha
theorem insU_rising {out : List ByteArray} (h : Rising out) (x : ByteArray) : Rising (insU out x) := by
  unfold insU
  have hd := tw_dw x out
  split
  · rename_i hdw
    rw [hdw, List.append_nil] at hd
    refine List.pairwise_append.2 ⟨by rw [hd]; exact h, by simp, fun y hy z hz => ?_⟩
    obtain rfl : z = x := by simpa using hz
    exact tw_lt hy
  · rename_i b B hdw
    split
    · exact h
    · rename_i hne
      rw [hdw] at hd
      have h' := h
      rw [← hd] at h'
      obtain ⟨g1, g2, g3⟩ := List.pairwise_append.1 h'
      have hlt : bl x < bl b := by
        rcases Decidable.em (bl x < bl b) with h | h
        · exact h
        · exact absurd (ba_ext (List.le_antisymm (List.not_lt.1 h) (List.not_lt.1 (dw_head hdw)))) hne
      refine List.pairwise_append.2 ⟨g1, List.pairwise_cons.2 ⟨fun z hz => ?_, g2⟩, fun y hy z hz => ?_⟩
      · rcases List.mem_cons.1 hz with rfl | hz
        · exact hlt
        · exact List.lt_trans hlt ((List.pairwise_cons.1 g2).1 z hz)
      · rcases List.mem_cons.1 hz with rfl | hz
        · exact tw_lt hy
        · exact g3 y hy z hz
theorem insU_mem (out : List ByteArray) (x y : ByteArray) : y ∈ insU out x ↔ y ∈ out ∨ y = x := by
  unfold insU
  have hd := tw_dw x out
  split
  · rename_i hdw
    rw [hdw, List.append_nil] at hd
    rw [hd]
    simp
  · rename_i b B hdw
    rw [hdw] at hd
    split
    · rename_i hbx
      subst hbx
      have hb : b ∈ out := by rw [← hd]; simp
      constructor
      · exact .inl
      · rintro (h | rfl)
        · exact h
        · exact hb
    · generalize twB x out = a at hd
      subst hd
      simp only [List.mem_append, List.mem_cons]
      constructor
      · rintro (h | h | h | h)
        · exact .inl (.inl h)
        · exact .inr h
        · exact .inl (.inr (.inl h))
        · exact .inl (.inr (.inr h))
      · rintro ((h | h | h) | h)
        · exact .inl h
        · exact .inr (.inr (.inl h))
        · exact .inr (.inr (.inr h))
        · exact .inr (.inl h)
theorem insU_len (out : List ByteArray) (x : ByteArray) : (insU out x).length ≤ out.length + 1 := by
  unfold insU
  have hd := tw_dw x out
  have hl := congrArg List.length hd
  rw [List.length_append] at hl
  split
  · rename_i hdw
    rw [hdw] at hl
    simp at hl ⊢
    omega
  · rename_i b B hdw
    rw [hdw] at hl
    split
    · omega
    · simp at hl ⊢
      omega
def sortU (l : List ByteArray) : List ByteArray := l.foldl insU []
theorem sortU_prop : ∀ (l out : List ByteArray), Rising out → Rising (l.foldl insU out) ∧ ∀ y, y ∈ l.foldl insU out ↔ y ∈ out ∨ y ∈ l
  | [], out, h => ⟨h, fun y => by simp⟩
  | x :: l, out, h => by
    obtain ⟨h1, h2⟩ := sortU_prop l (insU out x) (insU_rising h x)
    refine ⟨h1, fun y => ?_⟩
    rw [List.foldl_cons, h2, insU_mem, List.mem_cons]
    constructor
    · rintro ((h | h) | h)
      · exact .inl h
      · exact .inr (.inl h)
      · exact .inr (.inr h)
    · rintro (h | h | h)
      · exact .inl (.inl h)
      · exact .inl (.inr h)
      · exact .inr h
theorem sortU_rising (l : List ByteArray) : Rising (sortU l) := (sortU_prop l [] .nil).1
theorem sortU_mem (l : List ByteArray) (x : ByteArray) : x ∈ sortU l ↔ x ∈ l := by
  unfold sortU
  rw [(sortU_prop l [] .nil).2]
  simp
theorem sortU_sortQ (l : List ByteArray) : sortU l = sortQ l := rising_ext (sortU_rising l) (sortQ_rising l) fun x => by rw [sortU_mem, sortQ_mem]
/-- The place. -/
theorem tw_at {x : ByteArray} : ∀ {l : List ByteArray} {j : Nat}, j ≤ l.length → (∀ q (h : q < l.length), q < j → bl l[q] < bl x) → (∀ h : j < l.length, ¬ bl l[j] < bl x) → (twB x l).length = j
  | [], j, hj, _, _ => by simp at hj; subst hj; rfl
  | a :: l, 0, hj, h1, h2 => by
    unfold twB
    rw [List.takeWhile_cons, if_neg]
    · rfl
    · have := h2 (by simp)
      simpa using this
  | a :: l, j + 1, hj, h1, h2 => by
    have ha : bl a < bl x := h1 0 (by simp) (by omega)
    have := tw_at (l := l) (j := j) (x := x) (by simpa using hj) (fun q h hq => h1 (q + 1) (by simpa using h) (by omega)) (fun h => h2 (by simpa using h))
    unfold twB at this ⊢
    rw [List.takeWhile_cons, if_pos (by simpa using ha), List.length_cons, this]
theorem pos_eq {a0 v3 : List ByteArray} {i : Nat} (hi : i < a0.length) (hv : v3.length ≤ 1000000) : iter (m_ref03_Sort_b1 a0 v3 (i : Int)) big 0 = some (((twB a0[i] v3).length : Nat) : Int) := by
  obtain ⟨r, h1, h2⟩ := iter_term (B := m_ref03_Sort_b1 a0 v3 (i : Int)) (R := fun r => r = (((twB a0[i] v3).length : Nat) : Int)) (fun j t => t = (j : Int) ∧ j ≤ v3.length ∧ ∀ q (h : q < v3.length), q < j → bl v3[q] < bl a0[i]) v3.length (by
    rintro j t ⟨rfl, hj, hq⟩
    refine ⟨hj, ?_⟩
    simp only [m_ref03_Sort_b1]
    by_cases hlt : j < v3.length
    · rw [if_pos (by omega), ix_at hlt, ix_at hi]
      simp only [Option.bind_some]
      rw [less_eq]
      by_cases hl : bl v3[j] < bl a0[i]
      · rw [if_pos (by simpa using hl), wr_suc (by omega)]
        refine .inl ⟨_, rfl, rfl, by omega, fun q h hqj => ?_⟩
        by_cases e : q = j
        · subst e; exact hl
        · exact hq q h (by omega)
      · rw [if_neg (by simpa using hl)]
        exact .inr ⟨_, rfl, by rw [tw_at hj hq (fun _ => hl)]⟩
    · rw [if_neg (by omega)]
      exact .inr ⟨_, rfl, by rw [tw_at hj hq (fun h => absurd h hlt)]⟩) big 0 0 ⟨rfl, by omega, fun q h hq => by omega⟩ (by rw [big_eq]; omega)
  rw [h1, h2]
theorem shift_eq {v3 : List ByteArray} {k : Nat} (hk : k ≤ v3.length) (hv : v3.length ≤ 1000000) {B : (Int × List ByteArray) → Option (St (Int × List ByteArray) (List ByteArray))}
    (hB : ∀ j L, B (j, L) = if (k : Int) < j then (ix L (wr (j - 1))).bind fun a => (ix L j).bind fun _ => some (.nx ((wr (j - 1)), (L.set (j).toNat a))) else some (.out L)) :
    ∃ z, iter B big ((wr (((v3 ++ ([noBytes] : List ByteArray)).length : Int) - 1)), (v3 ++ ([noBytes] : List ByteArray))) = some (v3.take k ++ z :: v3.drop k) := by
  obtain ⟨r, h1, z, h2⟩ := iter_term (B := B) (R := fun r => ∃ z, r = v3.take k ++ z :: v3.drop k) (fun i t => i ≤ v3.length - k ∧ ∃ z, t = (((v3.length - i : Nat) : Int), v3.take (v3.length - i) ++ z :: v3.drop (v3.length - i))) v3.length (by
    rintro i t ⟨hi, z, rfl⟩
    refine ⟨by omega, ?_⟩
    rw [hB]
    by_cases hlt : k < v3.length - i
    · obtain ⟨j, hj⟩ : ∃ j, v3.length - i = j + 1 := ⟨v3.length - i - 1, by omega⟩
      rw [hj]
      have hjl : j < v3.length := by omega
      rw [if_pos (by omega), wr_in (by omega) (by omega)]
      have e1 : ((j + 1 : Nat) : Int) - 1 = (j : Int) := by omega
      rw [e1]
      have hlen : (v3.take (j + 1) ++ z :: v3.drop (j + 1)).length = v3.length + 1 := by simp; omega
      rw [ix_at (by omega), ix_at (by omega)]
      simp only [Option.bind_some]
      refine .inl ⟨_, rfl, by omega, v3[j], ?_⟩
      have e2 : v3.length - (i + 1) = j := by omega
      rw [e2]
      congr 1
      have e3 : (v3.take (j + 1) ++ z :: v3.drop (j + 1))[j]'(by omega) = v3[j] := by
        rw [List.getElem_append_left (by simp; omega)]
        simp
      rw [e3]
      have e4 : ((j + 1 : Nat) : Int).toNat = j + 1 := by omega
      rw [e4, List.set_append_right _ _ (by simp; omega)]
      have e5 : j + 1 - (v3.take (j + 1)).length = 0 := by simp; omega
      rw [e5, List.set_cons_zero, List.take_succ_eq_append_getElem hjl, List.append_assoc]
      congr 1
      rw [List.drop_eq_getElem_cons hjl]
      rfl
    · rw [if_neg (by omega)]
      have e : v3.length - i = k := by omega
      rw [e]
      exact .inr ⟨_, rfl, z, rfl⟩) big 0 ((wr (((v3 ++ ([noBytes] : List ByteArray)).length : Int) - 1)), (v3 ++ ([noBytes] : List ByteArray))) ⟨Nat.zero_le _, noBytes, by
        simp only [Nat.sub_zero, List.take_length, List.drop_length]
        rw [wr_in (by simp <;> omega) (by simp <;> omega)]
        congr 1
        first | done | simp⟩ (by rw [big_eq]; omega)
  exact ⟨z, by rw [h1, h2]⟩
theorem set_mid (a b : List ByteArray) (z x : ByteArray) (k : Nat) (h : a.length = k) : (a ++ z :: b).set k x = a ++ x :: b := by
  subst h
  rw [List.set_append_right _ _ (Nat.le_refl _), Nat.sub_self, List.set_cons_zero]
theorem rsort_eq {l : List ByteArray} (h : l.length ≤ 100000) : m_ref03_Sort l = some (sortU l) := by
  unfold m_ref03_Sort
  have := iter_fold (B := m_ref03_Sort_b0 l) (fun i d => (d, (i : Int))) l insU (fun d => d) (fun i d => d.length ≤ i) (by
    intro i d hi hd
    refine ⟨?_, by have := insU_len d l[i]; omega⟩
    simp only [m_ref03_Sort_b0]
    rw [if_pos (by omega), pos_eq hi (by omega)]
    simp only [Option.bind_some]
    have hdl := congrArg List.length (tw_dw l[i] d)
    rw [List.length_append] at hdl
    have hd1 := drop_tw l[i] d
    have hd2 := take_tw l[i] d
    generalize hk : (twB l[i] d).length = k at *
    cases hdw : dwB l[i] d with
    | nil =>
      rw [hdw] at hdl hd1
      simp only [List.length_nil] at hdl
      rw [if_neg (by omega), ap_of (by simp; omega) (by decide)]
      simp only [Option.bind_some]
      obtain ⟨z, hz⟩ := shift_eq (v3 := d) (k := k) (by omega) (by omega) (B := m_ref03_Sort_b3 (k : Int)) (fun j L => rfl)
      rw [hz]
      simp only [Option.bind_some]
      have hlen : (d.take k ++ z :: d.drop k).length = d.length + 1 := by simp; omega
      rw [ix_at hi]
      simp only [Option.bind_some]
      rw [ix_at (by omega)]
      simp only [Option.bind_some]
      rw [wr_suc (by omega)]
      have e4 : ((k : Nat) : Int).toNat = k := by omega
      rw [e4, set_mid _ _ _ _ k (by simp; omega), hd1, hd2]
      have : insU d l[i] = twB l[i] d ++ [l[i]] := by unfold insU; rw [hdw]
      rw [this]
    | cons b B =>
      rw [hdw] at hdl hd1
      simp only [List.length_cons] at hdl
      have hkd : k < d.length := by omega
      rw [if_pos (by omega), ix_at hkd, ix_at hi]
      simp only [Option.bind_some]
      have hb : d[k] = b := by
        rw [List.drop_eq_getElem_cons hkd] at hd1
        injection hd1
      rw [hb]
      by_cases hbx : b = l[i]
      · rw [if_pos hbx, wr_suc (by omega)]
        have : insU d l[i] = d := by unfold insU; rw [hdw]; exact if_pos hbx
        rw [this]
      · rw [if_neg hbx, ap_of (by simp; omega) (by decide)]
        simp only [Option.bind_some]
        obtain ⟨z, hz⟩ := shift_eq (v3 := d) (k := k) (by omega) (by omega) (B := m_ref03_Sort_b2 (k : Int)) (fun j L => rfl)
        rw [hz]
        simp only [Option.bind_some]
        have hlen : (d.take k ++ z :: d.drop k).length = d.length + 1 := by simp; omega
        rw [ix_at (by omega)]
        simp only [Option.bind_some]
        rw [wr_suc (by omega)]
        have e4 : ((k : Nat) : Int).toNat = k := by omega
        rw [e4, set_mid _ _ _ _ k (by simp; omega), hd1, hd2]
        have : insU d l[i] = twB l[i] d ++ l[i] :: b :: B := by unfold insU; rw [hdw]; exact if_neg hbx
        rw [this]) (by
    intro d hd
    simp only [m_ref03_Sort_b0]
    rw [if_neg (by omega)]) (s0 := []) (Nat.le_refl _) (fuel := big) (by rw [big_eq]; omega)
  have e0 : ((0 : Nat) : Int) = 0 := rfl
  rw [e0] at this
  rw [this.1]
  rfl
/-! ### slices.Equal, IsSorted, Contains -/
theorem equal_str {a b : List ByteArray} (h : a.length ≤ 1000000000) : m_slices_Equal_string_string a b = some (decide (a = b)) := by
  unfold m_slices_Equal_string_string
  by_cases hl : a.length = b.length
  · rw [if_pos (by omega), eqLoop hl h]
    · by_cases he : a = b <;> simp [he]
    · intro i h1 h2
      simp only [m_slices_Equal_string_string_b0]
      rw [if_pos (by omega), ix_at h1, ix_at h2]
      simp only [Option.bind_some]
      rw [wr_suc (by omega)]
    · simp only [m_slices_Equal_string_string_b0]
      rw [if_neg (by omega)]
  · rw [if_neg (by omega)]
    have : ¬ a = b := by rintro rfl; exact hl rfl
    simp [this]
theorem cless_eq (a b : ByteArray) : m_cmp_Less_string a b = some (decide (bl a < bl b)) := by
  unfold m_cmp_Less_string m_cmp_isNaN_string
  simp only [Option.bind_some, Bool.false_eq_true, if_false]
  rw [less_eq]
  by_cases h : bl a < bl b <;> simp [h]
theorem sorted_eq {l : List ByteArray} (h : Rising l) (hl : l.length ≤ 1000000) : m_slices_IsSorted_string_string l = some true := by
  unfold m_slices_IsSorted_string_string
  obtain ⟨r, h1, h2⟩ := iter_term (B := m_slices_IsSorted_string_string_b0 l) (R := fun r => r = .inl ()) (fun i t => i ≤ l.length ∧ t = (l.length : Int) - 1 - (i : Int)) l.length (by
    rintro i t ⟨hi, rfl⟩
    refine ⟨hi, ?_⟩
    simp only [m_slices_IsSorted_string_string_b0]
    by_cases h0 : 0 < (l.length : Int) - 1 - (i : Int)
    · rw [if_pos h0]
      obtain ⟨j, hj⟩ : ∃ j : Nat, (l.length : Int) - 1 - (i : Int) = ((j + 1 : Nat) : Int) := ⟨l.length - 2 - i, by omega⟩
      rw [hj, wr_in (by omega) (by omega)]
      have e1 : ((j + 1 : Nat) : Int) - 1 = (j : Int) := by omega
      rw [e1, ix_at (by omega), ix_at (by omega)]
      simp only [Option.bind_some]
      rw [cless_eq]
      have hlt : bl l[j] < bl l[j + 1] := List.pairwise_iff_getElem.1 h j (j + 1) (by omega) (by omega) (by omega)
      have hn : ¬ bl l[j + 1] < bl l[j] := fun hh => List.lt_irrefl _ (List.lt_trans hlt hh)
      simp only [Option.bind_some]
      rw [decide_eq_false hn, if_neg (by simp)]
      exact .inl ⟨_, rfl, by omega, by omega⟩
    · rw [if_neg h0]
      exact .inr ⟨_, rfl, rfl⟩) big 0 (wr ((l.length : Int) - 1)) ⟨Nat.zero_le _, by rw [wr_in (by omega) (by omega)]; simp⟩ (by rw [big_eq]; omega)
  rw [h1, h2]
  rfl
end Go.Proofs.Ytlgikchfddhocaa.AL

/- Regions that are run in the world itself: an array variable that is cut, and a text that is copied into it. -/
set_option linter.all false
namespace Go.Proofs.Ytlgikchfddhocaa.AL
open Go Go.Proofs Go.RowKit
def rawR (P : Program) : List O1 → Act → World → Act → World → Prop
  | [], a, w, a', w' => a' = a ∧ w' = w
  | o :: l, a, w, a', w' => ∃ v w1, (∀ oo : Oper, oo.op = o.op → (execOp a.eval oo).run P w = .ok (.value v) w1) ∧ rawR P l (a.put o.dst v) w1 a' w'
theorem cwp_raw {P : Program} {n : Nat} {Q : Exit → AS → Prop} {s : AS} {l : List O1} (hg : ∀ o ∈ l, o.g = none)
    (h : ∀ C E0 k0 E a, k0 ≤ s.nx → SR C E0 k0 n s a E → ∃ a' w', rawR P l a E.w a' w' ∧ ∃ s' E', Q .normal s' ∧ k0 ≤ s'.nx ∧ SR C E0 k0 n s' a' E' ∧ E'.w = w') : cwp P n (.region l) Q s := by
  intro c hc
  obtain ⟨id, ops, rfl, h1, h2⟩ := comp_region hc
  intro C E0 k0 E a hk hS
  refine wp_region_list ?_
  obtain ⟨a', w', hr, hq⟩ := h C E0 k0 E a hk hS
  have key : ∀ (l : List Oper) (xs : List O1) (a : Act) (w : World), resolveL ops l = some xs → (∀ o ∈ xs, o.g = none) → rawR P xs a w a' w' → wpList P ops (fun e a' w' => ∃ s' E', Q e s' ∧ k0 ≤ s'.nx ∧ SR C E0 k0 n s' a' E' ∧ E'.w = w') l a w := by
    intro l
    induction l with
    | nil =>
      intro xs a w hx _ hr
      simp only [resolveL, Option.some.injEq] at hx
      subst hx
      obtain ⟨rfl, rfl⟩ := hr
      exact hq
    | cons o l ih =>
      intro xs a w hx hgx hr
      simp only [resolveL] at hx
      split at hx
      · rename_i x xs' g1 g2
        injection hx with hx
        subst hx
        obtain ⟨e1, e2⟩ := resolve1_op g1
        have hgo : o.guard = none := by
          have hx0 := hgx x (by simp)
          unfold resolve1 at g1
          split at g1
          · assumption
          · split at g1
            · injection g1 with g1
              subst g1
              cases hx0
            · cases g1
        obtain ⟨v, w1, hv, hr⟩ := hr
        refine wpList_plain hgo fun K hK => ?_
        unfold Oper.wp
        rw [hv o e1.symm, Oper.upon_value, ← e2]
        exact hK _ _ (ih xs' _ _ g2 (fun o ho => hgx o (by simp [ho])) hr)
      · cases hx
  exact key _ _ _ _ h2 hg hr
theorem eval_put {a : Act} {d t : Nat} {v : Value} (hd : d < a.tmps.size) : (a.put (some d) v).eval (.tmp t) = if t = d then v else a.eval (.tmp t) := by
  show ((a.put (some d) v).tmps.getD t undef) = if t = d then v else a.tmps.getD t undef
  simp only [Act.put, Array.getD_eq_getD_getElem?]
  split
  · rename_i e; subst e; simp [hd]
  · rename_i e; rw [Array.getElem?_setIfInBounds_ne (Ne.symm e)]
/-- A text's bytes, in a row. -/
theorem run_copy_str {P : Program} (w : World) (dT sT ty elem : TypeId) (g o dLen dCap : Nat) (x : ByteArray) (cur : Array Value) (t : TypeId)
    (hu : P.underlying dT = some (.slice elem)) (hs : (P.info? elem).map (·.size) = some 1) (hg : w.heap[g]? = some (.cells cur t (0, 0))) (hx : x.size ≤ dLen) (hfit : o + x.size ≤ cur.size) :
    (Builtin.copy_ #[dT, sT] ty #[.slice (some ⟨g, o, none⟩) dLen dCap, .string x]).run P w = .ok (goInt x.size) (w.setRow g (cur.toList.take o ++ (x.data.toList.map fun b => Value.int .u8 b.toNat) ++ cur.toList.drop (o + x.size)).toArray) := by
  have hl : (x.data.toList.map fun b => Value.int .u8 b.toNat).length = x.size := by simp
  have hst := run_storeCells_at P g o t (x.data.toList.map fun b => Value.int .u8 b.toNat) 0 cur w hg (by rw [hl]; simpa using hfit) (fun v hv => by obtain ⟨b, _, rfl⟩ := List.mem_map.1 hv; rfl)
  rw [hl] at hst
  simp only [Nat.add_zero] at hst
  cases hq : P.info? elem with
  | none => simp [hq] at hs
  | some i =>
    have hi : i.size = 1 := by simpa [hq] using hs
    have hm : Nat.min x.size dLen = x.size := Nat.min_eq_left hx
    have he : ((x.extract 0 x.size).data.map fun b => Value.int .u8 b.toNat).toList = x.data.toList.map fun b => Value.int .u8 b.toNat := by
      rw [ByteArray.extract_zero_size]
      simp
    simp [Builtin.copy_, run_underlying hu, Builtin.lenOf, Builtin.firstCells, sizeOf, typeInfo, hq, hm]
    rw [List.take_of_length_le (by rw [hl]; exact Nat.le_refl _), hst]
    simp
/-! ### an array variable of bytes, cut from its second element on; a text is copied into it -/
theorem cut_copy {P : Program} {n : Nat} {Q : Exit → AS → Prop} {s : AS} {T5 T9 T25 T59 len l : Nat} {r i j k m : Nat} {x : ByteArray} {cs : List AV} (hn : r < n ∧ i < n ∧ j < n ∧ k < n ∧ m < n) (hd : i ≠ r ∧ i ≠ j ∧ i ≠ k ∧ j ≠ k ∧ j ≠ i)
    (hA : P.underlying T59 = some (.array (P.arrayLen T59) (P.elem T59))) (hAl : P.arrayLen T59 = len + 1) (hAe : (P.info? (P.elem T59)).map (·.size) = some 1) (hS : P.underlying T25 = some (.slice T5)) (hE : (P.info? T5).map (·.size) = some 1)
    (h3 : s.T r = .loc l (len + 1) 0 0) (h0 : s.T j = str x) (hH : s.H l = some (.row T59 (len + 1) [.agg cs])) (hcs : cs.length = len + 1) (hx : x.size ≤ len) (hpos : 0 < len)
    (hQ : ∀ v, Q .normal ⟨upd (upd (upd s.T i .junk) k (str x)) m v, upd s.H l (some (.row T59 (len + 1) [.agg (cs.take 1 ++ (x.data.toList.map u8 ++ cs.drop (1 + x.size)))])), s.nx⟩) :
    cwp P n (.region [⟨.slice T59 (.tmp r) (some (.const (Value.int .i64 1))) none none, some i, none⟩, ⟨.move (.tmp j), some k, none⟩, ⟨.call (Go.Call.mk (.builtin .copy) #[.tmp i, .tmp k] #[T25, T9]), some m, none⟩]) Q s := by
  refine cwp_raw (by simp) fun C E0 k0 E a hk hSR => ?_
  obtain ⟨n1, n2, n3, n4, n5⟩ := hn
  obtain ⟨d1, d2, d3, d4, d5⟩ := hd
  have hsz := hSR.size
  obtain ⟨p, hp, ho⟩ := hSR.heap.live hH
  cases p with
  | none => simp only [ORep] at ho; cases ho
  | some bc =>
  obtain ⟨b, c⟩ := bc
  simp only [ORep] at ho
  obtain ⟨cur, us, h1, h2, h3', h4, h5, h6, h7⟩ := ho
  simp only [VReps, VRep] at h2
  obtain ⟨u, us', ⟨vs, hvs, rfl⟩, rfl, rfl⟩ := h2
  have hvl := hvs.length
  have hc1 : 1 ≤ c := by simpa using h4
  have hcur : len + 1 ≤ cur.size := by rw [h6]; exact Nat.le_mul_of_pos_left _ hc1
  have htk : cur.toList.take (len + 1) = vs := by simpa [flatV, Value.cells] using h7
  have er : a.eval (.tmp r) = .pointer (some ⟨b, 0, none⟩) := by
    have := hSR.tmps r
    rw [h3] at this
    simp only [VRep] at this
    obtain ⟨b0, _, g1, g2⟩ := this
    rw [g2 b c hp] at g1
    show a.tmps.getD r undef = _
    rw [g1]
    simp
  have ej : a.eval (.tmp j) = .string x := by
    have := hSR.tmps j
    rw [h0] at this
    simp only [VRep] at this
    exact this
  obtain ⟨a1, ha1⟩ : ∃ a1, a1 = a.put (some i) (.slice (some ⟨b, 1, none⟩) len len) := ⟨_, rfl⟩
  obtain ⟨a2, ha2⟩ : ∃ a2, a2 = a1.put (some k) (.string x) := ⟨_, rfl⟩
  have hsz1 : a1.tmps.size = n := by rw [ha1, put_size, hsz]
  have hsz2 : a2.tmps.size = n := by rw [ha2, put_size, hsz1]
  have e1j : a1.eval (.tmp j) = .string x := by rw [ha1, eval_put (a := a) (d := i) (by omega), if_neg (by omega), ej]
  have e2i : a2.eval (.tmp i) = .slice (some ⟨b, 1, none⟩) len len := by rw [ha2, eval_put (a := a1) (d := k) (by omega), if_neg d3, ha1, eval_put (a := a) (d := i) (by omega), if_pos rfl]
  have e2k : a2.eval (.tmp k) = .string x := by rw [ha2, eval_put (a := a1) (d := k) (by omega), if_pos rfl]
  have hbl : (x.data.toList.map fun b => Value.int .u8 b.toNat).length = x.size := by simp
  obtain ⟨w', hw'⟩ : ∃ w', w' = E.w.setRow b (cur.toList.take 1 ++ (x.data.toList.map fun b => Value.int .u8 b.toNat) ++ cur.toList.drop (1 + x.size)).toArray := ⟨_, rfl⟩
  have r1 : ∀ oo : Oper, oo.op = .slice T59 (.tmp r) (some (.const (Value.int .i64 1))) none none → (execOp a.eval oo).run P E.w = .ok (.value (.slice (some ⟨b, 1, none⟩) len len)) E.w := by
    intro oo hoo
    have := run_sliceAt_array_l (P := P) E.w T59 ⟨b, 0, none⟩ hA .i64 1 (by omega) (by rw [hAl]; omega)
    cases hq : P.info? (P.elem T59) with
    | none => rw [hq] at hAe; cases hAe
    | some inf =>
      have hi : inf.size = 1 := by rw [hq] at hAe; simpa using hAe
      have hs : (sizeOf (P.elem T59)).run P E.w = .ok 1 E.w := by simp [sizeOf, typeInfo, hq, hi]
      rw [hs, hAl] at this
      have hc1 : a.eval (.const (.int .i64 1)) = .int .i64 1 := rfl
      have hl0 : ¬ len = 0 := by omega
      simp [execOp, hoo, er, hc1, this, slicedAt, Addr.add, hl0]
  have r3 : ∀ oo : Oper, oo.op = .call (Go.Call.mk (.builtin .copy) #[.tmp i, .tmp k] #[T25, T9]) → (execOp a2.eval oo).run P E.w = .ok (.value (goInt x.size)) w' := by
    intro oo hoo
    have := run_copy_str (P := P) E.w T25 T9 oo.type T5 b 1 len len x cur T59 hS hE h1 hx (by omega)
    simp [execOp, hoo, resolve, invoke, builtin, e2i, e2k, this, hw']
  have r2 : ∀ oo : Oper, oo.op = .move (.tmp j) → (execOp a1.eval oo).run P E.w = .ok (.value (.string x)) E.w := by
    intro oo hoo
    simp only [execOp, hoo, e1j]
    rfl
  have hraw : rawR P [⟨.slice T59 (.tmp r) (some (.const (Value.int .i64 1))) none none, some i, none⟩, ⟨.move (.tmp j), some k, none⟩, ⟨.call (Go.Call.mk (.builtin .copy) #[.tmp i, .tmp k] #[T25, T9]), some m, none⟩] a E.w (a2.put (some m) (goInt x.size)) w' := by
    subst ha2
    subst ha1
    exact ⟨_, E.w, r1, _, E.w, r2, _, w', r3, rfl, rfl⟩
  have honly : Only E.w w' b := by rw [hw']; exact Only.setRow E.w b _
  have hst := Env.only_stab hSR.heap hp honly
  have hcl : cur.toList = vs ++ cur.toList.drop (len + 1) := by rw [← htk, List.take_append_drop]
  have hvs' : VReps { E with w := w' } (cs.take 1 ++ (x.data.toList.map u8 ++ cs.drop (1 + x.size))) (vs.take 1 ++ ((x.data.toList.map fun b => Value.int .u8 b.toNat) ++ vs.drop (1 + x.size))) := by
    refine VReps.append (VReps.stab hst _ _ (hvs.take 1)) (VReps.append ?_ (VReps.stab hst _ _ (hvs.drop _)))
    generalize x.data.toList = l
    induction l with
    | nil => exact .nil
    | cons y l ih => exact .cons (by simp only [u8, VRep]) ih
  have hone : ∀ v ∈ vs, v.oneCell' = true := fun v hv => (h3' (.agg vs.toArray) (by simp)).2 v (by simpa [Value.cells] using hv)
  have hvl' : vs.length = len + 1 := by rw [hvl, hcs]
  have hnl : (vs.take 1 ++ ((x.data.toList.map fun b => Value.int .u8 b.toNat) ++ vs.drop (1 + x.size))).length = len + 1 := by
    rw [List.length_append, List.length_append, hbl, List.length_take, List.length_drop]
    omega
  have hcur' : (cur.toList.take 1 ++ (x.data.toList.map fun b => Value.int .u8 b.toNat) ++ cur.toList.drop (1 + x.size)) = (vs.take 1 ++ ((x.data.toList.map fun b => Value.int .u8 b.toNat) ++ vs.drop (1 + x.size))) ++ cur.toList.drop (len + 1) := by
    have q1 : cur.toList.take 1 = vs.take 1 := by
      conv => lhs; rw [hcl]
      rw [List.take_append_of_le_length (by omega)]
    have q2 : cur.toList.drop (1 + x.size) = vs.drop (1 + x.size) ++ cur.toList.drop (len + 1) := by
      conv => lhs; rw [hcl]
      rw [List.drop_append_of_le_length (by omega)]
    rw [q1, q2]
    simp
  have hrep : ORep { E with w := w' } (some (b, c)) (.row T59 (len + 1) [.agg (cs.take 1 ++ (x.data.toList.map u8 ++ cs.drop (1 + x.size)))]) := by
    simp only [ORep]
    refine ⟨(cur.toList.take 1 ++ (x.data.toList.map fun b => Value.int .u8 b.toNat) ++ cur.toList.drop (1 + x.size)).toArray, [.agg (vs.take 1 ++ ((x.data.toList.map fun b => Value.int .u8 b.toNat) ++ vs.drop (1 + x.size))).toArray], ?_, ?_, ?_, hc1, h5, ?_, ?_⟩
    · show w'.heap[b]? = _
      rw [hw']
      exact setRow_heap E.w b cur _ T59 (0, 0) h1
    · exact .cons (by simp only [VRep]; exact ⟨_, hvs', rfl⟩) .nil
    · intro u hu
      obtain rfl : u = _ := by simpa using hu
      refine ⟨by simpa [Value.cells] using hnl, fun v hv => ?_⟩
      simp only [Value.cells, List.toList_toArray, List.mem_append, List.mem_map] at hv
      rcases hv with hv | ⟨y, _, rfl⟩ | hv
      · exact hone v (List.mem_of_mem_take hv)
      · rfl
      · exact hone v (List.mem_of_mem_drop hv)
    · rw [hcur']
      simp only [List.size_toArray]
      rw [List.length_append, hnl, List.length_drop]
      simp only [Array.length_toList]
      omega
    · rw [hcur']
      simp only [List.length_cons, List.length_nil, Nat.zero_add, Nat.one_mul]
      rw [List.take_append_of_le_length (by omega), List.take_of_length_le (by omega)]
      simp [flatV, Value.cells]
  have t0 : ∀ t, VRep { E with w := w' } (s.T t) (a.tmps.getD t undef) := fun t => (hSR.tmps t).stab hst
  have t1 := put_tmps t0 hsz (d := some i) (by rintro y ⟨⟩; exact n2) (v := .junk) (u := .slice (some ⟨b, 1, none⟩) len len) (by simp only [VRep])
  have t2 := put_tmps t1 (by rw [put_size, hsz]) (d := some k) (by rintro y ⟨⟩; exact n4) (v := str x) (u := .string x) (by simp only [VRep])
  have t3 := put_tmps t2 (by rw [put_size, put_size, hsz]) (d := some m) (by rintro y ⟨⟩; exact n5) (v := int x.size) (u := goInt x.size) (by simp only [VRep]; rfl)
  refine ⟨_, _, hraw, ⟨upd (upd (upd s.T i .junk) k (str x)) m (int x.size), upd s.H l (some (.row T59 (len + 1) [.agg (cs.take 1 ++ (x.data.toList.map u8 ++ cs.drop (1 + x.size)))])), s.nx⟩, { E with w := w' }, hQ _, hk, ⟨hSR.heap.only hp honly _ hrep, hSR.stab.trans hst, hSR.bound, hSR.fresh, ?_, ?_, ?_⟩, rfl⟩
  · rw [put_size, hsz2]
  · rw [put_defers, ha2, put_defers, ha1, put_defers, hSR.defers]
  · subst ha2
    subst ha1
    exact t3
/-- The array variable as a whole, cut: it is given up. -/
theorem cut_all {P : Program} {n : Nat} {Q : Exit → AS → Prop} {s : AS} {T59 len l : Nat} {r i j : Nat} {bs : List UInt8} (hn : r < n ∧ i < n ∧ j < n)
    (hA : P.underlying T59 = some (.array (P.arrayLen T59) (P.elem T59))) (hAl : P.arrayLen T59 = len) (hAe : (P.info? (P.elem T59)).map (·.size) = some 1) (hpos : 0 < len)
    (h3 : s.T r = .loc l len 0 0) (hH : s.H l = some (.row T59 len [.agg (bs.map u8)])) (hcs : bs.length = len)
    (hQ : Q .normal ⟨upd (upd s.T i (.sl 1 (bs.map u8))) j (.sl 1 (bs.map u8)), upd s.H l none, s.nx⟩) :
    cwp P n (.region [⟨.slice T59 (.tmp r) none none none, some i, none⟩, ⟨.assign (.tmp i), some j, none⟩]) Q s := by
  refine cwp_raw (by simp) fun C E0 k0 E a hk hSR => ?_
  obtain ⟨n1, n2, n3⟩ := hn
  have hsz := hSR.size
  obtain ⟨p, hp, ho⟩ := hSR.heap.live hH
  cases p with
  | none => simp only [ORep] at ho; cases ho
  | some bc =>
  obtain ⟨b, c⟩ := bc
  simp only [ORep] at ho
  obtain ⟨cur, us, h1, h2, h3', h4, h5, h6, h7⟩ := ho
  simp only [VReps, VRep] at h2
  obtain ⟨u, us', ⟨vs, hvs, rfl⟩, rfl, rfl⟩ := h2
  have hvl := hvs.length
  rw [List.length_map, hcs] at hvl
  have htk : cur.toList.take len = vs := by simpa [flatV, Value.cells] using h7
  have er : a.eval (.tmp r) = .pointer (some ⟨b, 0, none⟩) := by
    have := hSR.tmps r
    rw [h3] at this
    simp only [VRep] at this
    obtain ⟨b0, _, g1, g2⟩ := this
    rw [g2 b c hp] at g1
    show a.tmps.getD r undef = _
    rw [g1]
    simp
  have r1 : ∀ oo : Oper, oo.op = .slice T59 (.tmp r) none none none → (execOp a.eval oo).run P E.w = .ok (.value (.slice (some ⟨b, 0, none⟩) len len)) E.w := by
    intro oo hoo
    have := run_sliceAt_array_all (P := P) E.w T59 ⟨b, 0, none⟩ hA
    cases hq : P.info? (P.elem T59) with
    | none => rw [hq] at hAe; cases hAe
    | some inf =>
      have hi : inf.size = 1 := by rw [hq] at hAe; simpa using hAe
      have hs : (sizeOf (P.elem T59)).run P E.w = .ok 1 E.w := by simp [sizeOf, typeInfo, hq, hi]
      rw [hs, hAl] at this
      simp [execOp, hoo, er, this, slicedAt, Addr.add]
  obtain ⟨a1, ha1⟩ : ∃ a1, a1 = a.put (some i) (.slice (some ⟨b, 0, none⟩) len len) := ⟨_, rfl⟩
  have hsz1 : a1.tmps.size = n := by rw [ha1, put_size, hsz]
  have e1 : a1.eval (.tmp i) = .slice (some ⟨b, 0, none⟩) len len := by rw [ha1, eval_put (a := a) (d := i) (by omega), if_pos rfl]
  have hraw : rawR P [⟨.slice T59 (.tmp r) none none none, some i, none⟩, ⟨.assign (.tmp i), some j, none⟩] a E.w (a1.put (some j) (.slice (some ⟨b, 0, none⟩) len len)) E.w := by
    have r2 : ∀ oo : Oper, oo.op = .assign (.tmp i) → (execOp a1.eval oo).run P E.w = .ok (.value (.slice (some ⟨b, 0, none⟩) len len)) E.w := by
      intro oo hoo
      simp only [execOp, hoo, e1]
      rfl
    subst ha1
    exact ⟨_, E.w, r1, _, E.w, r2, rfl, rfl⟩
  have hst := Env.kill_stab E l
  have hv : VRep (E.kill l) (.sl 1 (bs.map u8)) (.slice (some ⟨b, 0, none⟩) len len) := by
    simp only [VRep]
    refine ⟨vs, some ⟨b, 0, none⟩, len, VReps.stab hst _ _ hvs, by rw [List.length_map, hcs], by rw [List.length_map, hcs]; exact Nat.le_refl _, .inr ⟨b, 0, rfl, .inr ⟨c, hp⟩, fun q u hu => ?_⟩⟩
    obtain ⟨y, hy, hyr⟩ := hvs.get' q u hu
    have hone := hyr.one_cells (by
      obtain ⟨z, _, rfl⟩ : ∃ z, z ∈ bs ∧ u8 z = y := by simpa using List.mem_of_getElem? hy
      rfl)
    refine ⟨by rw [hone.2.1]; rfl, fun v hv => by rw [hone.2.1] at hv; simp at hv; rw [hv]; exact hone.1, fun q2 v hq2 => ?_⟩
    rw [hone.2.1] at hq2
    have hq0 : q2 = 0 := by
      have := (Array.getElem?_eq_some_iff.1 hq2).1
      simpa using this
    subst hq0
    obtain rfl : u = v := by simpa using hq2
    show E.w.cell? _ = _
    rw [cell_of_row E.w b _ cur T59 (0, 0) h1]
    have : (cur.toList.take len)[q]? = some u := by rw [htk]; exact hu
    rw [List.getElem?_take] at this
    split at this
    · simpa using this
    · cases this
  have t0 : ∀ t, VRep (E.kill l) (s.T t) (a.tmps.getD t undef) := fun t => (hSR.tmps t).stab hst
  have t1 := put_tmps t0 hsz (d := some i) (by rintro y ⟨⟩; exact n2) (v := .sl 1 (bs.map u8)) (u := .slice (some ⟨b, 0, none⟩) len len) hv
  have t2 := put_tmps t1 (by rw [put_size, hsz]) (d := some j) (by rintro y ⟨⟩; exact n3) (v := .sl 1 (bs.map u8)) (u := .slice (some ⟨b, 0, none⟩) len len) hv
  refine ⟨_, _, hraw, ⟨upd (upd s.T i (.sl 1 (bs.map u8))) j (.sl 1 (bs.map u8)), upd s.H l none, s.nx⟩, E.kill l, hQ, hk, ⟨hSR.heap.kill l, hSR.stab.trans hst, hSR.bound, hSR.fresh, ?_, ?_, ?_⟩, rfl⟩
  · rw [put_size, hsz1]
  · rw [put_defers, ha1, put_defers, hSR.defers]
  · subst ha1
    exact t2
end Go.Proofs.Ytlgikchfddhocaa.AL

/- name.Pack: a name's bytes, in an array variable. -/
set_option linter.all false
set_option maxRecDepth 100000
namespace Go.Proofs.Ytlgikchfddhocaa.AL
open Go Go.Proofs
def packB (x : ByteArray) : List UInt8 := wB x.size :: (x.data.toList ++ List.replicate (13 - x.size) 0)
def m_name_Pack (a0 : ByteArray) : Option (List UInt8) := (m_name_Right a0).bind fun v1 => if (!v1) = true then some [] else (ck (a0.size ≤ 13)).bind fun _ => some (packB a0)
def c_packT : AC := (.seq (.region [⟨.slice 59 (.tmp 3) (some (.const (Value.int .i64 1))) none none, some 11, none⟩,
  ⟨.move (.tmp 0), some 12, none⟩,
  ⟨.call (Go.Call.mk (.builtin .copy) #[.tmp 11, .tmp 12] #[25, 9]), some 13, none⟩])
 (.seq (.region [⟨.slice 59 (.tmp 3) none none none, some 14, none⟩,
  ⟨.assign (.tmp 14), some 2, none⟩])
 .ret))
theorem packT {Q : Exit → AS → Prop} {T : Nat → AV} {H : Nat → Option AO} {nx l : Nat} {x : ByteArray} (h0 : T 0 = str x) (h3 : T 3 = .loc l 14 0 0) (hH : H l = some (.row 59 14 [.agg (u8 (wB x.size) :: List.replicate 13 (u8 0))])) (hx : x.size ≤ 13)
    (hQ : ∀ s : AS, s.T 2 = .sl 1 ((packB x).map u8) → Q .ret s) : cwp Try.prog 15 c_packT Q ⟨T, H, nx⟩ := by
  unfold c_packT
  refine cwp_seq fun K hK => cut_copy (T5 := 5) (len := 13) (l := l) (x := x) (cs := u8 (wB x.size) :: List.replicate 13 (u8 0)) (by omega) (by omega) (by kernel_rfl) (by kernel_rfl) (by kernel_rfl) (by kernel_rfl) (by kernel_rfl) h3 h0 hH (by simp) hx (by omega) fun v => hK _ ?_
  have e : (u8 (wB x.size) :: List.replicate 13 (u8 0)).take 1 ++ (x.data.toList.map u8 ++ (u8 (wB x.size) :: List.replicate 13 (u8 0)).drop (1 + x.size)) = (packB x).map u8 := by
    unfold packB
    rw [List.map_cons, List.map_append, List.map_replicate, Nat.add_comm 1 x.size, List.drop_succ_cons, List.drop_replicate]
    rfl
  rw [e]
  refine cwp_seq fun K2 hK2 => cut_all (len := 14) (l := l) (bs := packB x) (by omega) (by kernel_rfl) (by kernel_rfl) (by kernel_rfl) (by omega) ?_ ?_ ?_ (hK2 _ (cwp_ret (hQ _ ?_)))
  · simp only [upd_at]
    exact h3
  · simp only [upd_at, if_true]
  · unfold packB
    simp
    have : x.data.toList.length = x.size := by simp
    omega
  · simp only [upd_at, if_true]
theorem c_name_Pack_eq : c_name_Pack = (.seq (.region [⟨.assign (.const (Value.slice none 0 0)), some 2, none⟩])
 (.seq (.seq (.region [⟨.move (.tmp 0), some 4, none⟩,
  ⟨.call (Go.Call.mk (.value (.func 9)) #[.tmp 4] #[9]), some 5, none⟩,
  ⟨.unOp .not 4 (.tmp 5), some 6, none⟩])
 (.cond (.tmp 6) (.seq (.region [⟨.assign (.const (Value.slice none 0 0)), some 2, none⟩])
 .ret)
 .skip))
 (.seq (.region [⟨.alloc 59, some 3, none⟩])
 (.seq (.region [⟨.move (.tmp 0), some 7, none⟩,
  ⟨.call (Go.Call.mk (.builtin .len) #[.tmp 7] #[9]), some 8, none⟩,
  ⟨.convert 3 5 (.tmp 8), some 9, none⟩,
  ⟨.indexAddr 59 (.tmp 3) (.const (Value.int .i64 0)), some 10, none⟩,
  ⟨.store 5 (.tmp 10) (.tmp 9), none, none⟩])
 c_packT)))) := rfl
theorem ok_name_Pack (a0 : ByteArray) (r : List UInt8) (hm0 : m_name_Pack a0 = some r) : Ok Try.prog 12 [str a0] (.sl 1 (r.map u8)) := by
  unfold m_name_Pack at hm0
  refine ok_of_acall' (acall fc_name_Pack (by simp) fun Q hr hn => ?_)
  rw [c_name_Pack_eq]
  refine cwp_seq fun K0 hK0 => cw_cwp _ ?_
  simp only [EV, R9, R5, R59, R25, ↓EVd, isCall, sevalprocAttr]
  refine hK0 _ (cwp_seq fun K1 hK1 => cw_cwp _ ?_)
  obtain ⟨v1, h2, hm0⟩ := bsE hm0
  simp only [EV, R9, R5, R59, R25, ↓EVd, isCall, sevalprocAttr]
  refine qc (ok_name_Right _ _ h2) rfl ?_
  rcases itbE hm0 with ⟨e3, hm0⟩ | ⟨e3, hm0⟩
  · obtain rfl := Option.some.inj hm0
    simp only [e3, EV, R9, R5, R59, R25, ↓EVd, isCall, sevalprocAttr]
    refine hr _ ?_
    simp only [e3, EV, R9, R5, R59, R25, ↓EVd, isCall, sevalprocAttr]
    exact frzR_sub (by simp only [CLO]) (Sub.nilS _)
  · obtain ⟨e4, hm0⟩ := ckE hm0
    obtain rfl := Option.some.inj hm0
    have e5 : convE Try.prog 3 5 (int (a0.size : Int)) = some (ik .u8 (IntKind.u8.wrap (a0.size : Int)), []) := conv_int _ (by kernel_rfl) (by kernel_rfl)
    have e6 : (AV.val (.int .u8 (IntKind.u8.wrap (a0.size : Int)))) = u8 (wB a0.size) := u8w _
    simp only [e3, e5, e6, EV, R9, R5, R59, R25, ↓EVd, isCall, sevalprocAttr]
    refine hK1 _ (cwp_seq fun K2 hK2 => cw_cwp _ ?_)
    simp only [e3, e5, e6, EV, R9, R5, R59, R25, ↓EVd, isCall, sevalprocAttr]
    refine hK2 _ (cwp_seq fun K3 hK3 => cw_cwp _ ?_)
    simp only [e3, e5, e6, EV, R9, R5, R59, R25, ↓EVd, isCall, sevalprocAttr]
    refine hK3 _ (packT (l := 4) (x := a0) ?_ ?_ ?_ e4 fun s hs => hr _ ?_)
    · simp only [e6, EV, R9, R5, R59, R25, ↓EVd, isCall, sevalprocAttr]
    · simp only [e6, EV, R9, R5, R59, R25, ↓EVd, isCall, sevalprocAttr]
    · simp only [e6, EV, R9, R5, R59, R25, ↓EVd, isCall, sevalprocAttr]
      first | done | rfl
    · obtain ⟨T, H, nx⟩ := s
      rw [retR_one]
      simp only at hs
      rw [hs]
      exact frzR_closed (by simp only [CLO])
end Go.Proofs.Ytlgikchfddhocaa.AL

/- Models of functions, and that the functions are as their models: written by gen.py. -/
set_option linter.all false
set_option maxRecDepth 100000
namespace Go.Proofs.Ytlgikchfddhocaa.AL
open Go Go.Proofs
def m_bytes_Equal (a0 : List UInt8) (a1 : List UInt8) : Option (Bool) := if (ofBytes a0) = (ofBytes a1) then some true
 else some false
def Y_bytes_Equal := And.intro (And.intro ((@EV)) ((@R5))) (And.intro ((@R9)) ((@R25)))
set_option maxHeartbeats 2000000 in
theorem ok_bytes_Equal (a0 : List UInt8) (a1 : List UInt8) (r : Bool) (hm0 : m_bytes_Equal a0 a1 = some r) : Ok Try.prog 11 [.sl 1 (a0.map u8), .sl 1 (a1.map u8)] (bool r) := by
 unfold m_bytes_Equal at hm0
 refine okG fc_bytes_Equal ?_
 unfold c_bytes_Equal
 have e1 : convE Try.prog 25 9 (.sl 1 (a0.map u8)) = some (str (ofBytes a0), []) := conv_bytes _ (e := 5) (by kernel_rfl) (by kernel_rfl) (by kernel_rfl)
 have e2 : convE Try.prog 25 9 (.sl 1 (a1.map u8)) = some (str (ofBytes a1), []) := conv_bytes _ (e := 5) (by kernel_rfl) (by kernel_rfl) (by kernel_rfl)
 rcases iteE hm0 with ⟨e4, hm0⟩ | ⟨e4, hm0⟩
 · obtain rfl := Option.some.inj hm0
   simp only [e1, e2, e4, Y_bytes_Equal, ↓EVd, isCall, sevalprocAttr]
   all_goals first | done | rfl
 obtain rfl := Option.some.inj hm0
 simp only [e1, e2, e4, Y_bytes_Equal, ↓EVd, isCall, sevalprocAttr]
 all_goals first | done | rfl
def m_ref03_Pack_b0 (a0 : ByteArray) : (List UInt8 × Int) → Option (St (List UInt8 × Int) (List UInt8))
 | (v9, v10) => if v10 < 13 then if v10 < (a0.size : Int) then (ixB a0 v10).bind fun v18 => (ap 1 v9 ([v18] : List UInt8)).bind fun _ => some (.nx ((v9 ++ ([v18] : List UInt8)), (wr (v10 + 1))))
 else (ap 1 v9 ([(0 : UInt8)] : List UInt8)).bind fun _ => some (.nx ((v9 ++ ([(0 : UInt8)] : List UInt8)), (wr (v10 + 1))))
 else some (.out v9)
def m_ref03_Pack (a0 : ByteArray) : Option (List UInt8) := (m_ref03_Right a0).bind fun v1 => if (!v1) = true then some []
 else (iter (m_ref03_Pack_b0 a0) big (([(wB (a0.size : Int))] : List UInt8), 0)).bind fun o => (match o with
 | v13 => some v13)
def Y_ref03_Pack := And.intro (And.intro ((@EV)) ((@R3))) (And.intro ((@R5)) (And.intro ((@R9)) ((@R25))))
set_option maxHeartbeats 2000000 in
theorem ok_ref03_Pack (a0 : ByteArray) (r : List UInt8) (hm0 : m_ref03_Pack a0 = some r) : Ok Try.prog 13 [str a0] (.sl 1 (r.map u8)) := by
 unfold m_ref03_Pack at hm0
 refine okG fc_ref03_Pack ?_
 unfold c_ref03_Pack
 obtain ⟨v1, h2, hm0⟩ := bsE hm0
 simp only [Y_ref03_Pack, ↓EVd, isCall, sevalprocAttr]
 refine qc (ok_ref03_Right _ _ h2) rfl ?_
 rcases itbE hm0 with ⟨e4, hm0⟩ | ⟨e4, hm0⟩
 · obtain rfl := Option.some.inj hm0
   simp only [e4, Y_ref03_Pack, ↓EVd, isCall, sevalprocAttr]
   all_goals first | done | rfl | exact frzR_sub (by simp only [CLO]) (Sub.nilS _)
 have e5 : convE Try.prog 3 5 (int (a0.size : Int)) = some (ik .u8 (IntKind.u8.wrap (a0.size : Int)), []) := conv_int _ (by kernel_rfl) (by kernel_rfl)
 have e6 : (AV.val (.int .u8 (IntKind.u8.wrap (a0.size : Int)))) = u8 (wB (a0.size : Int)) := u8w _
 obtain ⟨o0, ho0, hm0⟩ := bsE hm0
 simp only [e4, e5, e6, Y_ref03_Pack, ↓EVd, isCall, sevalprocAttr]
 refine cwp_cx 0 (fun s => ∃ v13 : List UInt8, ∃ l12 : Nat, (s.T 3 = .msl l12 v13.length ∧ s.H l12 = some (.row 5 1 (v13.map u8)) ∧ Lq l12 s.nx) ∧ v13 = o0) ?_ fun J0_0 hJ0_0 => ?_
 · rintro T0 H0 x11 ⟨v13, l12, kk0_0, rfl⟩
   dsimp only [Lq, Nq] at kk0_0
   try dsimp only at hm0
   obtain rfl := Option.some.inj hm0
   simp only [kk0_0, e4, e5, e6, Y_ref03_Pack, ↓EVd, isCall, sevalprocAttr]
   all_goals first | done | rfl | exact frzR_e (by simp only [kk0_0, e4, e5, e6, FZ, CLO, Y_ref03_Pack, ↓EVd, isCall, sevalprocAttr])
 refine cwp_lp ho0 (fun (v9, v10) s => ∃ l8 : Nat, s.T 0 = str a0 ∧ s.T 3 = .msl l8 v9.length ∧ s.T 4 = int v10 ∧ s.H l8 = some (.row 5 1 (v9.map u8)) ∧ Lq l8 s.nx) ?_ ?_
 · refine TI.here ⟨7, ?_, ?_, ?_, ?_, ?_⟩
   all_goals try simp only [e4, e5, e6, Y_ref03_Pack, ↓EVd, isCall, sevalprocAttr]
   all_goals first | omega | exact lq (by omega) | exact nq (by omega) | rfl | (congr 1; omega)
 rintro I0 ⟨v9, v10⟩ T0 H0 x7 st0 ⟨l8, kk0⟩ hm1 hI0 hO0
 dsimp only [Lq, Nq] at kk0
 simp only [m_ref03_Pack_b0] at hm1
 rcases iteE hm1 with ⟨e15, hm1⟩ | ⟨e15, hm1⟩
 · rcases iteE hm1 with ⟨e17, hm1⟩ | ⟨e17, hm1⟩
   · obtain ⟨v18, e20, hm1⟩ := ixBE hm1
     obtain ⟨e23, hm1⟩ := apE hm1
     try simp only [ZL] at e23
     obtain rfl := Option.some.inj hm1
     simp only [kk0, e4, e5, e6, e15, e17, e20, e23, Y_ref03_Pack, ↓EVd, isCall, sevalprocAttr]
     refine TI.here (hI0 _ rfl _ ⟨(x7 + 11), ?_, ?_, ?_, ?_, ?_⟩)
     all_goals try simp only [kk0, e4, e5, e6, e15, e17, e20, e23, Y_ref03_Pack, ↓EVd, isCall, sevalprocAttr]
     all_goals first | omega | exact lq (by omega) | exact nq (by omega) | rfl | (congr 1; omega)
   have e25 : (AV.val (.int .u8 0)) = u8 (0 : UInt8) := _root_.id rfl
   obtain ⟨e28, hm1⟩ := apE hm1
   try simp only [ZL] at e28
   obtain rfl := Option.some.inj hm1
   simp only [kk0, e4, e5, e6, e15, e17, e25, e28, Y_ref03_Pack, ↓EVd, isCall, sevalprocAttr]
   refine TI.here (hI0 _ rfl _ ⟨(x7 + 8), ?_, ?_, ?_, ?_, ?_⟩)
   all_goals try simp only [kk0, e4, e5, e6, e15, e17, e25, e28, Y_ref03_Pack, ↓EVd, isCall, sevalprocAttr]
   all_goals first | omega | exact lq (by omega) | exact nq (by omega) | rfl | (congr 1; omega)
 obtain rfl := Option.some.inj hm1
 simp only [kk0, e4, e5, e6, e15, Y_ref03_Pack, ↓EVd, isCall, sevalprocAttr]
 refine TI.here (hJ0_0 _ ⟨v9, l8, ⟨?_, ?_, ?_⟩, hO0 _ rfl⟩)
 all_goals try simp only [kk0, e4, e5, e6, e15, Y_ref03_Pack, ↓EVd, isCall, sevalprocAttr]
 all_goals first | omega | exact lq (by omega) | exact nq (by omega) | rfl | (congr 1; omega)
def m_name_Unpack (a0 : List UInt8) : Option (ByteArray × Bool) := if (a0.length : Int) = 14 then (ix a0 0).bind fun v3 => if 12 < (v3.toNat : Int) then some (noBytes, false)
 else (slM a0 (some 1) (some (IntKind.u8.wrap (1 + (v3.toNat : Int))))).bind fun v8 => (m_name_Right (ofBytes v8)).bind fun v12 => if (!v12) = true then some (noBytes, false)
 else (m_name_Pack (ofBytes v8)).bind fun v16 => (m_bytes_Equal v16 a0).bind fun v18 => if (!v18) = true then some (noBytes, false)
 else some ((ofBytes v8), true)
 else some (noBytes, false)
def Y_name_Unpack := And.intro (And.intro ((@EV)) ((@R3))) (And.intro ((@R5)) (And.intro ((@R9)) ((@R25))))
set_option maxHeartbeats 2000000 in
theorem ok_name_Unpack (a0 : List UInt8) (r : ByteArray × Bool) (hm0 : m_name_Unpack a0 = some r) : Ok Try.prog 14 [.sl 1 (a0.map u8)] (.tup [str r.1, bool r.2]) := by
 unfold m_name_Unpack at hm0
 refine okG fc_name_Unpack ?_
 unfold c_name_Unpack
 rcases iteE hm0 with ⟨e2, hm0⟩ | ⟨e2, hm0⟩
 · obtain ⟨v3, e5, hm0⟩ := ixE u8 hm0
   try simp only [sevalprocAttr, eq_self, true_and] at e5
   rcases iteE hm0 with ⟨e7, hm0⟩ | ⟨e7, hm0⟩
   · obtain rfl := Option.some.inj hm0
     simp only [e2, e5, e7, Y_name_Unpack, ↓EVd, isCall, sevalprocAttr]
     all_goals first | done | rfl | exact frzR_closed (by simp only [CLO]) | exact frzR_sub (by simp only [CLO]) (Sub.tup (Subs.cons (Sub.refl _) (Subs.cons (Sub.refl _) (Subs.nil))))
   obtain ⟨v8, h9, hm0⟩ := bsE hm0
   have e10 := show evalSlice Try.prog 25 (.sl 1 (a0.map u8)) (some (int 1)) (some (ik .u8 (IntKind.u8.wrap (1 + (v3.toNat : Int))))) none = some (.sl 1 (v8.map u8)) from slice_fact elemOfT_25 aggN_5 u8 h9
   have e11 : convE Try.prog 25 9 (.sl 1 (v8.map u8)) = some (str (ofBytes v8), []) := conv_bytes _ (e := 5) (by kernel_rfl) (by kernel_rfl) (by kernel_rfl)
   obtain ⟨v12, h13, hm0⟩ := bsE hm0
   simp only [e2, e5, e7, e10, e11, Y_name_Unpack, ↓EVd, isCall, sevalprocAttr]
   refine qc (ok_name_Right _ _ h13) rfl ?_
   rcases itbE hm0 with ⟨e15, hm0⟩ | ⟨e15, hm0⟩
   · obtain rfl := Option.some.inj hm0
     simp only [e2, e5, e7, e10, e11, e15, Y_name_Unpack, ↓EVd, isCall, sevalprocAttr]
     all_goals first | done | rfl | exact frzR_closed (by simp only [CLO]) | exact frzR_sub (by simp only [CLO]) (Sub.tup (Subs.cons (Sub.refl _) (Subs.cons (Sub.refl _) (Subs.nil))))
   obtain ⟨v16, h17, hm0⟩ := bsE hm0
   simp only [e2, e5, e7, e10, e11, e15, Y_name_Unpack, ↓EVd, isCall, sevalprocAttr]
   refine qc (ok_name_Pack _ _ h17) rfl ?_
   obtain ⟨v18, h19, hm0⟩ := bsE hm0
   simp only [e2, e5, e7, e10, e11, e15, Y_name_Unpack, ↓EVd, isCall, sevalprocAttr]
   refine qc (ok_bytes_Equal _ _ _ h19) rfl ?_
   rcases itbE hm0 with ⟨e21, hm0⟩ | ⟨e21, hm0⟩
   · obtain rfl := Option.some.inj hm0
     simp only [e2, e5, e7, e10, e11, e15, e21, Y_name_Unpack, ↓EVd, isCall, sevalprocAttr]
     all_goals first | done | rfl | exact frzR_closed (by simp only [CLO]) | exact frzR_sub (by simp only [CLO]) (Sub.tup (Subs.cons (Sub.refl _) (Subs.cons (Sub.refl _) (Subs.nil))))
   obtain rfl := Option.some.inj hm0
   simp only [e2, e5, e7, e10, e11, e15, e21, Y_name_Unpack, ↓EVd, isCall, sevalprocAttr]
   all_goals first | done | rfl | exact frzR_closed (by simp only [CLO]) | exact frzR_sub (by simp only [CLO]) (Sub.tup (Subs.cons (Sub.refl _) (Subs.cons (Sub.refl _) (Subs.nil))))
 obtain rfl := Option.some.inj hm0
 simp only [e2, Y_name_Unpack, ↓EVd, isCall, sevalprocAttr]
 all_goals first | done | rfl | exact frzR_closed (by simp only [CLO]) | exact frzR_sub (by simp only [CLO]) (Sub.tup (Subs.cons (Sub.refl _) (Subs.cons (Sub.refl _) (Subs.nil))))
def m_ref03_Unpack_b0 (a0 : List UInt8) (v14 : List UInt8) : Int → Option (St (Int) ((Unit) ⊕ (ByteArray × Bool)))
 | v19 => if v19 < 14 then (ix v14 v19).bind fun v23 => (ix a0 v19).bind fun v26 => if (v23.toNat : Int) = (v26.toNat : Int) then some (.nx (wr (v19 + 1)))
 else some (.out (.inr (noBytes, false)))
 else some (.out (.inl ()))
def m_ref03_Unpack (a0 : List UInt8) : Option (ByteArray × Bool) := if (a0.length : Int) = 14 then (ix a0 0).bind fun v3 => if 12 < IntKind.i64.wrap (v3.toNat : Int) then some (noBytes, false)
 else (slM a0 (some 1) (some (wr (1 + (IntKind.i64.wrap (v3.toNat : Int)))))).bind fun v10 => (m_ref03_Pack (ofBytes v10)).bind fun v14 => if (v14.length : Int) = 14 then (iter (m_ref03_Unpack_b0 a0 v14) big 0).bind fun o => (match o with
 | (.inl _) => some ((ofBytes v10), true)
 | (.inr r) => some r)
 else some (noBytes, false)
 else some (noBytes, false)
def Y_ref03_Unpack := And.intro (And.intro ((@EV)) (And.intro ((@R3)) ((@R5)))) (And.intro ((@R9)) (And.intro ((@R25)) ((@mixed))))
set_option maxHeartbeats 2000000 in
theorem ok_ref03_Unpack (a0 : List UInt8) (r : ByteArray × Bool) (hm0 : m_ref03_Unpack a0 = some r) : Ok Try.prog 15 [.sl 1 (a0.map u8)] (.tup [str r.1, bool r.2]) := by
 unfold m_ref03_Unpack at hm0
 refine okG fc_ref03_Unpack ?_
 unfold c_ref03_Unpack
 rcases iteE hm0 with ⟨e2, hm0⟩ | ⟨e2, hm0⟩
 · obtain ⟨v3, e5, hm0⟩ := ixE u8 hm0
   try simp only [sevalprocAttr, eq_self, true_and] at e5
   have e6 : convE Try.prog 5 3 (ik .u8 (v3.toNat : Int)) = some (int (IntKind.i64.wrap (v3.toNat : Int)), []) := conv_int _ (by kernel_rfl) (by kernel_rfl)
   rcases iteE hm0 with ⟨e8, hm0⟩ | ⟨e8, hm0⟩
   · obtain rfl := Option.some.inj hm0
     simp only [e2, e5, e6, e8, Y_ref03_Unpack, ↓EVd, isCall, sevalprocAttr]
     all_goals first | done | rfl | exact frzR_closed (by simp only [CLO]) | exact frzR_sub (by simp only [CLO]) (Sub.tup (Subs.cons (Sub.refl _) (Subs.cons (Sub.refl _) (Subs.nil))))
   have e9 : convE Try.prog 5 3 (ik .u8 (v3.toNat : Int)) = some (int (IntKind.i64.wrap (v3.toNat : Int)), []) := conv_int _ (by kernel_rfl) (by kernel_rfl)
   obtain ⟨v10, h11, hm0⟩ := bsE hm0
   have e12 := show evalSlice Try.prog 25 (.sl 1 (a0.map u8)) (some (int 1)) (some (int (wr (1 + (IntKind.i64.wrap (v3.toNat : Int)))))) none = some (.sl 1 (v10.map u8)) from slice_fact elemOfT_25 aggN_5 u8 h11
   have e13 : convE Try.prog 25 9 (.sl 1 (v10.map u8)) = some (str (ofBytes v10), []) := conv_bytes _ (e := 5) (by kernel_rfl) (by kernel_rfl) (by kernel_rfl)
   obtain ⟨v14, h15, hm0⟩ := bsE hm0
   simp only [e2, e5, e6, e8, e9, e12, e13, Y_ref03_Unpack, ↓EVd, isCall, sevalprocAttr]
   refine qc (ok_ref03_Pack _ _ h15) rfl ?_
   rcases iteE hm0 with ⟨e17, hm0⟩ | ⟨e17, hm0⟩
   · have g31 := And.intro (And.intro (And.intro ((e2)) ((e5))) (And.intro ((e6)) ((e8)))) (And.intro (And.intro ((e9)) ((e12))) (And.intro ((e13)) ((e17))))
     obtain ⟨o0, ho0, hm0⟩ := bsE hm0
     simp only [g31, Y_ref03_Unpack, ↓EVd, isCall, sevalprocAttr]
     refine cwp_cx 0 (fun s => (s.T 4 = str (ofBytes v10)) ∧ (.inl ()) = o0) ?_ fun J0_0 hJ0_0 => ?_
     · rintro T0 H0 x20 ⟨kk0_0, rfl⟩
       dsimp only [Lq, Nq] at kk0_0
       try dsimp only at hm0
       obtain rfl := Option.some.inj hm0
       simp only [kk0_0, g31, Y_ref03_Unpack, ↓EVd, isCall, sevalprocAttr]
       all_goals first | done | rfl | exact frzR_closed (by simp only [CLO]) | exact frzR_sub (by simp only [CLO]) (Sub.tup (Subs.cons (Sub.refl _) (Subs.cons (Sub.refl _) (Subs.nil))))
     refine cwp_lp ho0 (fun v19 s => s.T 0 = .sl 1 (a0.map u8) ∧ s.T 4 = str (ofBytes v10) ∧ s.T 5 = .sl 1 (v14.map u8) ∧ s.T 6 = int v19) ?_ ?_
     · refine TI.here ⟨?_, ?_, ?_, ?_⟩
       all_goals try simp only [g31, Y_ref03_Unpack, ↓EVd, isCall, sevalprocAttr]
       all_goals first | omega | exact lq (by omega) | exact nq (by omega) | rfl | (congr 1; omega)
     rintro I0 v19 T0 H0 x18 st0 kk0 hm1 hI0 hO0
     dsimp only [Lq, Nq] at kk0
     simp only [m_ref03_Unpack_b0] at hm1
     rcases iteE hm1 with ⟨e22, hm1⟩ | ⟨e22, hm1⟩
     · obtain ⟨v23, e25, hm1⟩ := ixE u8 hm1
       obtain ⟨v26, e28, hm1⟩ := ixE u8 hm1
       rcases iteE hm1 with ⟨e30, hm1⟩ | ⟨e30, hm1⟩
       · obtain rfl := Option.some.inj hm1
         simp only [kk0, g31, e22, e25, e28, e30, Y_ref03_Unpack, ↓EVd, isCall, sevalprocAttr]
         refine TI.here (hI0 _ rfl _ ⟨?_, ?_, ?_, ?_⟩)
         all_goals try simp only [kk0, g31, e22, e25, e28, e30, Y_ref03_Unpack, ↓EVd, isCall, sevalprocAttr]
         all_goals first | omega | exact lq (by omega) | exact nq (by omega) | rfl | (congr 1; omega)
       obtain rfl := Option.some.inj hm1
       obtain rfl := hO0 _ rfl
       try dsimp only at hm0
       obtain rfl := Option.some.inj hm0
       simp only [kk0, g31, e22, e25, e28, e30, Y_ref03_Unpack, ↓EVd, isCall, sevalprocAttr]
       all_goals first | done | rfl | exact frzR_closed (by simp only [CLO]) | exact frzR_sub (by simp only [CLO]) (Sub.tup (Subs.cons (Sub.refl _) (Subs.cons (Sub.refl _) (Subs.nil))))
     obtain rfl := Option.some.inj hm1
     simp only [kk0, g31, e22, Y_ref03_Unpack, ↓EVd, isCall, sevalprocAttr]
     refine TI.here (hJ0_0 _ ⟨?_, hO0 _ rfl⟩)
     all_goals try simp only [kk0, g31, e22, Y_ref03_Unpack, ↓EVd, isCall, sevalprocAttr]
     all_goals first | omega | exact lq (by omega) | exact nq (by omega) | rfl | (congr 1; omega)
   obtain rfl := Option.some.inj hm0
   simp only [e2, e5, e6, e8, e9, e12, e13, e17, Y_ref03_Unpack, ↓EVd, isCall, sevalprocAttr]
   all_goals first | done | rfl | exact frzR_closed (by simp only [CLO]) | exact frzR_sub (by simp only [CLO]) (Sub.tup (Subs.cons (Sub.refl _) (Subs.cons (Sub.refl _) (Subs.nil))))
 obtain rfl := Option.some.inj hm0
 simp only [e2, Y_ref03_Unpack, ↓EVd, isCall, sevalprocAttr]
 all_goals first | done | rfl | exact frzR_closed (by simp only [CLO]) | exact frzR_sub (by simp only [CLO]) (Sub.tup (Subs.cons (Sub.refl _) (Subs.cons (Sub.refl _) (Subs.nil))))
end Go.Proofs.Ytlgikchfddhocaa.AL

/- Models of functions, and that the functions are as their models: written by gen.py. -/
set_option linter.all false
set_option maxRecDepth 100000
namespace Go.Proofs.Ytlgikchfddhocaa.AL
open Go Go.Proofs
def m_law03_awake  : Option (Bool) := (m_name_Pack (ByteArray.mk #[97, 46, 98])).bind fun v1 => (m_name_Unpack v1).bind fun v3 => if v3.1 = (ByteArray.mk #[97, 46, 98]) then if v3.2 = true then (m_name_Right (ByteArray.mk #[46, 46, 97])).bind fun v9 => if v9 = true then (m_name_Right (ByteArray.mk #[46, 46])).bind fun v13 => if (!v13) = true then (m_name_Sort ([(ByteArray.mk #[98]), (ByteArray.mk #[97]), (ByteArray.mk #[98])] : List ByteArray)).bind fun v17 => (m_slices_Equal_string_string v17 ([(ByteArray.mk #[97]), (ByteArray.mk #[98])] : List ByteArray)).bind fun v19 => some v19
 else some false
 else some false
 else some false
 else some false
def Y_law03_awake := And.intro (And.intro ((@EV)) ((@R5))) (And.intro ((@R9)) (And.intro ((@R25)) ((@R30))))
set_option maxHeartbeats 2000000 in
theorem ok_law03_awake  (r : Bool) (hm0 : m_law03_awake  = some r) : Ok Try.prog 8 [] (bool r) := by
 unfold m_law03_awake at hm0
 refine okG fc_law03_awake ?_
 unfold c_law03_awake
 obtain ⟨v1, h2, hm0⟩ := bsE hm0
 simp only [Y_law03_awake, ↓EVd, isCall, sevalprocAttr]
 refine qc (ok_name_Pack _ _ h2) rfl ?_
 obtain ⟨v3, h4, hm0⟩ := bsE hm0
 simp only [Y_law03_awake, ↓EVd, isCall, sevalprocAttr]
 refine qc (ok_name_Unpack _ _ h4) rfl ?_
 rcases iteE hm0 with ⟨e6, hm0⟩ | ⟨e6, hm0⟩
 · rcases itbE hm0 with ⟨e8, hm0⟩ | ⟨e8, hm0⟩
   · obtain ⟨v9, h10, hm0⟩ := bsE hm0
     simp only [e6, e8, Y_law03_awake, ↓EVd, isCall, sevalprocAttr]
     refine qc (ok_name_Right _ _ h10) rfl ?_
     rcases itbE hm0 with ⟨e12, hm0⟩ | ⟨e12, hm0⟩
     · obtain ⟨v13, h14, hm0⟩ := bsE hm0
       simp only [e6, e8, e12, Y_law03_awake, ↓EVd, isCall, sevalprocAttr]
       refine qc (ok_name_Right _ _ h14) rfl ?_
       rcases itbE hm0 with ⟨e16, hm0⟩ | ⟨e16, hm0⟩
       · obtain ⟨v17, h18, hm0⟩ := bsE hm0
         simp only [e6, e8, e12, e16, Y_law03_awake, ↓EVd, isCall, sevalprocAttr]
         refine qcq (ok_name_Sort _ _ h18) rfl (by simp only [e6, e8, e12, e16, FQ, CLO, Y_law03_awake, ↓EVd, isCall, sevalprocAttr]; first | done | rfl) ?_
         obtain ⟨v19, h20, hm0⟩ := bsE hm0
         simp only [e6, e8, e12, e16, Y_law03_awake, ↓EVd, isCall, sevalprocAttr]
         refine qcb (ok_slices_Equal_string_string _ _ _ h20) rfl (by simp only [e6, e8, e12, e16, FZ, CLO, Y_law03_awake, ↓EVd, isCall, sevalprocAttr]) ?_
         obtain rfl := Option.some.inj hm0
         simp only [e6, e8, e12, e16, Y_law03_awake, ↓EVd, isCall, sevalprocAttr]
         all_goals first | done | rfl
       obtain rfl := Option.some.inj hm0
       simp only [e6, e8, e12, e16, Y_law03_awake, ↓EVd, isCall, sevalprocAttr]
       all_goals first | done | rfl
     obtain rfl := Option.some.inj hm0
     simp only [e6, e8, e12, Y_law03_awake, ↓EVd, isCall, sevalprocAttr]
     all_goals first | done | rfl
   obtain rfl := Option.some.inj hm0
   simp only [e6, e8, Y_law03_awake, ↓EVd, isCall, sevalprocAttr]
   all_goals first | done | rfl
 obtain rfl := Option.some.inj hm0
 simp only [e6, Y_law03_awake, ↓EVd, isCall, sevalprocAttr]
 all_goals first | done | rfl
def m_law03_NameTells (a0 : ByteArray) : Option (Bool) := if 2000 < (a0.size : Int) then (m_law03_awake ).bind fun v3 => some v3
 else (m_name_Right a0).bind fun v5 => (m_ref03_Right a0).bind fun v7 => if v5 = true then if v7 = true then (m_name_Pack a0).bind fun v13 => (m_ref03_Pack a0).bind fun v15 => (m_bytes_Equal v13 v15).bind fun v17 => if v17 = true then (m_law03_awake ).bind fun v21 => some v21
 else some false
 else some false
 else if v7 = true then some false
 else (m_name_Pack a0).bind fun v25 => (m_ref03_Pack a0).bind fun v27 => (m_bytes_Equal v25 v27).bind fun v29 => if v29 = true then (m_law03_awake ).bind fun v33 => some v33
 else some false
def Y_law03_NameTells := And.intro (And.intro ((@EV)) (And.intro ((@R3)) ((@R4)))) (And.intro ((@R5)) (And.intro ((@R9)) ((@R25))))
set_option maxHeartbeats 2000000 in
theorem ok_law03_NameTells (a0 : ByteArray) (r : Bool) (hm0 : m_law03_NameTells a0 = some r) : Ok Try.prog 3 [str a0] (bool r) := by
 unfold m_law03_NameTells at hm0
 refine okG fc_law03_NameTells ?_
 unfold c_law03_NameTells
 rcases iteE hm0 with ⟨e2, hm0⟩ | ⟨e2, hm0⟩
 · obtain ⟨v3, h4, hm0⟩ := bsE hm0
   simp only [e2, Y_law03_NameTells, ↓EVd, isCall, sevalprocAttr]
   refine qc (ok_law03_awake  _ h4) rfl ?_
   obtain rfl := Option.some.inj hm0
   simp only [e2, Y_law03_NameTells, ↓EVd, isCall, sevalprocAttr]
   all_goals first | done | rfl
 obtain ⟨v5, h6, hm0⟩ := bsE hm0
 simp only [e2, Y_law03_NameTells, ↓EVd, isCall, sevalprocAttr]
 refine qc (ok_name_Right _ _ h6) rfl ?_
 obtain ⟨v7, h8, hm0⟩ := bsE hm0
 simp only [e2, Y_law03_NameTells, ↓EVd, isCall, sevalprocAttr]
 refine qc (ok_ref03_Right _ _ h8) rfl ?_
 rcases itbE hm0 with ⟨e10, hm0⟩ | ⟨e10, hm0⟩
 · rcases itbE hm0 with ⟨e12, hm0⟩ | ⟨e12, hm0⟩
   · obtain ⟨v13, h14, hm0⟩ := bsE hm0
     simp only [e2, e10, e12, Y_law03_NameTells, ↓EVd, isCall, sevalprocAttr]
     refine qc (ok_name_Pack _ _ h14) rfl ?_
     obtain ⟨v15, h16, hm0⟩ := bsE hm0
     simp only [e2, e10, e12, Y_law03_NameTells, ↓EVd, isCall, sevalprocAttr]
     refine qc (ok_ref03_Pack _ _ h16) rfl ?_
     obtain ⟨v17, h18, hm0⟩ := bsE hm0
     simp only [e2, e10, e12, Y_law03_NameTells, ↓EVd, isCall, sevalprocAttr]
     refine qc (ok_bytes_Equal _ _ _ h18) rfl ?_
     rcases itbE hm0 with ⟨e20, hm0⟩ | ⟨e20, hm0⟩
     · obtain ⟨v21, h22, hm0⟩ := bsE hm0
       simp only [e2, e10, e12, e20, Y_law03_NameTells, ↓EVd, isCall, sevalprocAttr]
       refine qc (ok_law03_awake  _ h22) rfl ?_
       obtain rfl := Option.some.inj hm0
       simp only [e2, e10, e12, e20, Y_law03_NameTells, ↓EVd, isCall, sevalprocAttr]
       all_goals first | done | rfl
     obtain rfl := Option.some.inj hm0
     simp only [e2, e10, e12, e20, Y_law03_NameTells, ↓EVd, isCall, sevalprocAttr]
     all_goals first | done | rfl
   obtain rfl := Option.some.inj hm0
   simp only [e2, e10, e12, Y_law03_NameTells, ↓EVd, isCall, sevalprocAttr]
   all_goals first | done | rfl
 rcases itbE hm0 with ⟨e24, hm0⟩ | ⟨e24, hm0⟩
 · obtain rfl := Option.some.inj hm0
   simp only [e2, e10, e24, Y_law03_NameTells, ↓EVd, isCall, sevalprocAttr]
   all_goals first | done | rfl
 obtain ⟨v25, h26, hm0⟩ := bsE hm0
 simp only [e2, e10, e24, Y_law03_NameTells, ↓EVd, isCall, sevalprocAttr]
 refine qc (ok_name_Pack _ _ h26) rfl ?_
 obtain ⟨v27, h28, hm0⟩ := bsE hm0
 simp only [e2, e10, e24, Y_law03_NameTells, ↓EVd, isCall, sevalprocAttr]
 refine qc (ok_ref03_Pack _ _ h28) rfl ?_
 obtain ⟨v29, h30, hm0⟩ := bsE hm0
 simp only [e2, e10, e24, Y_law03_NameTells, ↓EVd, isCall, sevalprocAttr]
 refine qc (ok_bytes_Equal _ _ _ h30) rfl ?_
 rcases itbE hm0 with ⟨e32, hm0⟩ | ⟨e32, hm0⟩
 · obtain ⟨v33, h34, hm0⟩ := bsE hm0
   simp only [e2, e10, e24, e32, Y_law03_NameTells, ↓EVd, isCall, sevalprocAttr]
   refine qc (ok_law03_awake  _ h34) rfl ?_
   obtain rfl := Option.some.inj hm0
   simp only [e2, e10, e24, e32, Y_law03_NameTells, ↓EVd, isCall, sevalprocAttr]
   all_goals first | done | rfl
 obtain rfl := Option.some.inj hm0
 simp only [e2, e10, e24, e32, Y_law03_NameTells, ↓EVd, isCall, sevalprocAttr]
 all_goals first | done | rfl
def m_law03_NameBack (a0 : List UInt8) (a1 : ByteArray) : Option (Bool) := if 2000 < (a0.length : Int) then (m_law03_awake ).bind fun v3 => some v3
 else if 2000 < (a1.size : Int) then (m_law03_awake ).bind fun v7 => some v7
 else (m_name_Unpack a0).bind fun v9 => (m_ref03_Unpack a0).bind fun v11 => if v9.1 = v11.1 then if v9.2 = true then if v11.2 = true then (m_name_Pack v9.1).bind fun v19 => (m_bytes_Equal v19 a0).bind fun v21 => if (!v21) = true then some false
 else (m_name_Pack a1).bind fun v25 => (m_name_Unpack v25).bind fun v27 => (m_name_Right a1).bind fun v29 => if v27.2 = true then if v29 = true then if v27.1 = a1 then (m_law03_awake ).bind fun v37 => some v37
 else some false
 else some false
 else if v29 = true then some false
 else (m_law03_awake ).bind fun v41 => some v41
 else some false
 else if v11.2 = true then some false
 else (m_name_Pack a1).bind fun v45 => (m_name_Unpack v45).bind fun v47 => (m_name_Right a1).bind fun v49 => if v47.2 = true then if v49 = true then if v47.1 = a1 then (m_law03_awake ).bind fun v57 => some v57
 else some false
 else some false
 else if v49 = true then some false
 else (m_law03_awake ).bind fun v61 => some v61
 else some false
def Y_law03_NameBack := And.intro (And.intro ((@EV)) (And.intro ((@R3)) ((@R4)))) (And.intro ((@R5)) (And.intro ((@R9)) ((@R25))))
set_option maxHeartbeats 2000000 in
theorem ok_law03_NameBack (a0 : List UInt8) (a1 : ByteArray) (r : Bool) (hm0 : m_law03_NameBack a0 a1 = some r) : Ok Try.prog 4 [.sl 1 (a0.map u8), str a1] (bool r) := by
 unfold m_law03_NameBack at hm0
 refine okG fc_law03_NameBack ?_
 unfold c_law03_NameBack
 rcases iteE hm0 with ⟨e2, hm0⟩ | ⟨e2, hm0⟩
 · obtain ⟨v3, h4, hm0⟩ := bsE hm0
   simp only [e2, Y_law03_NameBack, ↓EVd, isCall, sevalprocAttr]
   refine qc (ok_law03_awake  _ h4) rfl ?_
   obtain rfl := Option.some.inj hm0
   simp only [e2, Y_law03_NameBack, ↓EVd, isCall, sevalprocAttr]
   all_goals first | done | rfl
 rcases iteE hm0 with ⟨e6, hm0⟩ | ⟨e6, hm0⟩
 · obtain ⟨v7, h8, hm0⟩ := bsE hm0
   simp only [e2, e6, Y_law03_NameBack, ↓EVd, isCall, sevalprocAttr]
   refine qc (ok_law03_awake  _ h8) rfl ?_
   obtain rfl := Option.some.inj hm0
   simp only [e2, e6, Y_law03_NameBack, ↓EVd, isCall, sevalprocAttr]
   all_goals first | done | rfl
 obtain ⟨v9, h10, hm0⟩ := bsE hm0
 simp only [e2, e6, Y_law03_NameBack, ↓EVd, isCall, sevalprocAttr]
 refine qc (ok_name_Unpack _ _ h10) rfl ?_
 obtain ⟨v11, h12, hm0⟩ := bsE hm0
 simp only [e2, e6, Y_law03_NameBack, ↓EVd, isCall, sevalprocAttr]
 refine qc (ok_ref03_Unpack _ _ h12) rfl ?_
 rcases iteE hm0 with ⟨e14, hm0⟩ | ⟨e14, hm0⟩
 · rcases itbE hm0 with ⟨e16, hm0⟩ | ⟨e16, hm0⟩
   · rcases itbE hm0 with ⟨e18, hm0⟩ | ⟨e18, hm0⟩
     · obtain ⟨v19, h20, hm0⟩ := bsE hm0
       simp only [e2, e6, e14, e16, e18, Y_law03_NameBack, ↓EVd, isCall, sevalprocAttr]
       refine qc (ok_name_Pack _ _ h20) rfl ?_
       obtain ⟨v21, h22, hm0⟩ := bsE hm0
       simp only [e2, e6, e14, e16, e18, Y_law03_NameBack, ↓EVd, isCall, sevalprocAttr]
       refine qc (ok_bytes_Equal _ _ _ h22) rfl ?_
       rcases itbE hm0 with ⟨e24, hm0⟩ | ⟨e24, hm0⟩
       · obtain rfl := Option.some.inj hm0
         simp only [e2, e6, e14, e16, e18, e24, Y_law03_NameBack, ↓EVd, isCall, sevalprocAttr]
         all_goals first | done | rfl
       obtain ⟨v25, h26, hm0⟩ := bsE hm0
       simp only [e2, e6, e14, e16, e18, e24, Y_law03_NameBack, ↓EVd, isCall, sevalprocAttr]
       refine qc (ok_name_Pack _ _ h26) rfl ?_
       obtain ⟨v27, h28, hm0⟩ := bsE hm0
       simp only [e2, e6, e14, e16, e18, e24, Y_law03_NameBack, ↓EVd, isCall, sevalprocAttr]
       refine qc (ok_name_Unpack _ _ h28) rfl ?_
       obtain ⟨v29, h30, hm0⟩ := bsE hm0
       simp only [e2, e6, e14, e16, e18, e24, Y_law03_NameBack, ↓EVd, isCall, sevalprocAttr]
       refine qc (ok_name_Right _ _ h30) rfl ?_
       rcases itbE hm0 with ⟨e32, hm0⟩ | ⟨e32, hm0⟩
       · rcases itbE hm0 with ⟨e34, hm0⟩ | ⟨e34, hm0⟩
         · have g63 := And.intro (And.intro (And.intro ((e2)) ((e6))) (And.intro ((e14)) ((e16)))) (And.intro (And.intro ((e18)) ((e24))) (And.intro ((e32)) ((e34))))
           rcases iteE hm0 with ⟨e36, hm0⟩ | ⟨e36, hm0⟩
           · obtain ⟨v37, h38, hm0⟩ := bsE hm0
             simp only [g63, e36, Y_law03_NameBack, ↓EVd, isCall, sevalprocAttr]
             refine qc (ok_law03_awake  _ h38) rfl ?_
             obtain rfl := Option.some.inj hm0
             simp only [g63, e36, Y_law03_NameBack, ↓EVd, isCall, sevalprocAttr]
             all_goals first | done | rfl
           obtain rfl := Option.some.inj hm0
           simp only [g63, e36, Y_law03_NameBack, ↓EVd, isCall, sevalprocAttr]
           all_goals first | done | rfl
         obtain rfl := Option.some.inj hm0
         simp only [e2, e6, e14, e16, e18, e24, e32, e34, Y_law03_NameBack, ↓EVd, isCall, sevalprocAttr]
         all_goals first | done | rfl
       rcases itbE hm0 with ⟨e40, hm0⟩ | ⟨e40, hm0⟩
       · obtain rfl := Option.some.inj hm0
         simp only [e2, e6, e14, e16, e18, e24, e32, e40, Y_law03_NameBack, ↓EVd, isCall, sevalprocAttr]
         all_goals first | done | rfl
       have g64 := And.intro (And.intro (And.intro ((e2)) ((e6))) (And.intro ((e14)) ((e16)))) (And.intro (And.intro ((e18)) ((e24))) (And.intro ((e32)) ((e40))))
       obtain ⟨v41, h42, hm0⟩ := bsE hm0
       simp only [g64, Y_law03_NameBack, ↓EVd, isCall, sevalprocAttr]
       refine qc (ok_law03_awake  _ h42) rfl ?_
       obtain rfl := Option.some.inj hm0
       simp only [g64, Y_law03_NameBack, ↓EVd, isCall, sevalprocAttr]
       all_goals first | done | rfl
     obtain rfl := Option.some.inj hm0
     simp only [e2, e6, e14, e16, e18, Y_law03_NameBack, ↓EVd, isCall, sevalprocAttr]
     all_goals first | done | rfl
   rcases itbE hm0 with ⟨e44, hm0⟩ | ⟨e44, hm0⟩
   · obtain rfl := Option.some.inj hm0
     simp only [e2, e6, e14, e16, e44, Y_law03_NameBack, ↓EVd, isCall, sevalprocAttr]
     all_goals first | done | rfl
   obtain ⟨v45, h46, hm0⟩ := bsE hm0
   simp only [e2, e6, e14, e16, e44, Y_law03_NameBack, ↓EVd, isCall, sevalprocAttr]
   refine qc (ok_name_Pack _ _ h46) rfl ?_
   obtain ⟨v47, h48, hm0⟩ := bsE hm0
   simp only [e2, e6, e14, e16, e44, Y_law03_NameBack, ↓EVd, isCall, sevalprocAttr]
   refine qc (ok_name_Unpack _ _ h48) rfl ?_
   obtain ⟨v49, h50, hm0⟩ := bsE hm0
   simp only [e2, e6, e14, e16, e44, Y_law03_NameBack, ↓EVd, isCall, sevalprocAttr]
   refine qc (ok_name_Right _ _ h50) rfl ?_
   rcases itbE hm0 with ⟨e52, hm0⟩ | ⟨e52, hm0⟩
   · rcases itbE hm0 with ⟨e54, hm0⟩ | ⟨e54, hm0⟩
     · rcases iteE hm0 with ⟨e56, hm0⟩ | ⟨e56, hm0⟩
       · have g65 := And.intro (And.intro (And.intro ((e2)) ((e6))) (And.intro ((e14)) ((e16)))) (And.intro (And.intro ((e44)) ((e52))) (And.intro ((e54)) ((e56))))
         obtain ⟨v57, h58, hm0⟩ := bsE hm0
         simp only [g65, Y_law03_NameBack, ↓EVd, isCall, sevalprocAttr]
         refine qc (ok_law03_awake  _ h58) rfl ?_
         obtain rfl := Option.some.inj hm0
         simp only [g65, Y_law03_NameBack, ↓EVd, isCall, sevalprocAttr]
         all_goals first | done | rfl
       obtain rfl := Option.some.inj hm0
       simp only [e2, e6, e14, e16, e44, e52, e54, e56, Y_law03_NameBack, ↓EVd, isCall, sevalprocAttr]
       all_goals first | done | rfl
     obtain rfl := Option.some.inj hm0
     simp only [e2, e6, e14, e16, e44, e52, e54, Y_law03_NameBack, ↓EVd, isCall, sevalprocAttr]
     all_goals first | done | rfl
   rcases itbE hm0 with ⟨e60, hm0⟩ | ⟨e60, hm0⟩
   · obtain rfl := Option.some.inj hm0
     simp only [e2, e6, e14, e16, e44, e52, e60, Y_law03_NameBack, ↓EVd, isCall, sevalprocAttr]
     all_goals first | done | rfl
   obtain ⟨v61, h62, hm0⟩ := bsE hm0
   simp only [e2, e6, e14, e16, e44, e52, e60, Y_law03_NameBack, ↓EVd, isCall, sevalprocAttr]
   refine qc (ok_law03_awake  _ h62) rfl ?_
   obtain rfl := Option.some.inj hm0
   simp only [e2, e6, e14, e16, e44, e52, e60, Y_law03_NameBack, ↓EVd, isCall, sevalprocAttr]
   all_goals first | done | rfl
 obtain rfl := Option.some.inj hm0
 simp only [e2, e6, e14, Y_law03_NameBack, ↓EVd, isCall, sevalprocAttr]
 all_goals first | done | rfl
def m_law03_NameSorts (a0 : List ByteArray) : Option (Bool) := if 60 < (a0.length : Int) then (m_law03_awake ).bind fun v3 => some v3
 else (m_name_Sort a0).bind fun v5 => (m_ref03_Sort a0).bind fun v7 => (m_slices_Equal_string_string v5 v7).bind fun v9 => if v9 = true then (m_slices_IsSorted_string_string v5).bind fun v13 => if v13 = true then (m_name_Sort v5).bind fun v17 => (m_slices_Equal_string_string v17 v5).bind fun v19 => if v19 = true then (m_law03_awake ).bind fun v23 => some v23
 else some false
 else some false
 else some false
def Y_law03_NameSorts := And.intro (And.intro ((@EV)) ((@R3))) (And.intro ((@R9)) ((@R30)))
set_option maxHeartbeats 2000000 in
theorem ok_law03_NameSorts (a0 : List ByteArray) (r : Bool) (hm0 : m_law03_NameSorts a0 = some r) : Ok Try.prog 5 [.sl 1 (a0.map str)] (bool r) := by
 unfold m_law03_NameSorts at hm0
 refine okG fc_law03_NameSorts ?_
 unfold c_law03_NameSorts
 rcases iteE hm0 with ⟨e2, hm0⟩ | ⟨e2, hm0⟩
 · obtain ⟨v3, h4, hm0⟩ := bsE hm0
   simp only [e2, Y_law03_NameSorts, ↓EVd, isCall, sevalprocAttr]
   refine qc (ok_law03_awake  _ h4) rfl ?_
   obtain rfl := Option.some.inj hm0
   simp only [e2, Y_law03_NameSorts, ↓EVd, isCall, sevalprocAttr]
   all_goals first | done | rfl
 obtain ⟨v5, h6, hm0⟩ := bsE hm0
 simp only [e2, Y_law03_NameSorts, ↓EVd, isCall, sevalprocAttr]
 refine qc (ok_name_Sort _ _ h6) rfl ?_
 obtain ⟨v7, h8, hm0⟩ := bsE hm0
 simp only [e2, Y_law03_NameSorts, ↓EVd, isCall, sevalprocAttr]
 refine qc (ok_ref03_Sort _ _ h8) rfl ?_
 obtain ⟨v9, h10, hm0⟩ := bsE hm0
 simp only [e2, Y_law03_NameSorts, ↓EVd, isCall, sevalprocAttr]
 refine qc (ok_slices_Equal_string_string _ _ _ h10) rfl ?_
 rcases itbE hm0 with ⟨e12, hm0⟩ | ⟨e12, hm0⟩
 · obtain ⟨v13, h14, hm0⟩ := bsE hm0
   simp only [e2, e12, Y_law03_NameSorts, ↓EVd, isCall, sevalprocAttr]
   refine qc (ok_slices_IsSorted_string_string _ _ h14) rfl ?_
   rcases itbE hm0 with ⟨e16, hm0⟩ | ⟨e16, hm0⟩
   · obtain ⟨v17, h18, hm0⟩ := bsE hm0
     simp only [e2, e12, e16, Y_law03_NameSorts, ↓EVd, isCall, sevalprocAttr]
     refine qc (ok_name_Sort _ _ h18) rfl ?_
     obtain ⟨v19, h20, hm0⟩ := bsE hm0
     simp only [e2, e12, e16, Y_law03_NameSorts, ↓EVd, isCall, sevalprocAttr]
     refine qc (ok_slices_Equal_string_string _ _ _ h20) rfl ?_
     rcases itbE hm0 with ⟨e22, hm0⟩ | ⟨e22, hm0⟩
     · obtain ⟨v23, h24, hm0⟩ := bsE hm0
       simp only [e2, e12, e16, e22, Y_law03_NameSorts, ↓EVd, isCall, sevalprocAttr]
       refine qc (ok_law03_awake  _ h24) rfl ?_
       obtain rfl := Option.some.inj hm0
       simp only [e2, e12, e16, e22, Y_law03_NameSorts, ↓EVd, isCall, sevalprocAttr]
       all_goals first | done | rfl
     obtain rfl := Option.some.inj hm0
     simp only [e2, e12, e16, e22, Y_law03_NameSorts, ↓EVd, isCall, sevalprocAttr]
     all_goals first | done | rfl
   obtain rfl := Option.some.inj hm0
   simp only [e2, e12, e16, Y_law03_NameSorts, ↓EVd, isCall, sevalprocAttr]
   all_goals first | done | rfl
 obtain rfl := Option.some.inj hm0
 simp only [e2, e12, Y_law03_NameSorts, ↓EVd, isCall, sevalprocAttr]
 all_goals first | done | rfl
end Go.Proofs.Ytlgikchfddhocaa.AL

/- Plain laws of chapter 03: a name's bytes, and the name of bytes; the three laws. -/
set_option linter.all false
namespace Go.Proofs.Ytlgikchfddhocaa.AL
open Go Go.Proofs

theorem right_size {s : ByteArray} (h : rightP s = true) : 1 ≤ s.size ∧ s.size ≤ 12 := by
  unfold rightP at h
  simp only [Bool.and_eq_true, decide_eq_true_eq] at h
  exact ⟨h.1.1, h.1.2.1⟩
def packQ (s : ByteArray) : List UInt8 := if rightP s = true then packB s else []
theorem npack_eq (s : ByteArray) : m_name_Pack s = some (packQ s) := by
  unfold m_name_Pack packQ
  rw [nright_eq]
  simp only [Option.bind_some]
  cases h : rightP s with
  | false => rfl
  | true =>
    have := right_size h
    unfold ck
    rw [if_neg (by simp), if_pos (by omega), if_pos rfl]
    rfl
theorem foldl_map_snoc {α β : Type} (f : α → β) : ∀ (l : List α) (d : List β), l.foldl (fun d x => d ++ [f x]) d = d ++ l.map f
  | [], d => by simp
  | x :: l, d => by rw [List.foldl_cons, foldl_map_snoc f l]; simp
theorem fill_eq (l : List UInt8) (n : Nat) (h : l.length ≤ n) : (List.range n).map (fun i => (l[i]?).getD 0) = l ++ List.replicate (n - l.length) 0 := by
  apply List.ext_getElem
  · simp; omega
  · intro i h1 h2
    simp only [List.getElem_map, List.getElem_range]
    by_cases hi : i < l.length
    · rw [List.getElem_append_left hi, List.getElem?_eq_getElem hi]; rfl
    · rw [List.getElem_append_right (by omega), List.getElem?_eq_none (by omega)]
      simp
theorem rpack_eq (s : ByteArray) : m_ref03_Pack s = some (packQ s) := by
  unfold m_ref03_Pack packQ
  rw [right_eq]
  simp only [Option.bind_some]
  cases h : rightP s with
  | false => rfl
  | true =>
    have hs := right_size h
    have hl : s.data.toList.length = s.size := by simp
    rw [if_neg (by simp), if_pos rfl]
    have := iter_fold (B := m_ref03_Pack_b0 s) (fun i d => (d, (i : Int))) (List.range 13) (fun d i => d ++ [(s.data.toList[i]?).getD 0]) (fun d => d) (fun i d => d.length = i + 1) (by
      intro i d hi hd
      have hi' : i < 13 := by simpa using hi
      rw [List.getElem_range]
      refine ⟨?_, by simp [hd]⟩
      simp only [m_ref03_Pack_b0]
      rw [if_pos (by omega)]
      by_cases hlt : i < s.size
      · rw [if_pos (by omega), ixB_at hlt]
        simp only [Option.bind_some]
        rw [ap_of (by simp; omega) (by decide), wr_suc (by omega), List.getElem?_eq_getElem (by omega)]
        rfl
      · rw [if_neg (by omega), ap_of (by simp; omega) (by decide), wr_suc (by omega), List.getElem?_eq_none (by omega)]
        rfl) (by
      intro d hd
      simp only [m_ref03_Pack_b0, List.length_range]
      rw [if_neg (by omega)]) (s0 := [wB (s.size : Int)]) rfl (fuel := big) (by rw [big_eq]; simp)
    have e0 : ((0 : Nat) : Int) = 0 := rfl
    rw [e0] at this
    rw [this.1, foldl_map_snoc, fill_eq _ _ (by omega), hl]
    rfl
theorem ofBytes_inj {a b : List UInt8} : ofBytes a = ofBytes b ↔ a = b := by
  constructor
  · intro h
    have := congrArg (fun x : ByteArray => x.data.toList) h
    simpa [ofBytes] using this
  · rintro rfl; rfl
theorem bequal_eq (a b : List UInt8) : m_bytes_Equal a b = some (decide (a = b)) := by
  unfold m_bytes_Equal
  by_cases h : a = b
  · rw [if_pos (ofBytes_inj.2 h)]; simp [h]
  · rw [if_neg (fun e => h (ofBytes_inj.1 e))]; simp [h]
/-- The name that bytes are. -/
def unpQ (b : List UInt8) : ByteArray × Bool := if h : b.length = 14 then
    (if 12 < (b[0]'(by omega)).toNat then (noBytes, false)
     else if rightP (ofBytes ((b.drop 1).take (b[0]'(by omega)).toNat)) = true then (if packB (ofBytes ((b.drop 1).take (b[0]'(by omega)).toNat)) = b then (ofBytes ((b.drop 1).take (b[0]'(by omega)).toNat), true) else (noBytes, false)) else (noBytes, false))
  else (noBytes, false)
theorem slM_head {b : List UInt8} {k : Nat} (hl : b.length = 14) (hk : k ≤ 12) : slM b (some 1) (some ((k : Int) + 1)) = some ((b.drop 1).take k) := by
  unfold slM
  simp only [Option.getD_some]
  rw [if_pos (by omega)]
  congr 2
  all_goals omega
theorem nunpack_eq (b : List UInt8) : m_name_Unpack b = some (unpQ b) := by
  unfold m_name_Unpack unpQ
  by_cases hl : b.length = 14
  · rw [if_pos (by omega), dif_pos hl, show (0 : Int) = ((0 : Nat) : Int) from rfl, ix_at (show 0 < b.length by omega)]
    simp only [Option.bind_some]
    by_cases h12 : 12 < (b[0]'(by omega)).toNat
    · rw [if_pos (by omega), if_pos h12]
    · rw [if_neg (by omega), if_neg h12]
      have hw : IntKind.u8.wrap ((1 : Int) + (((b[0]'(by omega)).toNat : Nat) : Int)) = (((b[0]'(by omega)).toNat : Nat) : Int) + 1 := by
        generalize (b[0]'(by omega)).toNat = k at h12
        have hk : k < 13 := by omega
        have key : ∀ k : Fin 13, IntKind.u8.wrap ((1 : Int) + ((k.val : Nat) : Int)) = ((k.val : Nat) : Int) + 1 := by decide +kernel
        exact key ⟨k, hk⟩
      rw [hw, slM_head hl (by omega)]
      simp only [Option.bind_some]
      generalize ofBytes ((b.drop 1).take (b[0]'(by omega)).toNat) = s
      rw [nright_eq]
      simp only [Option.bind_some]
      cases hr : rightP s with
      | false => rfl
      | true =>
        rw [if_neg (by simp), if_pos rfl, npack_eq, packQ, if_pos hr]
        simp only [Option.bind_some]
        rw [bequal_eq]
        simp only [Option.bind_some]
        by_cases he : packB s = b <;> simp [he]
  · rw [if_neg (by omega), dif_neg hl]
theorem packB_len {s : ByteArray} (h : s.size ≤ 12) : (packB s).length = 14 := by
  unfold packB
  have hl : s.data.toList.length = s.size := by simp
  simp only [List.length_cons, List.length_append, List.length_replicate, hl]
  omega
theorem runpack_eq (b : List UInt8) : m_ref03_Unpack b = some (unpQ b) := by
  unfold m_ref03_Unpack unpQ
  by_cases hl : b.length = 14
  · rw [if_pos (by omega), dif_pos hl, show (0 : Int) = ((0 : Nat) : Int) from rfl, ix_at (show 0 < b.length by omega)]
    simp only [Option.bind_some]
    have hb0 : (b[0]'(by omega)).toNat < 256 := (b[0]'(by omega)).toNat_lt
    have hw1 : IntKind.i64.wrap (((b[0]'(by omega)).toNat : Nat) : Int) = (((b[0]'(by omega)).toNat : Nat) : Int) := wr_in (by omega) (by omega)
    rw [hw1]
    by_cases h12 : 12 < (b[0]'(by omega)).toNat
    · rw [if_pos (by omega), if_pos h12]
    · rw [if_neg (by omega), if_neg h12]
      have hw : wr ((1 : Int) + (((b[0]'(by omega)).toNat : Nat) : Int)) = (((b[0]'(by omega)).toNat : Nat) : Int) + 1 := by
        rw [wr_in (by omega) (by omega)]; omega
      rw [hw, slM_head hl (by omega)]
      simp only [Option.bind_some]
      generalize ofBytes ((b.drop 1).take (b[0]'(by omega)).toNat) = s
      rw [rpack_eq]
      simp only [Option.bind_some, packQ]
      cases hr : rightP s with
      | false => rfl
      | true =>
        have hs := right_size hr
        have hpl := packB_len hs.2
        rw [if_pos rfl, if_pos rfl, if_pos (by omega)]
        obtain ⟨r, h1, h2⟩ := iter_term (B := m_ref03_Unpack_b0 b (packB s)) (R := fun r => r = if packB s = b then .inl () else .inr (noBytes, false)) (fun i t => t = (i : Int) ∧ i ≤ 14 ∧ ∀ q (h : q < (packB s).length) (h' : q < b.length), q < i → (packB s)[q] = b[q]) 14 (by
          rintro i t ⟨rfl, hi, hq⟩
          refine ⟨hi, ?_⟩
          simp only [m_ref03_Unpack_b0]
          by_cases hlt : i < 14
          · rw [if_pos (by omega), ix_at (show i < (packB s).length by omega), ix_at (show i < b.length by omega)]
            simp only [Option.bind_some]
            by_cases he : (packB s)[i]'(by omega) = b[i]'(by omega)
            · rw [if_pos (by rw [he]), wr_suc (by omega)]
              refine .inl ⟨_, rfl, rfl, by omega, fun q h h' hqi => ?_⟩
              by_cases e : q = i
              · subst e; exact he
              · exact hq q h h' (by omega)
            · rw [if_neg (fun e => he (UInt8.toNat_inj.1 (by omega)))]
              refine .inr ⟨_, rfl, ?_⟩
              rw [if_neg]
              rintro rfl
              exact he rfl
          · rw [if_neg (by omega)]
            refine .inr ⟨_, rfl, ?_⟩
            rw [if_pos (List.ext_getElem (by omega) fun q h h' => hq q h h' (by omega))]) big 0 0 ⟨rfl, by omega, fun q _ _ h => by omega⟩ (by rw [big_eq]; omega)
        rw [show ((0 : Nat) : Int) = 0 from rfl, h1, h2]
        by_cases he : packB s = b
        · rw [if_pos he, if_pos he]; rfl
        · rw [if_neg he, if_neg he]; rfl
  · rw [if_neg (by omega), dif_neg hl]
theorem unp_pack {s : ByteArray} (h : rightP s = true) : unpQ (packB s) = (s, true) := by
  have hs := right_size h
  have hpl := packB_len hs.2
  have hl : s.data.toList.length = s.size := by simp
  have h0 : ((packB s)[0]'(by omega)).toNat = s.size := by
    have : (packB s)[0]'(by omega) = wB s.size := rfl
    rw [this]
    generalize s.size = k at hs
    have key : ∀ k : Fin 13, (wB ((k.val : Nat) : Int)).toNat = k.val := by decide +kernel
    exact key ⟨k, by omega⟩
  have hd : ofBytes (((packB s).drop 1).take ((packB s)[0]'(by omega)).toNat) = s := by
    rw [h0]
    have : (packB s).drop 1 = s.data.toList ++ List.replicate (13 - s.size) 0 := rfl
    rw [this, List.take_append_of_le_length (by omega), List.take_of_length_le (by omega)]
    simp [ofBytes]
  unfold unpQ
  rw [dif_pos hpl, if_neg (by omega)]
  simp only [hd]
  rw [if_pos h]
  simp
theorem unp_true {b : List UInt8} (h : (unpQ b).2 = true) : packQ (unpQ b).1 = b := by
  unfold unpQ at h ⊢
  split at h
  · rename_i hl
    rw [dif_pos hl]
    split at h
    · cases h
    · rename_i h12
      rw [if_neg h12]
      split at h
      · rename_i hr
        rw [if_pos hr]
        split at h
        · rename_i he
          rw [if_pos he]
          show packQ (ofBytes _) = b
          rw [packQ, if_pos hr, he]
        · cases h
      · cases h
  · cases h
theorem awake03 : m_law03_awake = some true := by
  unfold m_law03_awake
  simp only [npack_eq, nunpack_eq, nright_eq, Option.bind_some]
  kernel_rfl
theorem law_nameTells (s : ByteArray) : m_law03_NameTells s = some true := by
  unfold m_law03_NameTells
  rw [awake03]
  split
  · rfl
  · rw [nright_eq, right_eq, npack_eq, rpack_eq]
    simp only [Option.bind_some]
    rw [bequal_eq]
    cases rightP s <;> simp
theorem law_nameBack (b : List UInt8) (s : ByteArray) : m_law03_NameBack b s = some true := by
  unfold m_law03_NameBack
  rw [awake03]
  split
  · rfl
  split
  · rfl
  rw [nunpack_eq, runpack_eq]
  simp only [Option.bind_some, if_true]
  have hback : (m_name_Pack s).bind (fun v25 => (m_name_Unpack v25).bind fun v27 => (m_name_Right s).bind fun v29 => if v27.2 = true then if v29 = true then if v27.1 = s then (some true).bind fun v37 => some v37 else some false else some false else if v29 = true then some false else (some true).bind fun v41 => some v41) = some true := by
    rw [npack_eq]
    simp only [Option.bind_some]
    rw [nunpack_eq, nright_eq]
    simp only [Option.bind_some, packQ]
    cases hr : rightP s with
    | true => rw [if_pos rfl, unp_pack hr]; simp
    | false => simp [unpQ]
  by_cases hu : (unpQ b).2 = true
  · rw [if_pos hu, if_pos hu, npack_eq]
    simp only [Option.bind_some]
    rw [bequal_eq, unp_true hu]
    simp only [Option.bind_some, decide_true, Bool.not_true, Bool.false_eq_true, if_false]
    exact hback
  · rw [if_neg hu, if_neg hu]
    exact hback
theorem law_nameSorts (l : List ByteArray) : m_law03_NameSorts l = some true := by
  unfold m_law03_NameSorts
  rw [awake03]
  split
  · rfl
  · rename_i hl
    have hs := sortQ_len l
    rw [nsort_eq (by omega), rsort_eq (by omega), sortU_sortQ]
    simp only [Option.bind_some]
    rw [equal_str (by omega), sorted_eq (sortQ_rising l) (by omega), nsort_eq (by omega)]
    have hss : sortQ (sortQ l) = sortQ l := rising_ext (sortQ_rising _) (sortQ_rising _) fun x => by rw [sortQ_mem]
    simp only [Option.bind_some, decide_true, if_true]
    rw [hss, equal_str (by omega)]
    simp
theorem ok_nameTells (s : ByteArray) : Ok Try.prog 3 [str s] (bool true) := ok_law03_NameTells s true (law_nameTells s)
theorem ok_nameBack (b : List UInt8) (s : ByteArray) : Ok Try.prog 4 [.sl 1 (b.map u8), str s] (bool true) := ok_law03_NameBack b s true (law_nameBack b s)
theorem ok_nameSorts (l : List ByteArray) : Ok Try.prog 5 [.sl 1 (l.map str)] (bool true) := ok_law03_NameSorts l true (law_nameSorts l)
end Go.Proofs.Ytlgikchfddhocaa.AL

/- Whether any text may be a name, and its bytes, are what the document says: for every text. -/
namespace Go.Proofs.Ytlgikchfddhocaa
theorem nameTells_holds : Rows.NameTellsSaid := holds_nameTells_of fun s _ => AL.ok_nameTells s
#print axioms nameTells_holds
end Go.Proofs.Ytlgikchfddhocaa

