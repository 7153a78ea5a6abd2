/- What of the attributes of any stack, and of any node, may not be, is what the document says: part 46 of 50. -/
import Derived.Test.YtapdjibjnfeipaaGreatDoorB45
set_option linter.all false
/- Models of functions, and that the functions are as their models: written by gen.py. -/
set_option linter.all false
set_option maxRecDepth 100000
namespace Go.Proofs.YtapdjibjnfeipaaGreatDoor.AL
open Go Go.Proofs
end Go.Proofs.YtapdjibjnfeipaaGreatDoor.AL

/- Plain laws of chapters 17 and 20: names, trees, whiteouts. -/
set_option linter.all false
namespace Go.Proofs.YtapdjibjnfeipaaGreatDoor.AL
open Go Go.Proofs
theorem places_eq {a b : List Place} (h : a.length ≤ 1000000000) : m_ref16_Places a b = some (decide (a = b)) := by
  unfold m_ref16_Places
  by_cases hl : a.length = b.length
  · rw [if_pos (by omega), eqLoop hl h]
    · by_cases he : a = b <;> simp [he]
    · intro i h1 h2
      simp only [m_ref16_Places_b0]
      rw [if_pos (by omega), ix_at h1, ix_at h2]
      simp only [Option.bind_some, decide_eq_true_eq]
      rw [wr_suc (by omega)]
    · simp only [m_ref16_Places_b0]
      rw [if_neg (by omega)]
  · rw [if_neg (by omega)]
    have : ¬ a = b := by rintro rfl; exact hl rfl
    simp [this]
theorem same_eq {a b : View} (h : a.lower.length ≤ 1000000000) : m_ref17_SameView a b = some (decide (a = b)) := by
  unfold m_ref17_SameView
  rw [places_eq h]
  obtain ⟨u, l⟩ := a
  obtain ⟨u', l'⟩ := b
  simp only [Option.bind_some, View.mk.injEq]
  by_cases h1 : u = u' <;> by_cases h2 : l = l' <;> simp [h1, h2]
theorem same_refl {a : View} (h : a.lower.length ≤ 1000000000) : m_ref17_SameView a a = some true := by rw [same_eq h]; simp
theorem myDirsV {b : Branch} (hb : PB b) {fr : List Int} (hf : fr.length ≤ 1000) : m_walk_Dirs b fr = some (walkP b fr).2.1 := by
  obtain ⟨M, hM⟩ := my_walk_walk_Dirs hb hf
  unfold m_walk_Dirs
  rw [hM]
  rfl
theorem refDirsV {b : Branch} (hb : PB b) {fr : List Int} (hf : fr.length ≤ 1000) : m_ref13_Dirs b fr = some (walkP b fr).2.1 := by
  unfold m_ref13_Dirs
  rw [(ref_walk hb hf).1]
  rfl
theorem waysV_len {b : Branch} (hb : PB b) {fr : List Int} (hf : fr.length ≤ 1000) : (walkP b fr).2.1.length ≤ 24 := Nat.le_trans (ref_walk hb hf).2.li.wi.len hb.len
def treeSt (s : Stack) (acc : List View) (w : Way) : List View := acc ++ [if 0 ≤ w.up then ⟨w.ino, partV s ((acc[w.up.toNat]?).getD ⟨0, []⟩) (nodeP s.upper w.ino) w.name⟩ else rootV s]
def treeV (s : Stack) : List View := (walkP s.upper [1]).2.1.foldl (treeSt s) []
structure TV (s : Stack) (ws : List Way) (i : Nat) (acc : List View) : Prop where
  len : acc.length = i
  low : ∀ x ∈ acc, x.lower.length ≤ 3
  at' : ∀ (j : Nat) (x : View), acc[j]? = some x → ∃ w, ws[j]? = some w ∧ x.upper = w.ino ∧ (opqV (nodeP s.upper w.ino) = true → x.lower = [])
theorem TV.nil (s : Stack) (ws : List Way) : TV s ws 0 [] := ⟨rfl, by simp, by simp⟩
theorem TV.step {s : Stack} (h : SV s) {ws : List Way} {i : Nat} {acc : List View} (t : TV s ws i acc) {w : Way} (hw : ws[i]? = some w) (hu : w.up < (i : Int)) (hf : w.up < 0 → w.ino ∈ [(1 : Int)]) (hk : (nodeP s.upper w.ino).kind = 1) : TV s ws (i + 1) (treeSt s acc w) := by
  have hlen := t.len
  have hx : ∀ x, x = (if 0 ≤ w.up then (⟨w.ino, partV s ((acc[w.up.toNat]?).getD ⟨0, []⟩) (nodeP s.upper w.ino) w.name⟩ : View) else rootV s) → x.lower.length ≤ 3 ∧ x.upper = w.ino ∧ (opqV (nodeP s.upper w.ino) = true → x.lower = []) := by
    rintro x rfl
    by_cases h0 : 0 ≤ w.up
    · rw [if_pos h0]
      have hlt : w.up.toNat < acc.length := by omega
      rw [List.getElem?_eq_getElem hlt, Option.getD_some]
      exact ⟨partV_len h (t.low _ (List.getElem_mem hlt)) (Nat.le_refl 3) _ _, rfl, fun ho => partV_opq ho⟩
    · rw [if_neg h0]
      have h1 : w.ino = 1 := by simpa using hf (by omega)
      rw [h1] at hk ⊢
      refine ⟨rootV_len h, ?_, fun ho => ?_⟩
      · unfold rootV
        exact if_pos hk
      · unfold rootV
        exact if_pos ho
  obtain ⟨x1, x2, x3⟩ := hx _ rfl
  unfold treeSt
  refine ⟨by rw [List.length_append, hlen]; rfl, ?_, ?_⟩
  · intro x hx
    rcases List.mem_append.1 hx with hx | hx
    · exact t.low x hx
    · obtain rfl := List.mem_singleton.1 hx
      exact x1
  · intro j x hj
    rw [List.getElem?_append] at hj
    split at hj
    · exact t.at' j x hj
    · rename_i hnj
      have hj2 : j = i := by
        have := (List.getElem?_eq_some_iff.1 hj).1
        simp at this
        omega
      subst hj2
      rw [hlen, Nat.sub_self] at hj
      obtain rfl : _ = x := by simpa using hj
      exact ⟨w, hw, x2, x3⟩
theorem tree_way {s : Stack} (h : SV s) (hb : PB s.upper) {i : Nat} (hi : i < (walkP s.upper [1]).2.1.length) :
    (walkP s.upper [1]).2.1[i].up < (i : Int) ∧ ((walkP s.upper [1]).2.1[i].up < 0 → (walkP s.upper [1]).2.1[i].ino ∈ [(1 : Int)]) ∧ (nodeP s.upper (walkP s.upper [1]).2.1[i].ino).kind = 1 := by
  have hu := walk_up s.upper [1] i _ (List.getElem?_eq_getElem hi)
  have hd := (ref_walk hb (fr := [1]) (by simp)).2.li.wi.dir _ (List.getElem_mem hi)
  exact ⟨hu.1, hu.2, hd⟩
theorem tree_eq {s : Stack} (h : SV s) (hb : PB s.upper) : m_view_Tree s = some ((walkP s.upper [1]).2.1, treeV s) ∧ TV s (walkP s.upper [1]).2.1 (walkP s.upper [1]).2.1.length (treeV s) := by
  unfold m_view_Tree
  have hwl := waysV_len hb (fr := [1]) (by simp)
  rw [myDirsV hb (by simp)]
  simp only [Option.bind_some]
  have := iter_fold (B := m_view_Tree_b0 s (walkP s.upper [1]).2.1) (fun i d => (d, (i : Int))) (walkP s.upper [1]).2.1 (treeSt s) (fun d => d) (fun i d => TV s (walkP s.upper [1]).2.1 i d) (by
    intro i d hi t
    obtain ⟨hu, hf, hk⟩ := tree_way h hb hi
    have ht := t.step h (List.getElem?_eq_getElem hi) hu hf hk
    refine ⟨?_, ht⟩
    simp only [m_view_Tree_b0]
    have hlen := t.len
    rw [if_pos (by omega), ix_at hi]
    simp only [Option.bind_some]
    rw [vroot_eq h, wr_suc (by omega)]
    simp only [Option.bind_some]
    generalize (walkP s.upper [1]).2.1[i] = w at *
    unfold treeSt
    by_cases h0 : 0 ≤ w.up
    · have hlt : w.up.toNat < d.length := by omega
      rw [if_pos h0, if_pos h0, ix_of h0 (by omega), List.getElem?_eq_getElem hlt]
      simp only [Option.bind_some, Option.getD_some, stack_eta]
      rw [vnode_eq h]
      simp only [Option.bind_some]
      have hl3 := t.low _ (List.getElem_mem hlt)
      rw [part_eq h (by omega) (nodeP_nv h.up _)]
      simp only [Option.bind_some]
      rw [ap_of (by simp; omega) (by decide)]
      rfl
    · rw [if_neg h0, if_neg h0, ap_of (by simp; omega) (by decide)]
      rfl) (by
    intro d t
    simp only [m_view_Tree_b0]
    rw [if_neg (by omega)]) (s0 := []) (TV.nil s _) (fuel := big) (by rw [big_eq]; omega)
  have e0 : ((0 : Nat) : Int) = 0 := rfl
  rw [e0] at this
  refine ⟨?_, this.2⟩
  rw [this.1]
  rfl
theorem rtree_eq {s : Stack} (h : SV s) (hb : PB s.upper) : m_ref17_Tree s = some ((walkP s.upper [1]).2.1, treeV s) := by
  unfold m_ref17_Tree
  have hwl := waysV_len hb (fr := [1]) (by simp)
  rw [refDirsV hb (by simp)]
  simp only [Option.bind_some]
  have := iter_fold (B := m_ref17_Tree_b0 s (walkP s.upper [1]).2.1) (fun i d => (d, (i : Int))) (walkP s.upper [1]).2.1 (treeSt s) (fun d => d) (fun i d => TV s (walkP s.upper [1]).2.1 i d) (by
    intro i d hi t
    obtain ⟨hu, hf, hk⟩ := tree_way h hb hi
    have ht := t.step h (List.getElem?_eq_getElem hi) hu hf hk
    refine ⟨?_, ht⟩
    simp only [m_ref17_Tree_b0]
    have hlen := t.len
    rw [if_pos (by omega), ix_at hi]
    simp only [Option.bind_some]
    rw [rroot_eq h, wr_suc (by omega)]
    simp only [Option.bind_some]
    generalize (walkP s.upper [1]).2.1[i] = w at *
    unfold treeSt
    by_cases h0 : 0 ≤ w.up
    · have hlt : w.up.toNat < d.length := by omega
      rw [if_neg (by omega), if_pos h0, ix_of h0 (by omega), List.getElem?_eq_getElem hlt]
      simp only [Option.bind_some, Option.getD_some]
      have hl3 := t.low _ (List.getElem_mem hlt)
      rw [rpart_eq h (by omega)]
      simp only [Option.bind_some]
      rw [ap_of (by simp; omega) (by decide)]
      rfl
    · rw [if_pos (by omega), if_neg h0, ap_of (by simp; omega) (by decide)]
      rfl) (by
    intro d t
    simp only [m_ref17_Tree_b0]
    rw [if_neg (by omega)]) (s0 := []) (TV.nil s _) (fuel := big) (by rw [big_eq]; omega)
  have e0 : ((0 : Nat) : Int) = 0 := rfl
  rw [e0] at this
  rw [this.1]
  rfl
end Go.Proofs.YtapdjibjnfeipaaGreatDoor.AL

