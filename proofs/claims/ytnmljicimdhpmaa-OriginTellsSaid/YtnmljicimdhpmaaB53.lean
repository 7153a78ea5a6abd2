/- What of the attributes of any stack, and of any node, may not be, is what the document says: part 53 of 53. -/
import Derived.Test.YtnmljicimdhpmaaB52
set_option linter.all false
/- Models of functions, and that the functions are as their models: written by gen.py. -/
set_option linter.all false
set_option maxRecDepth 100000
namespace Go.Proofs.Ytnmljicimdhpmaa.AL
open Go Go.Proofs
end Go.Proofs.Ytnmljicimdhpmaa.AL

/- Plain laws, part 5: chapter 24. -/
set_option linter.all false
namespace Go.Proofs.Ytnmljicimdhpmaa.AL
open Go Go.Proofs

theorem bits (k : Fin 32) : bAnd .i64 (k.val : Int) 4 = 0 ↔ ¬ (wr ((k.val : Int).tdiv 4)).tmod 2 = 1 := by
  revert k
  decide +kernel
structure PN (b : Branch) : Prop where
  len : b.nodes.length ≤ 24
  nb : ∀ x ∈ b.nodes, NB x
theorem PN.pb {b : Branch} (h : PN b) : PB b := ⟨h.len, fun x hx => (h.nb x hx).ents⟩
theorem nodeP_nb {b : Branch} (h : PN b) (ino : Int) : NB (nodeP b ino) := by
  unfold nodeP
  split
  · exact ⟨by simp [zeroNode], by simp [zeroNode], by simp [zeroNode]⟩
  · split
    · exact ⟨by simp [zeroNode], by simp [zeroNode], by simp [zeroNode]⟩
    · have hlt : (ino - 1).toNat < b.nodes.length := by omega
      simp only [List.getElem?_eq_getElem hlt, Option.getD_some]
      exact h.nb _ (List.getElem_mem hlt)
def inB (b : Branch) (ino : Int) : Bool := ((reachP b [1])[(ino - 1).toNat]?).getD false
theorem reach_ix {b : Branch} {ino : Int} (h1 : 1 ≤ ino) (h2 : ino ≤ (b.nodes.length : Int)) (hn : b.nodes.length ≤ 24) : ix (reachP b [1]) (wr (ino - 1)) = some (inB b ino) := by
  have hl := reachP_len b [1]
  rw [wr_in (by omega) (by omega), ix_of (by omega) (by omega)]
  unfold inB
  rw [List.getElem?_eq_getElem (by omega)]
  rfl
/-! ### The findings -/
end Go.Proofs.Ytnmljicimdhpmaa.AL

/- Plain laws, part 6: ImpureTells. -/
set_option linter.all false
namespace Go.Proofs.Ytnmljicimdhpmaa.AL
open Go Go.Proofs

theorem equal_refl_Finding {l : List Finding} (h : l.length ≤ 1000) : m_slices_Equal_api_Finding_api_Finding l l = some true := by
  unfold m_slices_Equal_api_Finding_api_Finding
  rw [if_pos rfl]
  obtain ⟨r, h1, h2⟩ := iter_term (B := m_slices_Equal_api_Finding_api_Finding_b0 l l) (R := fun r => ∃ u, r = .inl u) (fun i t => t = (i : Int) ∧ i ≤ l.length) l.length (by
    rintro i t ⟨rfl, hi⟩
    refine ⟨hi, ?_⟩
    simp only [m_slices_Equal_api_Finding_api_Finding_b0]
    by_cases hlt : i < l.length
    · rw [if_pos (by omega), ix_at hlt]
      simp only [Option.bind_some]
      rw [if_pos (by simp), wr_suc (by omega)]
      exact .inl ⟨_, rfl, rfl, by omega⟩
    · rw [if_neg (by omega)]
      exact .inr ⟨_, rfl, _, rfl⟩) big 0 0 ⟨rfl, by omega⟩ (by rw [big_eq]; omega)
  obtain ⟨u, rfl⟩ := h2
  rw [h1]
  rfl
theorem SB.pn {s : Stack} (h : SB s) : PN s.upper := ⟨h.up.1, h.up.2⟩
end Go.Proofs.Ytnmljicimdhpmaa.AL

/- Plain laws, part 8: OriginTells. -/
set_option linter.all false
namespace Go.Proofs.Ytnmljicimdhpmaa.AL
open Go Go.Proofs

noncomputable def staleB (s : Stack) (x : Node) : Bool := (m_origin_Stale s x).getD false
noncomputable def lacksB (s : Stack) (x : Node) : Bool := (m_origin_Lacks s x).getD false
theorem staleB_eq {s : Stack} (hs : SB s) {x : Node} (h : NB x) : m_origin_Stale s x = some (staleB s x) ∧ m_ref22_Stale s x = some (staleB s x) := by
  obtain ⟨r, h1, h2⟩ := stale_eq hs h
  unfold staleB
  rw [h1, h2]
  exact ⟨rfl, rfl⟩
theorem lacksB_eq {s : Stack} (hs : SB s) {x : Node} (h : NB x) : m_origin_Lacks s x = some (lacksB s x) ∧ m_ref22_Lacks s x = some (lacksB s x) := by
  obtain ⟨r, h1, h2⟩ := lacks_eq hs h
  unfold lacksB
  rw [h1, h2]
  exact ⟨rfl, rfl⟩
noncomputable def wrongB (s : Stack) (c : Int) (x : Node) : Bool := if c = 8 then oddP x else if c = 13 then staleB s x else lacksB s x
theorem wrongB_eq {s : Stack} (hs : SB s) (c : Int) {x : Node} (h : NB x) : m_origin_wrong s c x = some (wrongB s c x) := by
  unfold m_origin_wrong wrongB
  by_cases h1 : c = 8
  · rw [if_pos h1, if_pos h1, (odd_eq h).1]; rfl
  rw [if_neg h1, if_neg h1]
  by_cases h2 : c = 13
  · rw [if_pos h2, if_pos h2, (staleB_eq hs h).1]; rfl
  rw [if_neg h2, if_neg h2, (lacksB_eq hs h).1]; rfl
def fnd2 (c : Int) (i : Nat) : Finding := ⟨c, 0, (i : Int) + 1, -1⟩
noncomputable def oStep (s : Stack) (c : Int) (acc : List Finding) (i : Nat) : List Finding := if inB s.upper ((i : Int) + 1) = true ∧ wrongB s c (nodeP s.upper ((i : Int) + 1)) = true then acc ++ [fnd2 c i] else acc
theorem oStep_len (s : Stack) (c : Int) (acc : List Finding) (i : Nat) : (oStep s c acc i).length ≤ acc.length + 1 := by unfold oStep; split <;> simp
noncomputable def oRow (s : Stack) (acc : List Finding) (c : Int) : List Finding := (List.range s.upper.nodes.length).foldl (oStep s c) acc
theorem oFold_len (s : Stack) (c : Int) : ∀ (l : List Nat) (acc : List Finding), (l.foldl (oStep s c) acc).length ≤ acc.length + l.length
  | [], acc => by simp
  | i :: l, acc => by
    rw [List.foldl_cons]
    have := oFold_len s c l (oStep s c acc i)
    have := oStep_len s c acc i
    simp only [List.length_cons]
    omega
theorem oRow_len (s : Stack) (acc : List Finding) (c : Int) : (oRow s acc c).length ≤ acc.length + s.upper.nodes.length := by
  have := oFold_len s c (List.range s.upper.nodes.length) acc
  unfold oRow
  simpa using this
theorem node_ix {b : Branch} (hn : b.nodes.length ≤ 24) {i : Nat} (hi : i < b.nodes.length) : ix b.nodes (i : Int) = some (nodeP b ((i : Int) + 1)) := by
  have := nodeP_in (b := b) (ino := (i : Int) + 1) (by omega) (by omega) hn
  rwa [wr_in (by omega) (by omega), show (i : Int) + 1 - 1 = (i : Int) by omega] at this
theorem in_ix {b : Branch} (hn : b.nodes.length ≤ 24) {i : Nat} (hi : i < b.nodes.length) : ix (reachP b [1]) (i : Int) = some (inB b ((i : Int) + 1)) := by
  have := reach_ix (b := b) (ino := (i : Int) + 1) (by omega) (by omega) hn
  rwa [wr_in (by omega) (by omega), show (i : Int) + 1 - 1 = (i : Int) by omega] at this
theorem my_row {s : Stack} (hs : SB s) (c : Int) {acc : List Finding} (ha : acc.length ≤ 200) : iter (m_origin_Findings_b1 s (reachP s.upper [1]) c) big (acc, 0) = some (oRow s acc c) := by
  have h := hs.pn
  have hn := h.len
  have hl := reachP_len s.upper [1]
  have key := (iter_fold (B := m_origin_Findings_b1 s (reachP s.upper [1]) c) (fun (i : Nat) (acc : List Finding) => (acc, (i : Int))) (List.range s.upper.nodes.length) (oStep s c) (fun acc => acc) (fun i a => a.length ≤ acc.length + i) (by
    intro i a hi hlen
    simp only [List.length_range] at hi
    simp only [List.getElem_range]
    refine ⟨?_, by have := oStep_len s c a i; omega⟩
    have hw1 : wr ((i : Int) + 1) = (i : Int) + 1 := wr_in (by omega) (by omega)
    have hap : ap 32 a [fnd2 c i] = some (a ++ [fnd2 c i]) := ap_of (by simp; omega) (by omega)
    unfold fnd2 at hap
    simp only [m_origin_Findings_b1]
    rw [if_pos (by omega), in_ix hn hi, hw1]
    simp only [Option.bind_some]
    unfold oStep
    cases hi1 : inB s.upper ((i : Int) + 1) with
    | false => simp
    | true =>
      rw [if_neg (by simp), node_ix hn hi]
      simp only [Option.bind_some]
      rw [wrongB_eq hs c (nodeP_nb h _)]
      simp only [Option.bind_some]
      cases hw : wrongB s c (nodeP s.upper ((i : Int) + 1)) with
      | false => simp
      | true =>
        rw [if_neg (by simp), if_pos (by simp), hap]
        rfl) (by
    intro a hlen
    simp only [m_origin_Findings_b1, List.length_range]
    rw [if_neg (by omega)]) (s0 := acc) (by simp) (fuel := big) (by rw [big_eq]; simp; omega)).1
  exact key
noncomputable def oFind (s : Stack) : List Finding := ([8, 13, 14] : List Int).foldl (oRow s) []
theorem myO_eq {s : Stack} (hs : SB s) : m_origin_Findings s = some (oFind s) := by
  have hn := hs.pn.len
  unfold m_origin_Findings
  rw [walkReach_eq hs.pn.pb (by simp)]
  simp only [Option.bind_some]
  have key := (iter_fold (B := m_origin_Findings_b0 s (reachP s.upper [1])) (fun (i : Nat) (acc : List Finding) => (acc, (i : Int))) ([8, 13, 14] : List Int) (oRow s) (fun acc => acc) (fun i a => a.length ≤ 24 * i) (by
    intro i a hi hlen
    simp only [List.length_cons, List.length_nil] at hi
    refine ⟨?_, by have := oRow_len s a ([8, 13, 14] : List Int)[i]; omega⟩
    simp only [m_origin_Findings_b0]
    rw [if_pos (by omega), ix_at (xs := ([8, 13, 14] : List Int)) (by simpa using hi)]
    simp only [Option.bind_some]
    rw [my_row hs _ (by omega), wr_suc (by omega)]
    rfl) (by
    intro a hlen
    simp only [m_origin_Findings_b0]
    rw [if_neg (by simp)]) (s0 := []) (by simp) (fuel := big) (by rw [big_eq]; simp)).1
  rw [show ((0 : Nat) : Int) = 0 from rfl] at key
  rw [key]
  rfl
def inC (c : Int) : Bool := decide (c = 8) || decide (c = 13) || decide (c = 14)
noncomputable def rStep (s : Stack) (c : Int) (acc : List Finding) (i : Nat) : List Finding := if inC c = true then oStep s c acc i else acc
noncomputable def rRow (s : Stack) (acc : List Finding) (c : Int) : List Finding := if inC c = true then oRow s acc c else acc
theorem rStep_fold (s : Stack) (c : Int) (acc : List Finding) : (List.range s.upper.nodes.length).foldl (rStep s c) acc = rRow s acc c := by
  unfold rRow
  by_cases h : inC c = true
  · rw [if_pos h]
    have : rStep s c = oStep s c := by funext a i; unfold rStep; rw [if_pos h]
    rw [this]
    rfl
  · rw [if_neg h]
    have : rStep s c = fun a _ => a := by funext a i; unfold rStep; rw [if_neg h]
    rw [this]
    generalize List.range s.upper.nodes.length = l
    induction l with
    | nil => rfl
    | cons x l ih => simpa using ih
theorem rStep_len (s : Stack) (c : Int) (acc : List Finding) (i : Nat) : (rStep s c acc i).length ≤ acc.length + 1 := by
  unfold rStep
  split
  · exact oStep_len s c acc i
  · omega
theorem ref_row {s : Stack} (hs : SB s) (c : Int) {acc : List Finding} (ha : acc.length ≤ 200) : iter (m_ref22_Findings_b1 s (reachP s.upper [1]) c) big (acc, 0) = some (rRow s acc c) := by
  have h := hs.pn
  have hn := h.len
  have hl := reachP_len s.upper [1]
  have key := (iter_fold (B := m_ref22_Findings_b1 s (reachP s.upper [1]) c) (fun (i : Nat) (acc : List Finding) => (acc, (i : Int))) (List.range s.upper.nodes.length) (rStep s c) (fun acc => acc) (fun i a => a.length ≤ acc.length + i) (by
    intro i a hi hlen
    simp only [List.length_range] at hi
    simp only [List.getElem_range]
    refine ⟨?_, by have := rStep_len s c a i; omega⟩
    have hw1 : wr ((i : Int) + 1) = (i : Int) + 1 := wr_in (by omega) (by omega)
    have hap : ap 32 a [fnd2 c i] = some (a ++ [fnd2 c i]) := ap_of (by simp; omega) (by omega)
    have hnb := nodeP_nb h ((i : Int) + 1)
    have n1 := node_ix hn hi
    have i1 := in_ix hn hi
    have o1 := (odd_eq hnb).2
    have s1 := (staleB_eq hs hnb).2
    have l1 := (lacksB_eq hs hnb).2
    simp only [m_ref22_Findings_b1]
    rw [if_pos (by omega), n1, hw1]
    simp only [Option.bind_some, o1, s1, l1, i1]
    unfold rStep oStep wrongB inC
    unfold fnd2 at hap ⊢
    by_cases c8 : c = 8
    · subst c8
      cases h1 : inB s.upper ((i : Int) + 1) <;> cases h2 : oddP (nodeP s.upper ((i : Int) + 1)) <;> simp [h1, h2, hap]
    · by_cases c13 : c = 13
      · subst c13
        cases h1 : inB s.upper ((i : Int) + 1) <;> cases h2 : staleB s (nodeP s.upper ((i : Int) + 1)) <;> simp [h1, h2, hap]
      · by_cases c14 : c = 14
        · subst c14
          cases h1 : inB s.upper ((i : Int) + 1) <;> cases h2 : lacksB s (nodeP s.upper ((i : Int) + 1)) <;> simp [h1, h2, hap]
        · cases h1 : inB s.upper ((i : Int) + 1) <;> simp [h1, c8, c13, c14]) (by
    intro a hlen
    simp only [m_ref22_Findings_b1, List.length_range]
    rw [if_neg (by omega)]) (s0 := acc) (by simp) (fuel := big) (by rw [big_eq]; simp; omega)).1
  rw [rStep_fold] at key
  exact key
theorem rRow_len (s : Stack) (acc : List Finding) (c : Int) : (rRow s acc c).length ≤ acc.length + s.upper.nodes.length := by
  unfold rRow
  split
  · exact oRow_len s acc c
  · omega
theorem refO_eq {s : Stack} (hs : SB s) : m_ref22_Findings s = some (oFind s) := by
  have hn := hs.pn.len
  unfold m_ref22_Findings
  rw [refReach_eq hs.pn.pb (by simp)]
  simp only [Option.bind_some]
  have key := (iter_fold (B := m_ref22_Findings_b0 s (reachP s.upper [1])) (fun (i : Nat) (acc : List Finding) => (acc, (i : Int) + 8)) (List.range 7) (fun acc (i : Nat) => rRow s acc ((i : Int) + 8)) (fun acc => acc) (fun i a => a.length ≤ 24 * i) (by
    intro i a hi hlen
    simp only [List.length_range] at hi
    simp only [List.getElem_range]
    refine ⟨?_, by have := rRow_len s a ((i : Int) + 8); omega⟩
    simp only [m_ref22_Findings_b0]
    rw [if_pos (by omega)]
    rw [ref_row hs _ (by omega)]
    simp only [Option.bind_some]
    have hw : wr ((i : Int) + 8 + 1) = ((i + 1 : Nat) : Int) + 8 := by rw [wr_in (by omega) (by omega)]; omega
    rw [hw]) (by
    intro a hlen
    simp only [m_ref22_Findings_b0, List.length_range]
    rw [if_neg (by omega)]) (s0 := []) (by simp) (fuel := big) (by rw [big_eq]; simp)).1
  rw [show ((0 : Nat) : Int) + 8 = 8 from rfl] at key
  rw [key]
  simp only [Option.bind_some]
  congr 1
theorem oFind_len {s : Stack} (hs : SB s) : (oFind s).length ≤ 72 := by
  have hn := hs.pn.len
  unfold oFind
  simp only [List.foldl_cons, List.foldl_nil]
  have a := oRow_len s [] 8
  have b := oRow_len s (oRow s [] 8) 13
  have c := oRow_len s (oRow s (oRow s [] 8) 13) 14
  simp only [List.length_nil] at a
  omega
theorem law_originTells (s : Stack) (n : Node) : m_law22_OriginTells s n = some true := by
  unfold m_law22_OriginTells
  obtain ⟨r, h1, h2⟩ := stack_tot s
  rw [h1]
  simp only [Option.bind_some]
  cases r with
  | false => rfl
  | true =>
    have hs := h2 rfl
    rw [if_neg (by simp)]
    obtain ⟨q, g1, g2⟩ := node_tot n
    rw [g1]
    simp only [Option.bind_some]
    cases q with
    | false => rfl
    | true =>
      have hb := g2 rfl
      rw [if_neg (by simp), myO_eq hs, refO_eq hs]
      simp only [Option.bind_some]
      have := oFind_len hs
      rw [equal_refl_Finding (by omega), (odd_eq hb).1, (odd_eq hb).2, (staleB_eq hs hb).1, (staleB_eq hs hb).2, (lacksB_eq hs hb).1, (lacksB_eq hs hb).2]
      simp only [Option.bind_some, if_true]
      cases oddP n <;> cases staleB s n <;> cases lacksB s n <;> simp [m_law22_awake]
theorem ok_originTells (s : Stack) (n : Node) : Ok Try.prog 6 [encStack s, encNode n] (bool true) := ok_law22_OriginTells s n true (law_originTells s n)
end Go.Proofs.Ytnmljicimdhpmaa.AL

/- What of any stack's attributes, and of any node's, may not be, is what the document says: for every stack and every node. -/
namespace Go.Proofs.Ytnmljicimdhpmaa
theorem originTells_holds : Rows.OriginTellsSaid := holds_originTells_of fun s n _ _ => AL.ok_originTells s n
#print axioms originTells_holds
end Go.Proofs.Ytnmljicimdhpmaa

