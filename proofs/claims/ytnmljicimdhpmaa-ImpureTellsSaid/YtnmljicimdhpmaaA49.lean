/- What any node of any stack should say of copies, and which say otherwise, is what the document says: part 49 of 49. -/
import Derived.Test.YtnmljicimdhpmaaA48
set_option linter.all false
/- Plain laws, part 5: chapter 24. -/
set_option linter.all false
namespace Go.Proofs.Ytnmljicimdhpmaa.AL
open Go Go.Proofs

theorem bits (k : Fin 32) : bAnd .i64 (k.val : Int) 4 = 0 ↔ ¬ (wr ((k.val : Int).tdiv 4)).tmod 2 = 1 := by
  revert k
  decide +kernel
theorem bit_iff {h : Int} (h0 : 0 ≤ h) (h1 : h ≤ 31) : bAnd .i64 h 4 = 0 ↔ ¬ (wr (h.tdiv 4)).tmod 2 = 1 := by
  have := bits ⟨h.toNat, by omega⟩
  rwa [show ((h.toNat : Nat) : Int) = h by omega] at this
def hasO (x : Node) : Bool := decide ((wr (x.attr.has.tdiv 4)).tmod 2 = 1)
structure PN (b : Branch) : Prop where
  len : b.nodes.length ≤ 24
  nb : ∀ x ∈ b.nodes, NB x
theorem PN.pb {b : Branch} (h : PN b) : PB b := ⟨h.len, fun x hx => (h.nb x hx).ents⟩
theorem nodeP_nb {b : Branch} (h : PN b) (ino : Int) : NB (nodeP b ino) := by
  unfold nodeP
  split
  · exact ⟨by simp [zeroNode], by simp [zeroNode], by simp [zeroNode]⟩
  · split
    · exact ⟨by simp [zeroNode], by simp [zeroNode], by simp [zeroNode]⟩
    · have hlt : (ino - 1).toNat < b.nodes.length := by omega
      simp only [List.getElem?_eq_getElem hlt, Option.getD_some]
      exact h.nb _ (List.getElem_mem hlt)
theorem hasO_zero : hasO zeroNode = false := by decide +kernel
theorem copied_eq {b : Branch} (h : PN b) (ino : Int) : m_impure_copied b ino = some (hasO (nodeP b ino)) := by
  have hn := h.len
  unfold m_impure_copied
  by_cases h1 : 1 ≤ ino
  · rw [if_pos h1]
    by_cases h2 : ino ≤ (b.nodes.length : Int)
    · rw [if_pos h2, nodeP_in (by omega) (by omega) hn]
      simp only [Option.bind_some]
      have hb := nodeP_nb h ino
      rw [if_pos hb.has0]
      have := bit_iff hb.has0 hb.has1
      by_cases hz : bAnd .i64 (nodeP b ino).attr.has 4 = 0
      · rw [if_pos hz]
        have := this.1 hz
        simp [hasO, this]
      · rw [if_neg hz]
        have : (wr ((nodeP b ino).attr.has.tdiv 4)).tmod 2 = 1 := Classical.byContradiction fun hc => hz (this.2 hc)
        simp [hasO, this]
    · rw [if_neg h2, nodeP_out (.inr (by omega)), hasO_zero]
  · rw [if_neg h1, nodeP_out (.inl (by omega)), hasO_zero]
theorem refHas_eq {x : Node} (h : NB x) : m_ref09_Has x.attr 4 = some (hasO x) := by
  unfold m_ref09_Has m_ref09_has ck
  rw [if_pos h.has0, if_pos (by decide)]
  simp only [Option.bind_some]
  unfold hasO
  by_cases hc : (wr (x.attr.has.tdiv 4)).tmod 2 = 1
  · rw [if_pos hc]; simp [hc]
  · rw [if_neg hc]; simp [hc]
def wantP (b : Branch) (x : Node) : Int := if x.kind = 1 ∧ (x.entries.any fun e => hasO (nodeP b e.ino)) = true then 121 else 0
theorem want_eq {b : Branch} (h : PN b) {x : Node} (hx : NB x) : m_impure_want b x = some (wantP b x) := by
  unfold m_impure_want wantP
  have he := hx.ents
  by_cases hk : x.kind = 1
  · rw [if_pos hk, contains_tot (f := fun e => hasO (nodeP b e.ino)) x.entries (fun e _ => by unfold m_impure_want_1; rw [copied_eq h]; rfl) (by omega)]
    simp only [Option.bind_some]
    by_cases ha : (x.entries.any fun e => hasO (nodeP b e.ino)) = true
    · rw [if_pos ha, if_pos ⟨hk, ha⟩]
    · rw [if_neg ha, if_neg (fun h => ha h.2)]
  · rw [if_neg hk, if_neg (fun h => hk h.1)]
theorem refWant_loop {s : Stack} (h : PN s.upper) {x : Node} (hx : NB x) : ∃ r, iter (m_ref24_Want_b0 s x) big 0 = some r ∧ (match r with | .inl _ => (0 : Int) | .inr v => v) = if (x.entries.any fun e => hasO (nodeP s.upper e.ino)) = true then 121 else 0 := by
  have he := hx.ents
  refine iter_term (B := m_ref24_Want_b0 s x) (fun i t => t = (i : Int) ∧ i ≤ x.entries.length ∧ ∀ j (hj : j < x.entries.length), j < i → hasO (nodeP s.upper x.entries[j].ino) = false) x.entries.length (by
    rintro i t ⟨rfl, hi, hp⟩
    refine ⟨hi, ?_⟩
    simp only [m_ref24_Want_b0]
    by_cases hlt : i < x.entries.length
    · rw [if_pos (by omega), ix_at hlt]
      simp only [Option.bind_some]
      rw [at_eq h.pb]
      simp only [Option.bind_some]
      rw [refHas_eq (nodeP_nb h _)]
      simp only [Option.bind_some]
      by_cases ho : hasO (nodeP s.upper x.entries[i].ino) = true
      · rw [if_pos ho]
        refine .inr ⟨_, rfl, ?_⟩
        rw [if_pos (List.any_eq_true.2 ⟨_, List.getElem_mem hlt, ho⟩)]
      · rw [if_neg ho, wr_suc (by omega)]
        refine .inl ⟨_, rfl, rfl, by omega, fun j hj hji => ?_⟩
        by_cases e : j = i
        · subst e; simpa using ho
        · exact hp j hj (by omega)
    · rw [if_neg (by omega)]
      refine .inr ⟨_, rfl, ?_⟩
      rw [if_neg]
      intro ha
      obtain ⟨e, he, ho⟩ := List.any_eq_true.1 ha
      obtain ⟨j, hj, rfl⟩ := List.getElem_of_mem he
      rw [hp j hj (by omega)] at ho
      cases ho) big 0 0 ⟨rfl, by omega, fun j _ h => by omega⟩ (by rw [big_eq]; omega)
def inB (b : Branch) (ino : Int) : Bool := ((reachP b [1])[(ino - 1).toNat]?).getD false
def WantP (b : Branch) (ino : Int) : Int := if 1 ≤ ino ∧ ino ≤ (b.nodes.length : Int) ∧ inB b ino = true then wantP b (nodeP b ino) else 0
theorem reach_ix {b : Branch} {ino : Int} (h1 : 1 ≤ ino) (h2 : ino ≤ (b.nodes.length : Int)) (hn : b.nodes.length ≤ 24) : ix (reachP b [1]) (wr (ino - 1)) = some (inB b ino) := by
  have hl := reachP_len b [1]
  rw [wr_in (by omega) (by omega), ix_of (by omega) (by omega)]
  unfold inB
  rw [List.getElem?_eq_getElem (by omega)]
  rfl
theorem myWant_eq {s : Stack} (h : PN s.upper) (ino : Int) : m_impure_Want s ino = some (WantP s.upper ino) := by
  have hn := h.len
  have hl := reachP_len s.upper [1]
  unfold m_impure_Want WantP
  rw [walkReach_eq h.pb (by simp)]
  simp only [Option.bind_some]
  by_cases h1 : ino < 1
  · rw [if_pos h1, if_neg (fun h => by omega)]
  rw [if_neg h1]
  by_cases h2 : ((reachP s.upper [1]).length : Int) < ino
  · rw [if_pos h2, if_neg (fun h => by omega)]
  rw [if_neg h2, reach_ix (by omega) (by omega) hn]
  simp only [Option.bind_some]
  cases hi : inB s.upper ino with
  | false => simp
  | true =>
    rw [if_neg (by simp), if_pos ⟨by omega, by omega, rfl⟩, nodeP_in (by omega) (by omega) hn]
    simp only [Option.bind_some]
    rw [want_eq h (nodeP_nb h _)]
    rfl
theorem refWant_eq {s : Stack} (h : PN s.upper) (ino : Int) : m_ref24_Want s ino = some (WantP s.upper ino) := by
  have hn := h.len
  unfold m_ref24_Want WantP
  rw [at_eq h.pb]
  simp only [Option.bind_some]
  by_cases hk : (nodeP s.upper ino).kind = 1
  · obtain ⟨r1, r2⟩ := nodeP_kind hk
    rw [if_pos hk, refReach_eq h.pb (by simp)]
    simp only [Option.bind_some]
    rw [reach_ix r1 r2 hn]
    simp only [Option.bind_some]
    cases hi : inB s.upper ino with
    | false => simp
    | true =>
      rw [if_neg (by simp), if_pos ⟨r1, r2, rfl⟩]
      obtain ⟨r, e1, e2⟩ := refWant_loop h (nodeP_nb h ino)
      rw [e1]
      simp only [Option.bind_some]
      have hw : wantP s.upper (nodeP s.upper ino) = if ((nodeP s.upper ino).entries.any fun e => hasO (nodeP s.upper e.ino)) = true then 121 else 0 := by
        unfold wantP
        simp only [hk, true_and]
      rw [hw, ← e2]
      cases r <;> rfl
  · rw [if_neg hk]
    congr 1
    split
    · unfold wantP
      rw [if_neg (fun h => hk h.1)]
    · rfl
/-! ### The findings -/
def fnd (i : Nat) : Finding := ⟨18, 0, (i : Int) + 1, -1⟩
def askP (b : Branch) (i : Nat) : Bool := inB b ((i : Int) + 1) || (decide ((nodeP b ((i : Int) + 1)).kind = 1) && (decide (i + 1 = 2) || decide (i + 1 = 3)))
def findStep (b : Branch) (acc : List Finding) (i : Nat) : List Finding := if askP b i = true ∧ ¬ (nodeP b ((i : Int) + 1)).impure = WantP b ((i : Int) + 1) then acc ++ [fnd i] else acc
def findP (b : Branch) : List Finding := (List.range b.nodes.length).foldl (findStep b) []
theorem findStep_len (b : Branch) (acc : List Finding) (i : Nat) : (findStep b acc i).length ≤ acc.length + 1 := by
  unfold findStep; split <;> simp
theorem myFind_eq {s : Stack} (h : PN s.upper) : m_impure_Findings s = some (findP s.upper) := by
  have hn := h.len
  have hl := reachP_len s.upper [1]
  unfold m_impure_Findings
  rw [walkReach_eq h.pb (by simp)]
  simp only [Option.bind_some]
  have key := (iter_fold (B := m_impure_Findings_b0 s (reachP s.upper [1])) (fun (i : Nat) (acc : List Finding) => (acc, (i : Int))) (List.range s.upper.nodes.length) (findStep s.upper) (fun acc => acc) (fun i acc => acc.length ≤ i) (by
    intro i acc hi ha
    simp only [List.length_range] at hi
    simp only [List.getElem_range]
    refine ⟨?_, by have := findStep_len s.upper acc i; omega⟩
    have hir : i < (reachP s.upper [1]).length := by omega
    have hnode : ix s.upper.nodes (i : Int) = some (nodeP s.upper ((i : Int) + 1)) := by
      have := nodeP_in (b := s.upper) (ino := (i : Int) + 1) (by omega) (by omega) hn
      rwa [wr_in (by omega) (by omega), show (i : Int) + 1 - 1 = (i : Int) by omega] at this
    have hin : ix (reachP s.upper [1]) (i : Int) = some (inB s.upper ((i : Int) + 1)) := by
      have := reach_ix (b := s.upper) (ino := (i : Int) + 1) (by omega) (by omega) hn
      rwa [wr_in (by omega) (by omega), show (i : Int) + 1 - 1 = (i : Int) by omega] at this
    have hw1 : wr ((i : Int) + 1) = (i : Int) + 1 := wr_in (by omega) (by omega)
    simp only [m_impure_Findings_b0]
    rw [if_pos (by omega), hin, hnode]
    simp only [Option.bind_some]
    have hap : ap 32 acc [fnd i] = some (acc ++ [fnd i]) := ap_of (by simp; omega) (by omega)
    unfold findStep askP
    rw [hw1]
    cases hi1 : inB s.upper ((i : Int) + 1) with
    | true =>
      rw [if_pos rfl, want_eq h (nodeP_nb h _)]
      simp only [Option.bind_some, Bool.true_or, true_and]
      have hW : WantP s.upper ((i : Int) + 1) = wantP s.upper (nodeP s.upper ((i : Int) + 1)) := by
        unfold WantP; rw [if_pos ⟨by omega, by omega, hi1⟩]
      rw [hW]
      by_cases hc : (nodeP s.upper ((i : Int) + 1)).impure = wantP s.upper (nodeP s.upper ((i : Int) + 1))
      · rw [if_pos hc, if_neg (fun h => h hc)]; rfl
      · rw [if_neg hc, if_pos hc]
        unfold fnd at hap
        rw [hap]
        rfl
    | false =>
      have hW : WantP s.upper ((i : Int) + 1) = 0 := by
        unfold WantP; rw [if_neg (fun h => by rw [hi1] at h; exact absurd h.2.2 (by simp))]
      rw [hW, if_neg (by simp)]
      simp only [Bool.false_or]
      by_cases hk : (nodeP s.upper ((i : Int) + 1)).kind = 1
      · rw [if_pos hk]
        by_cases h2 : i + 1 = 2
        · rw [if_pos (by omega)]
          by_cases hc : (nodeP s.upper ((i : Int) + 1)).impure = 0
          · rw [if_pos hc, if_neg (fun h => h.2 hc)]; rfl
          · rw [if_neg hc, if_pos ⟨by simp [hk, h2], hc⟩]
            unfold fnd at hap
            rw [hap]
            rfl
        · rw [if_neg (by omega)]
          by_cases h3 : i + 1 = 3
          · rw [if_pos (by omega)]
            by_cases hc : (nodeP s.upper ((i : Int) + 1)).impure = 0
            · rw [if_pos hc, if_neg (fun h => h.2 hc)]; rfl
            · rw [if_neg hc, if_pos ⟨by simp [hk, h3], hc⟩]
              unfold fnd at hap
              rw [hap]
              rfl
          · rw [if_neg (by omega), if_neg (fun h => by simp [h2, h3] at h)]; rfl
      · rw [if_neg hk, if_neg (fun h => by simp [hk] at h)]; rfl) (by
    intro acc ha
    simp only [m_impure_Findings_b0, List.length_range]
    rw [if_neg (by omega)]) (s0 := []) (by simp) (fuel := big) (by rw [big_eq]; simp; omega)).1
  rw [show ((0 : Nat) : Int) = 0 from rfl] at key
  rw [key]
  rfl
end Go.Proofs.Ytnmljicimdhpmaa.AL

/- Plain laws, part 6: ImpureTells. -/
set_option linter.all false
namespace Go.Proofs.Ytnmljicimdhpmaa.AL
open Go Go.Proofs

theorem refFind_eq {s : Stack} (h : PN s.upper) : m_ref24_Findings s = some (findP s.upper) := by
  have hn := h.len
  have hl := reachP_len s.upper [1]
  unfold m_ref24_Findings
  rw [refReach_eq h.pb (by simp)]
  simp only [Option.bind_some]
  have key := (iter_fold (B := m_ref24_Findings_b0 s (reachP s.upper [1])) (fun (i : Nat) (acc : List Finding) => (acc, (i : Int) + 1)) (List.range s.upper.nodes.length) (findStep s.upper) (fun acc => acc) (fun i acc => acc.length ≤ i) (by
    intro i acc hi ha
    simp only [List.length_range] at hi
    simp only [List.getElem_range]
    refine ⟨?_, by have := findStep_len s.upper acc i; omega⟩
    have hir : i < (reachP s.upper [1]).length := by omega
    have hin := reach_ix (b := s.upper) (ino := (i : Int) + 1) (by omega) (by omega) hn
    have hw1 : wr ((i : Int) + 1 + 1) = (((i + 1 : Nat) : Int) + 1) := by rw [wr_in (by omega) (by omega)]; omega
    simp only [m_ref24_Findings_b0]
    rw [if_pos (by omega), at_eq h.pb, hin]
    simp only [Option.bind_some]
    have hap : ap 32 acc [fnd i] = some (acc ++ [fnd i]) := ap_of (by simp; omega) (by omega)
    unfold fnd at hap
    unfold findStep askP fnd
    rw [hw1]
    cases hi1 : inB s.upper ((i : Int) + 1) with
    | true =>
      rw [if_pos rfl, refWant_eq h]
      simp only [Option.bind_some, Bool.true_or, true_and]
      by_cases hc : (nodeP s.upper ((i : Int) + 1)).impure = WantP s.upper ((i : Int) + 1)
      · rw [if_pos hc, if_neg (fun h => h hc)]
      · rw [if_neg hc, if_pos hc, hap]
        rfl
    | false =>
      rw [if_neg (by simp)]
      simp only [Bool.false_or]
      by_cases hk : (nodeP s.upper ((i : Int) + 1)).kind = 1
      · rw [if_pos hk]
        by_cases h2 : i + 1 = 2
        · rw [if_pos (by omega), refWant_eq h]
          simp only [Option.bind_some]
          by_cases hc : (nodeP s.upper ((i : Int) + 1)).impure = WantP s.upper ((i : Int) + 1)
          · rw [if_pos hc, if_neg (fun h => h.2 hc)]
          · rw [if_neg hc, if_pos ⟨by simp [hk, h2], hc⟩, hap]
            rfl
        · rw [if_neg (by omega)]
          by_cases h3 : i + 1 = 3
          · rw [if_pos (by omega), refWant_eq h]
            simp only [Option.bind_some]
            by_cases hc : (nodeP s.upper ((i : Int) + 1)).impure = WantP s.upper ((i : Int) + 1)
            · rw [if_pos hc, if_neg (fun h => h.2 hc)]
            · rw [if_neg hc, if_pos ⟨by simp [hk, h3], hc⟩, hap]
              rfl
          · rw [if_neg (by omega), if_neg (fun h => by simp [h2, h3] at h)]
      · rw [if_neg hk, if_neg (fun h => by simp [hk] at h)]) (by
    intro acc ha
    simp only [m_ref24_Findings_b0, List.length_range]
    rw [if_neg (by omega)]) (s0 := []) (by simp) (fuel := big) (by rw [big_eq]; simp; omega)).1
  rw [show ((0 : Nat) : Int) + 1 = 1 from rfl] at key
  rw [key]
  rfl
theorem findP_len (b : Branch) : (findP b).length ≤ b.nodes.length := by
  have : ∀ (l : List Nat) (acc : List Finding), (l.foldl (findStep b) acc).length ≤ acc.length + l.length := by
    intro l
    induction l with
    | nil => intro acc; simp
    | cons i l ih =>
      intro acc
      rw [List.foldl_cons]
      have := ih (findStep b acc i)
      have := findStep_len b acc i
      simp only [List.length_cons]
      omega
  have := this (List.range b.nodes.length) []
  unfold findP
  simpa using this
theorem equal_refl_Finding {l : List Finding} (h : l.length ≤ 1000) : m_slices_Equal_api_Finding_api_Finding l l = some true := by
  unfold m_slices_Equal_api_Finding_api_Finding
  rw [if_pos rfl]
  obtain ⟨r, h1, h2⟩ := iter_term (B := m_slices_Equal_api_Finding_api_Finding_b0 l l) (R := fun r => ∃ u, r = .inl u) (fun i t => t = (i : Int) ∧ i ≤ l.length) l.length (by
    rintro i t ⟨rfl, hi⟩
    refine ⟨hi, ?_⟩
    simp only [m_slices_Equal_api_Finding_api_Finding_b0]
    by_cases hlt : i < l.length
    · rw [if_pos (by omega), ix_at hlt]
      simp only [Option.bind_some]
      rw [if_pos (by simp), wr_suc (by omega)]
      exact .inl ⟨_, rfl, rfl, by omega⟩
    · rw [if_neg (by omega)]
      exact .inr ⟨_, rfl, _, rfl⟩) big 0 0 ⟨rfl, by omega⟩ (by rw [big_eq]; omega)
  obtain ⟨u, rfl⟩ := h2
  rw [h1]
  rfl
theorem SB.pn {s : Stack} (h : SB s) : PN s.upper := ⟨h.up.1, h.up.2⟩
theorem law_impureTells (s : Stack) (ino : Int) : m_law24_ImpureTells s ino = some true := by
  unfold m_law24_ImpureTells
  obtain ⟨r, h1, h2⟩ := stack_tot s
  rw [h1]
  simp only [Option.bind_some]
  cases r with
  | false => rfl
  | true =>
    have h := (h2 rfl).pn
    rw [if_neg (by simp), myFind_eq h, refFind_eq h]
    simp only [Option.bind_some]
    have := findP_len s.upper
    have := h.len
    rw [equal_refl_Finding (by omega)]
    simp only [Option.bind_some]
    rw [myWant_eq h, refWant_eq h]
    simp only [if_true, Option.bind_some]
    rfl
theorem ok_impureTells (s : Stack) (ino : Int) : Ok Try.prog 3 [encStack s, int ino] (bool true) := ok_law24_ImpureTells s ino true (law_impureTells s ino)
end Go.Proofs.Ytnmljicimdhpmaa.AL

/- What any node of any stack should say of copies, and which say otherwise, is what the document says: for every stack and every number. -/
namespace Go.Proofs.Ytnmljicimdhpmaa
theorem impureTells_holds : Rows.ImpureTellsSaid := holds_impureTells_of fun s ino _ _ => AL.ok_impureTells s ino
#print axioms impureTells_holds
end Go.Proofs.Ytnmljicimdhpmaa

