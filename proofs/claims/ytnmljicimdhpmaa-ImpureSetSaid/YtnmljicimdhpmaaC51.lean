/- A law of the given program is proved: part 51 of 51. -/
import Derived.Test.YtnmljicimdhpmaaC50
set_option linter.all false
/- The table of functions for closed runs; written by tabgen.py. -/
set_option linter.all false
namespace Go.Proofs.Ytnmljicimdhpmaa.AL
open Go Go.Proofs
end Go.Proofs.Ytnmljicimdhpmaa.AL

/- Models of functions, and that the functions are as their models: written by gen.py. -/
set_option linter.all false
set_option maxRecDepth 100000
namespace Go.Proofs.Ytnmljicimdhpmaa.AL
open Go Go.Proofs
end Go.Proofs.Ytnmljicimdhpmaa.AL

/- Plain laws, part 7: chapter 22. -/
set_option linter.all false
namespace Go.Proofs.Ytnmljicimdhpmaa.AL
open Go Go.Proofs

end Go.Proofs.Ytnmljicimdhpmaa.AL

/- Plain laws, part 8: OriginTells. -/
set_option linter.all false
namespace Go.Proofs.Ytnmljicimdhpmaa.AL
open Go Go.Proofs

end Go.Proofs.Ytnmljicimdhpmaa.AL

/- Plain laws, part 9: ImpureSet, OriginNone. -/
set_option linter.all false
namespace Go.Proofs.Ytnmljicimdhpmaa.AL
open Go Go.Proofs

/-- Layers that have the same tree. -/
structure Sm (b c : Branch) : Prop where
  len : c.nodes.length = b.nodes.length
  k : ∀ i, (nodeP c i).kind = (nodeP b i).kind
  e : ∀ i, (nodeP c i).entries = (nodeP b i).entries
theorem Sm.walk {b c : Branch} (h : Sm b c) (fr : List Int) : walkP c fr = walkP b fr := by
  have h1 : eStep c = eStep b := by
    funext k ino s e
    unfold eStep
    rw [h.k]
  have h2 : wStep c = wStep b := by
    funext k s
    unfold wStep
    rw [h.e, h1]
  have h3 : fStep c = fStep b := by
    funext t r
    unfold fStep wLoop
    rw [h.k, h2]
  unfold walkP
  rw [h3]
theorem Sm.reach {b c : Branch} (h : Sm b c) (fr : List Int) : reachP c fr = reachP b fr := by
  unfold reachP reachW reachL
  rw [h.walk, h.len]
  simp only [h.e]
/-- What stands at each place of a row of nodes, told by its places. -/
theorem nodeP_of {b c : Branch} (hl : c.nodes.length = b.nodes.length) {f : Nat → Node → Node} (h : ∀ j x, b.nodes[j]? = some x → c.nodes[j]? = some (f j x)) (ino : Int) : (∃ j : Nat, ino = (j : Int) + 1 ∧ j < b.nodes.length ∧ nodeP c ino = f j (nodeP b ino)) ∨ ((ino < 1 ∨ (b.nodes.length : Int) < ino) ∧ nodeP c ino = zeroNode ∧ nodeP b ino = zeroNode) := by
  by_cases h1 : ino < 1
  · exact .inr ⟨.inl h1, nodeP_out (.inl h1), nodeP_out (.inl h1)⟩
  by_cases h2 : (b.nodes.length : Int) < ino
  · exact .inr ⟨.inr h2, nodeP_out (.inr (by omega)), nodeP_out (.inr h2)⟩
  refine .inl ⟨(ino - 1).toNat, by omega, by omega, ?_⟩
  have hlt : (ino - 1).toNat < b.nodes.length := by omega
  have e1 : nodeP b ino = b.nodes[(ino - 1).toNat] := by
    unfold nodeP
    rw [if_neg h1, if_neg h2, List.getElem?_eq_getElem hlt]; rfl
  have e2 := h _ _ (List.getElem?_eq_getElem hlt)
  rw [e1]
  unfold nodeP
  rw [if_neg h1, if_neg (by omega), e2]; rfl
/-! ### ImpureSet -/
def setW (b : Branch) (j : Nat) (x : Node) : Node := { x with impure := WantP b ((j : Int) + 1) }
theorem set_loop {s : Stack} (h : PN s.upper) : ∃ v, iter (m_law24_ImpureSet_b0 s s.upper.nodes) big (0, s.upper.nodes) = some v ∧ v.length = s.upper.nodes.length ∧ ∀ j x, s.upper.nodes[j]? = some x → v[j]? = some (setW s.upper j x) := by
  have hn := h.len
  refine iter_term (B := m_law24_ImpureSet_b0 s s.upper.nodes) (R := fun v => v.length = s.upper.nodes.length ∧ ∀ j x, s.upper.nodes[j]? = some x → v[j]? = some (setW s.upper j x))
    (fun i t => t.1 = (i : Int) ∧ i ≤ s.upper.nodes.length ∧ t.2.length = s.upper.nodes.length ∧ ∀ j x, s.upper.nodes[j]? = some x → t.2[j]? = some (if j < i then setW s.upper j x else x)) s.upper.nodes.length ?_ big 0 _ ⟨rfl, by omega, rfl, fun j x hx => by simp [hx]⟩ (by rw [big_eq]; omega)
  rintro i ⟨q, v⟩ ⟨h1, h2, h3, h4⟩
  simp only at h1 h3 h4
  subst h1
  refine ⟨h2, ?_⟩
  simp only [m_law24_ImpureSet_b0]
  by_cases hi : i < s.upper.nodes.length
  · have hw1 : wr ((i : Int) + 1) = (i : Int) + 1 := wr_in (by omega) (by omega)
    rw [if_pos (by omega), hw1, myWant_eq h]
    simp only [Option.bind_some]
    have hx := List.getElem?_eq_getElem hi
    have hv := h4 i _ hx
    rw [if_neg (by omega)] at hv
    have hv2 : v[i]'(by omega) = s.upper.nodes[i] := by
      rw [List.getElem?_eq_getElem (by omega)] at hv
      exact Option.some.inj hv
    rw [ix_at (by omega)]
    simp only [Option.bind_some]
    refine .inl ⟨_, rfl, by simp, by omega, by simpa using h3, ?_⟩
    intro j x hj
    simp only [Int.toNat_natCast, List.getElem?_set]
    by_cases e : i = j
    · subst e
      rw [if_pos rfl, if_pos (by omega), if_pos (by omega)]
      rw [hx] at hj
      obtain rfl := Option.some.inj hj
      rw [hv2]
      rfl
    · rw [if_neg e, h4 j x hj]
      by_cases c : j < i
      · rw [if_pos c, if_pos (by omega)]
      · rw [if_neg c, if_neg (by omega)]
  · rw [if_neg (by omega)]
    refine .inr ⟨_, rfl, h3, fun j x hj => ?_⟩
    have := (List.getElem?_eq_some_iff.1 hj).1
    rw [h4 j x hj, if_pos (by omega)]
theorem clone_node {l : List Node} (h : l.length ≤ 24) : cloneM 144 l = some l := by
  unfold cloneM
  rw [ap_of (by simp; omega) (by omega)]
  rfl
theorem law_impureSet (s : Stack) : m_law24_ImpureSet s = some true := by
  unfold m_law24_ImpureSet
  obtain ⟨r, h1, h2⟩ := stack_tot s
  rw [h1]
  simp only [Option.bind_some]
  cases r with
  | false => rfl
  | true =>
    have h := (h2 rfl).pn
    rw [if_neg (by simp), clone_node h.len]
    simp only [Option.bind_some]
    obtain ⟨v, e1, e2, e3⟩ := set_loop h
    rw [e1]
    simp only [Option.bind_some]
    have hnode := nodeP_of (b := s.upper) (c := ⟨v⟩) e2 e3
    have hs : Sm s.upper ⟨v⟩ := ⟨e2, fun i => by rcases hnode i with ⟨j, _, _, e⟩ | ⟨_, e, e'⟩; exact (congrArg Node.kind e).trans rfl; exact congrArg Node.kind (e.trans e'.symm), fun i => by rcases hnode i with ⟨j, _, _, e⟩ | ⟨_, e, e'⟩; exact (congrArg Node.entries e).trans rfl; exact congrArg Node.entries (e.trans e'.symm)⟩
    have hat : ∀ i, (nodeP ⟨v⟩ i).attr = (nodeP s.upper i).attr := fun i => by rcases hnode i with ⟨j, _, _, e⟩ | ⟨_, e, e'⟩; exact (congrArg Node.attr e).trans rfl; exact congrArg Node.attr (e.trans e'.symm)
    have hp : PN (⟨v⟩ : Branch) := ⟨by show v.length ≤ 24; rw [e2]; exact h.len, fun x hx => by
      obtain ⟨j, hj, rfl⟩ := List.getElem_of_mem (show x ∈ v from hx)
      have hj' : j < s.upper.nodes.length := by omega
      have e := e3 j _ (List.getElem?_eq_getElem hj')
      rw [List.getElem?_eq_getElem hj] at e
      rw [Option.some.inj e]
      have := h.nb _ (List.getElem_mem hj')
      exact ⟨this.ents, this.has0, this.has1⟩⟩
    have hW : ∀ i, WantP ⟨v⟩ i = WantP s.upper i := by
      intro i
      have ho : ∀ j, hasO (nodeP ⟨v⟩ j) = hasO (nodeP s.upper j) := fun j => by unfold hasO; rw [hat]
      unfold WantP inB wantP
      rw [hs.reach, hs.k, hs.e, e2]
      simp only [ho]
    rw [myFind_eq (s := ⟨_, ⟨v⟩, _⟩) hp]
    simp only [Option.bind_some]
    have hf : findP ⟨v⟩ = [] := by
      unfold findP
      have key : ∀ (l : List Nat), (∀ i ∈ l, i < v.length) → l.foldl (findStep ⟨v⟩) [] = [] := by
        intro l
        induction l with
        | nil => intro _; rfl
        | cons i l ih =>
          intro hl
          have hi := hl i (by simp)
          rw [List.foldl_cons]
          have : findStep ⟨v⟩ [] i = [] := by
            unfold findStep
            rw [if_neg]
            rintro ⟨_, hne⟩
            refine hne ?_
            rw [hW]
            rcases hnode ((i : Int) + 1) with ⟨j, e4, _, e5⟩ | ⟨e4, _⟩
            · rw [e5]
              obtain rfl : i = j := by omega
              rfl
            · omega
          rw [this]
          exact ih fun x hx => hl x (by simp [hx])
      exact key _ fun i hi => by simpa using hi
    rw [hf, if_pos (by simp)]
    rfl
theorem ok_impureSet (s : Stack) : Ok Try.prog 4 [encStack s] (bool true) := ok_law24_ImpureSet s true (law_impureSet s)
/-! ### OriginNone -/
end Go.Proofs.Ytnmljicimdhpmaa.AL

/- If all nodes of a stack say of copies as they should, none is told: for every stack. -/
namespace Go.Proofs.Ytnmljicimdhpmaa
theorem impureSet_holds : Rows.ImpureSetSaid := holds_impureSet_of fun s _ => AL.ok_impureSet s
#print axioms impureSet_holds
end Go.Proofs.Ytnmljicimdhpmaa

