/- A law of the given program is proved: part 18 of 50. -/
import Derived.Test.YtefdlpandfhcgaaGreatDoorA17
set_option linter.all false
/- AL, part 16: a region whose order is open: whatever order is drawn, it comes to what the order of the text comes to. -/
set_option linter.unusedSimpArgs false
namespace Go.Proofs.YtefdlpandfhcgaaGreatDoor.AL
open Go.RowKit
theorem xcy {P : Program} {op : Op} {V : Nat → Option AO} {new : Nat} {ρ : Operand → AV} {v : AV} {us : Upds} (h : evalOp P op V new ρ = some (v, us)) : okU V new (xmc op) us := by
  have free : ∀ {x : Option AV}, (x.map fun v => (v, ([] : Upds))) = some (v, us) → okU V new (xmc op) us := by
    intro x h
    obtain ⟨v', h1, h2⟩ := Option.map_eq_some_iff.1 h
    injection h2 with h2 h3
    subst h3
    intro p hp
    cases hp
  have one : ∀ {o : Option AO}, us = [(new, o)] → okU V new (xmc op) us := by
    intro o e p hp
    rw [e] at hp
    simp at hp
    exact .inl (by rw [hp])
  have app : ∀ {t : TypeId} {s : AV} {N : Nat → Option (List AV)} {c : Call}, op = .call c → c.callee = .builtin .append → x8e P t V s N new = some (v, us) → okU V new (xmc op) us := by
    intro t s N c hop hcal h
    unfold x8e at h
    split at h
    · split at h
      · split at h
        · rename_i ol xs ys hol hnews
          split at h
          · injection h with h
            injection h with h1 h2
            subst h2
            intro p hp
            simp only [List.mem_append] at hp
            rcases hp with hp | hp
            · cases ol with
              | none => cases hp
              | some l =>
                simp [killU] at hp
                refine .inr ⟨by simp [hop, xmc, hcal], ?_⟩
                rw [hp]
                unfold oldsOf at hol
                split at hol
                · split at hol
                  · rename_i hl
                    split at hol
                    · injection hol with hol
                      injection hol with hol1 hol2
                      injection hol1 with hol1
                      subst hol1
                      simp [hl]
                    · cases hol
                  · cases hol
                · injection hol with hol; injection hol with hol1 hol2; cases hol1
                · injection hol with hol; injection hol with hol1 hol2; cases hol1
                · cases hol
            · simp at hp
              exact .inl (by rw [hp])
          · cases h
        · cases h
      · cases h
    · cases h
  unfold evalOp at h
  split at h
  · unfold xcj at h
    split at h
    · split at h
      · injection h with h; injection h with h1 h2; exact one h2.symm
      · cases h
    · cases h
  · unfold xdm at h
    split at h
    · split at h
      · injection h with h; injection h with h1 h2; exact one h2.symm
      · cases h
    · cases h
  · unfold xif at h
    split at h
    · split at h
      · split at h
        · obtain ⟨v', h1, h2⟩ := Option.map_eq_some_iff.1 h
          injection h2 with h2 h3
          exact one h3.symm
        · cases h
      · cases h
    · cases h
  · unfold xmd at h
    split at h
    · split at h
      · split at h
        · split at h
          · injection h with h; injection h with h1 h2; exact one h2.symm
          · cases h
        · cases h
      · cases h
    · cases h
  · unfold xog at h
    injection h with h; injection h with h1 h2; exact one h2.symm
  · exact free h
  · obtain ⟨us', h1, h2⟩ := Option.map_eq_some_iff.1 h
    injection h2 with h2 h3
    subst h3
    unfold xjd at h1
    split at h1
    · split at h1
      · rename_i hl
        split at h1
        · split at h1
          · injection h1 with h1
            subst h1
            intro p hp
            simp at hp
            exact .inr ⟨rfl, by rw [hp]; simp [hl]⟩
          · injection h1 with h1
            subst h1
            intro p hp
            simp at hp
            exact .inr ⟨rfl, by rw [hp]; simp [hl]⟩
        · cases h1
      · cases h1
    · unfold xkh at h1
      split at h1
      · rename_i hl _
        split at h1
        · split at h1
          · split at h1
            · injection h1 with h1
              subst h1
              intro p hp
              simp at hp
              exact .inr ⟨rfl, by rw [hp]; simp [hl]⟩
            · cases h1
          · injection h1 with h1
            subst h1
            intro p hp
            simp at hp
            exact .inr ⟨rfl, by rw [hp]; simp [hl]⟩
          · cases h1
        · cases h1
      · cases h1
    · cases h1
  · unfold xkf at h
    split at h
    · split at h
      · rename_i hl _
        split at h
        · split at h
          · split at h
            · split at h
              · injection h with h
                injection h with h1 h2
                subst h2
                intro p hp
                simp at hp
                exact .inr ⟨rfl, by rw [hp]; simp [hl]⟩
              · cases h
            · cases h
          · obtain ⟨z, hz, h2⟩ := Option.map_eq_some_iff.1 h
            injection h2 with h1 h2
            subst h2
            intro p hp
            simp at hp
            exact .inr ⟨rfl, by rw [hp]; simp [hl]⟩
          · cases h
        · cases h
      · cases h
    · cases h
  · obtain ⟨us', h1, h2⟩ := Option.map_eq_some_iff.1 h
    injection h2 with h2 h3
    subst h3
    unfold xgh at h1
    split at h1
    · split at h1
      · rename_i hl
        obtain ⟨j, hj, h2⟩ := Option.map_eq_some_iff.1 h1
        subst h2
        intro p hp
        simp at hp
        exact .inr ⟨rfl, by rw [hp]; simp [hl]⟩
      · cases h1
    · cases h1
  · exact free h
  · obtain ⟨us', h1, h2⟩ := Option.map_eq_some_iff.1 h
    injection h2 with h2 h3
    subst h3
    unfold x6b at h1
    split at h1
    · split at h1
      · split at h1
        · split at h1
          · rename_i hl
            split at h1
            · split at h1
              · obtain ⟨x', g1, g2⟩ := Option.map_eq_some_iff.1 h1
                subst g2
                intro p hp
                simp at hp
                exact .inr ⟨rfl, by rw [hp]; simp [hl]⟩
              · cases h1
            · cases h1
          · cases h1
        · cases h1
      · cases h1
    · cases h1
  · split at h <;> exact free h
  · rename_i c
    split at h
    · rename_i hcal
      split at h
      · split at h
        · exact app rfl hcal h
        · split at h
          · exact app rfl hcal h
          · cases h
      · cases h
    · rename_i hcal
      split at h
      · unfold xal at h
        split at h
        · split at h
          · split at h
            · split at h
              · split at h
                · injection h with h
                  injection h with h1 h2
                  subst h2
                  intro p hp
                  cases hp
                · split at h
                  · rename_i hl
                    split at h
                    · injection h with h
                      injection h with h1 h2
                      subst h2
                      intro p hp
                      simp at hp
                      exact .inr ⟨by simp [xmc, hcal], by rw [hp]; simp [hl]⟩
                    · cases h
                  · cases h
              · cases h
            · cases h
          · cases h
        · cases h
      · cases h
    · rename_i hcal
      split at h
      · unfold xyj at h
        split at h
        · split at h
          · rename_i hl _
            split at h
            · split at h
              · injection h with h
                injection h with h1 h2
                subst h2
                intro p hp
                simp at hp
                exact .inr ⟨by simp [xmc, hcal], by rw [hp]; simp [hl]⟩
              · injection h with h
                injection h with h1 h2
                subst h2
                intro p hp
                simp at hp
                exact .inr ⟨by simp [xmc, hcal], by rw [hp]; simp [hl]⟩
              · cases h
            · cases h
          · cases h
        · cases h
      · cases h
    · exact free h
  · exact free h
theorem StepsR.front {P : Program} {ops : Array Oper} {B : List Nat} {rd : List Bool} {nx i : Nat} {y : Oper} (hy : ops[i]? = some y) : ∀ (R1 R2 : List Nat) (s s' : AS),
    (∀ j ∈ R1, j < i ∧ (B.getD i 0).testBit j = false ∧ (B.getD j 0).testBit i = false ∧ ∃ x, ops[j]? = some x ∧ indep ops (rd.getD j false) (rd.getD i false) x y = true) → (xmc y.op = true → rd.getD i false = true) → StepsR P ops B rd nx (R1 ++ i :: R2) s s' → StepsR P ops B rd nx (i :: (R1 ++ R2)) s s'
  | [], R2, s, s', _, _, h => h
  | j :: R1, R2, s, s', hj, hw, h => by
    obtain ⟨s1, h1, h2⟩ := h
    obtain ⟨s2, h3, h4⟩ := StepsR.front hy R1 R2 s1 s' (fun k hk => hj k (by simp [hk])) hw h2
    obtain ⟨g1, g2, g3, x, g4, g5⟩ := hj j (by simp)
    obtain ⟨s3, k1, k2⟩ := StepR.swap g1 g4 hy g5 hw g2 g3 h1 h3
    exact ⟨s3, k1, s2, k2, h4⟩
def un (n : Nat) (listed : Array Bool) : List Nat := (List.range n).filter fun i => !listed.getD i true
theorem mem_un {n : Nat} {listed : Array Bool} {i : Nat} : i ∈ un n listed ↔ i < n ∧ listed.getD i true = false := by simp [un]
theorem x9o (n : Nat) (listed : Array Bool) : (un n listed).Pairwise (· < ·) := List.Pairwise.filter _ List.pairwise_lt_range
theorem un_set {n : Nat} {listed : Array Bool} (hs : listed.size = n) {i : Nat} (hi : i < n) {R1 R2 : List Nat} (h : un n listed = R1 ++ i :: R2) : un n (listed.setIfInBounds i true) = R1 ++ R2 := by
  have hsort := x9o n listed
  rw [h] at hsort
  have h1 : ∀ j ∈ R1, j < i := fun j hj => (List.pairwise_append.1 hsort).2.2 j hj i (by simp)
  have h2 : ∀ j ∈ R2, i < j := fun j hj => (List.pairwise_cons.1 (List.pairwise_append.1 hsort).2.1).1 j hj
  have e : un n (listed.setIfInBounds i true) = (un n listed).filter (fun k => decide (k ≠ i)) := by
    unfold un
    rw [List.filter_filter]
    apply List.filter_congr
    intro k hk
    simp only [List.mem_range] at hk
    by_cases e : k = i
    · subst e
      simp [hs, hk]
    · have : (listed.setIfInBounds i true).getD k true = listed.getD k true := by
        simp only [Array.getD_eq_getD_getElem?, Array.getElem?_setIfInBounds_ne (Ne.symm e)]
      rw [this]
      simp [e]
  rw [e, h, List.filter_append, List.filter_cons]
  simp only [ne_eq, not_true_eq_false, decide_false, Bool.false_eq_true, if_false]
  rw [List.filter_eq_self.2, List.filter_eq_self.2]
  · intro j hj; have := h2 j hj; simp; omega
  · intro j hj; have := h1 j hj; simp; omega
theorem xai {ops : Array Oper} {listed : Array Bool} {i : Nat} : i ∈ Region.ready .any ops listed ↔ i < ops.size ∧ listed.getD i true = false ∧ ∃ o, ops[i]? = some o ∧ ∀ e ∈ o.after.toList, Region.binds .any e = true → listed.getD e.on false = true := by
  simp only [Region.ready, List.mem_filter, List.mem_range, Bool.and_eq_true, Bool.not_eq_true']
  refine and_congr_right fun h => and_congr_right fun _ => ?_
  rw [Array.getElem?_eq_getElem h]
  simp only [Option.map_some, Option.getD_some, Option.some.injEq, exists_eq_left']
  rw [Array.all_eq_true_iff_forall_mem]
  simp only [Bool.or_eq_true, Bool.not_eq_true', Array.mem_toList_iff]
  refine forall_congr' fun e => forall_congr' fun _ => ?_
  cases Region.binds .any e <;> simp
structure OkD (ops : Array Oper) (B : List Nat) (rd : List Bool) : Prop where
  edges : ∀ i o, ops[i]? = some o → ∀ e ∈ o.after.toList, Region.binds .any e = true → e.on < i
  small : ∀ i, i < ops.size → B.getD i 0 < 2 ^ i
  wr : ∀ i o, ops[i]? = some o → xmc o.op = true → rd.getD i false = true
  ind : ∀ i o, ops[i]? = some o → ∀ j, j < i → (B.getD i 0).testBit j = true ∨ indep ops (rd.getD j false) (rd.getD i false) (ops.getD j default) o = true
theorem xz5 {ops : Array Oper} {rd : List Bool} (h : okD ops rd = true) : OkD ops (befsL ops.toList []) rd := by
  have key : ∀ i o, ops[i]? = some o → (o.after.toList.all (fun e => !Region.binds .any e || decide (e.on < i)) && decide ((befsL ops.toList []).getD i 0 < 2 ^ i) && (!xmc o.op || rd.getD i false) &&
      (List.range i).all fun j => ((befsL ops.toList []).getD i 0).testBit j || indep ops (rd.getD j false) (rd.getD i false) (ops.getD j default) o) = true := by
    intro i o ho
    have := List.all_eq_true.1 h (o, i) (List.mem_zipIdx_iff_getElem?.2 (by simpa using ho))
    exact this
  refine ⟨fun i o ho e he hb => ?_, fun i hi => ?_, fun i o ho hw => ?_, fun i o ho j hj => ?_⟩
  · have := key i o ho
    simp only [Bool.and_eq_true] at this
    have := List.all_eq_true.1 this.1.1.1 e he
    simpa [hb] using this
  · have := key i ops[i] (Array.getElem?_eq_getElem hi)
    simp only [Bool.and_eq_true, decide_eq_true_eq] at this
    exact this.1.1.2
  · have := key i o ho
    simp only [Bool.and_eq_true] at this
    simpa [hw] using this.1.2
  · have := key i o ho
    simp only [Bool.and_eq_true] at this
    have := List.all_eq_true.1 this.2 j (by simpa using hj)
    simpa using this
theorem xxy {ops : Array Oper} {B : List Nat} {rd : List Bool} (hok : OkD ops B rd) {listed : Array Bool} (hs : listed.size = ops.size) (h : un ops.size listed ≠ []) : Region.ready .any ops listed ≠ [] := by
  intro hr
  obtain ⟨m, ⟨hm, _⟩, hleast⟩ : ∃ m, (m ∈ un ops.size listed ∧ True) ∧ ∀ k, (k ∈ un ops.size listed ∧ True) → m ≤ k := by
    refine xyb (p := fun m => m ∈ un ops.size listed ∧ True) ?_
    cases hu : un ops.size listed with
    | nil => exact absurd hu h
    | cons x xs => exact ⟨x, by simp, trivial⟩
  obtain ⟨h1, h2⟩ := mem_un.1 hm
  have : m ∈ Region.ready .any ops listed := by
    refine xai.2 ⟨h1, h2, ops[m], Array.getElem?_eq_getElem h1, fun e he hb => ?_⟩
    have hlt := hok.edges m _ (Array.getElem?_eq_getElem h1) e he hb
    by_cases hq : listed.getD e.on true = false
    · have := hleast e.on ⟨mem_un.2 ⟨by omega, hq⟩, trivial⟩
      omega
    · have he' : e.on < listed.size := by omega
      simp [he'] at hq ⊢
      exact hq
  rw [hr] at this
  cases this
theorem xb5 {P : Program} {ops : Array Oper} {rd : List Bool} (hok : okD ops rd = true) {C : Ctx} {E0 : Env} {k0 n nx : Nat} (hfit : fits n ops = true) (hk0 : k0 ≤ nx) {Q : Exit → Act → World → Prop} {s' : AS}
    (hQ : ∀ a E, SR C E0 k0 n s' a E → Q .normal a E.w) : ∀ (fuel : Nat) (listed : Array Bool) (s : AS) (a : Act) (E : Env), listed.size = ops.size → (un ops.size listed).length = fuel →
    (∀ i k, i < ops.size → listed.getD i true = true → ((befsL ops.toList []).getD i 0).testBit k = true → listed.getD k false = true) →
    StepsR P ops (befsL ops.toList []) rd nx (un ops.size listed) s s' → SR C E0 k0 n s a E → s.nx = nx + ops.size → (∀ j, j ∈ un ops.size listed → ¬ E.K (nx + j)) → wpAny P .any ops Q fuel listed a E.w := by
  have hD := xz5 hok
  intro fuel
  induction fuel with
  | zero =>
    intro listed s a E hs hl hdown hst hS hnx hfresh
    have hu : un ops.size listed = [] := List.eq_nil_of_length_eq_zero hl
    rw [hu] at hst
    have e : s = s' := hst
    subst e
    refine ⟨?_, hQ a E hS⟩
    cases hr : Region.ready .any ops listed with
    | nil => rfl
    | cons x xs =>
      exfalso
      have hx : x ∈ Region.ready .any ops listed := by rw [hr]; simp
      obtain ⟨h1, h2, _⟩ := xai.1 hx
      have := mem_un.2 ⟨h1, h2⟩
      rw [hu] at this
      cases this
  | succ fuel ih =>
    intro listed s a E hs hl hdown hst hS hnx hfresh
    refine ⟨fun hr => absurd hr (xxy hD hs (fun e => by rw [e] at hl; simp at hl)), fun i hi => ?_⟩
    obtain ⟨h1, h2, y, hy, hedge⟩ := xai.1 hi
    have himem := mem_un.2 ⟨h1, h2⟩
    obtain ⟨R1, R2, hR⟩ := List.append_of_mem himem
    have hsort := x9o ops.size listed
    rw [hR] at hsort
    have hlt : ∀ j ∈ R1, j < i := fun j hj => (List.pairwise_append.1 hsort).2.2 j hj i (by simp)
    -- all that stands before i is listed
    have hbef : ∀ k, ((befsL ops.toList []).getD i 0).testBit k = true → listed.getD k false = true := by
      intro k hk
      have := xfm ops.toList [] i y k (by simpa using hy) (by simpa using hk)
      obtain ⟨e, he, hb, h3⟩ := this
      have hle := hedge e he hb
      rcases h3 with rfl | ⟨h3, h4⟩
      · exact hle
      · have heb := hD.edges i y hy e he hb
        refine hdown e.on k (by omega) ?_ h4
        have : e.on < listed.size := by omega
        simp [this] at hle ⊢
        exact hle
    have hfront : StepsR P ops (befsL ops.toList []) rd nx (i :: (R1 ++ R2)) s s' := by
      rw [hR] at hst
      refine StepsR.front hy R1 R2 s s' (fun j hj => ?_) (hD.wr i y hy) hst
      have hji := hlt j hj
      have hju : j ∈ un ops.size listed := by rw [hR]; simp [hj]
      obtain ⟨hjs, hjl⟩ := mem_un.1 hju
      have hjf : listed.getD j false = false := by
        have : j < listed.size := by omega
        simp [this] at hjl ⊢
        exact hjl
      have hb : ((befsL ops.toList []).getD i 0).testBit j = false := by
        cases hq : ((befsL ops.toList []).getD i 0).testBit j with
        | false => rfl
        | true => rw [hbef j hq] at hjf; cases hjf
      refine ⟨hji, hb, Nat.testBit_lt_two_pow (Nat.lt_of_lt_of_le (hD.small j hjs) (Nat.pow_le_pow_right (by omega) (by omega))), ops[j], Array.getElem?_eq_getElem hjs, ?_⟩
      rcases hD.ind i y hy j hji with h | h
      · rw [hb] at h; cases h
      · simpa [hjs] using h
    obtain ⟨s1, hstep, hrest⟩ := hfront
    have hun : un ops.size (listed.setIfInBounds i true) = R1 ++ R2 := un_set hs h1 hR
    have hdn : ∀ x, y.dst = some x → x < n := by
      intro x hx
      have := List.all_eq_true.1 hfit y (by
        obtain ⟨_, e⟩ := Array.getElem?_eq_some_iff.1 hy
        rw [← e]; simp)
      simpa [hx] using this
    have next : ∀ (a' : Act) (E' : Env), SR C E0 k0 n s1 a' E' → s1.nx = nx + ops.size → (∀ l, E'.K l → E.K l ∨ l = nx + i) → wpAny P .any ops Q fuel (listed.setIfInBounds i true) a' E'.w := by
      intro a' E' hS' hnx' hK
      refine ih _ s1 a' E' (by simpa using hs) ?_ ?_ (by rw [hun]; exact hrest) hS' hnx' ?_
      · rw [hun]
        rw [hR] at hl
        simp at hl ⊢
        omega
      · intro i' k hi' hl' hb'
        by_cases e : i' = i
        · subst e
          have hk := hbef k hb'
          by_cases ek : k = i'
          · subst ek
            simp [hs, h1]
          · simp only [Array.getD_eq_getD_getElem?, Array.getElem?_setIfInBounds_ne (Ne.symm ek)] at hk ⊢
            exact hk
        · have hl2 : listed.getD i' true = true := by
            simp only [Array.getD_eq_getD_getElem?, Array.getElem?_setIfInBounds_ne (Ne.symm e)] at hl' ⊢
            exact hl'
          have hk := hdown i' k hi' hl2 hb'
          by_cases ek : k = i
          · subst ek
            simp [hs, h1]
          · simp only [Array.getD_eq_getD_getElem?, Array.getElem?_setIfInBounds_ne (Ne.symm ek)] at hk ⊢
            exact hk
      · intro j hj kj
        rw [hun] at hj
        have hju : j ∈ un ops.size listed := by
          rw [hR]
          simp only [List.mem_append, List.mem_cons] at hj ⊢
          rcases hj with hj | hj
          · exact .inl hj
          · exact .inr (.inr hj)
        have hne : j ≠ i := by
          rintro rfl
          rw [← hun] at hj
          have := (mem_un.1 hj).2
          simp [hs, h1] at this
        rcases hK _ kj with k1 | k1
        · exact hfresh j hju k1
        · omega
    obtain ⟨o, ho, hc⟩ := hstep
    obtain rfl : y = o := by rw [hy] at ho; exact Option.some.inj ho
    unfold wpOp
    rw [hy]
    simp only
    rcases hc with ⟨hg, v, us, hop, _, rfl⟩ | ⟨hg, rfl⟩
    · rw [if_pos (x8k hS.tmps hS.size hfit hg)]
      refine .inl (hop C E s.H a hS.heap xe2 (fun x _ => ev_rep hS.tmps x) (hfresh i himem) _ _ fun u E' k1 k2 k3 k4 => ?_)
      refine next _ E' ⟨k2, hS.stab.trans k3, ?_, ?_, x4g.trans hS.size, xfc.trans hS.defers, x9g (fun t => (hS.tmps t).stab k3) hS.size hdn k1⟩ hnx k4
      · intro l kl
        show l < s.nx
        rcases k4 l kl with h | h
        · exact hS.bound l h
        · omega
      · intro l kl
        rcases k4 l kl with h | h
        · exact hS.fresh l h
        · exact .inr (by omega)
    · rw [if_neg (by rw [x8k hS.tmps hS.size hfit hg]; simp)]
      exact next _ E ⟨hS.heap, hS.stab, hS.bound, hS.fresh, x4g.trans hS.size, xfc.trans hS.defers, x9g hS.tmps hS.size hdn (xfj E)⟩ hnx fun l kl => .inl kl
def wpsD (P : Program) (ops : Array Oper) (B : List Nat) (rd : List Bool) (nx : Nat) : Nat → List Oper → AS → (AS → Prop) → Prop
  | _, [], s, K => K s
  | i, o :: rest, s, K => guardK ops o s.T
      (if isCall o.op = true then ∃ v, OpS P o (viewD nx (B.getD i 0) (rd.getD i false) s.H) (ev s.T) (nx + i) v [] ∧ wpsD P ops B rd nx (i + 1) rest ⟨putA s.T o.dst v, s.H, s.nx⟩ K
       else Got (evalOp P o.op (viewD nx (B.getD i 0) (rd.getD i false) s.H) (nx + i) (ev s.T)) fun p => wpsD P ops B rd nx (i + 1) rest ⟨putA s.T o.dst p.1, applyU s.H p.2, s.nx⟩ K)
      (wpsD P ops B rd nx (i + 1) rest ⟨putA s.T o.dst (.val undef), s.H, s.nx⟩ K)
theorem xwj {P : Program} {ops : Array Oper} {B : List Nat} {rd : List Bool} {nx : Nat} {K : AS → Prop} : ∀ (rest : List Oper) (i : Nat) (s : AS), (∀ k, rest[k]? = ops[i + k]?) → wpsD P ops B rd nx i rest s K → ∃ s', StepsR P ops B rd nx (List.range' i rest.length) s s' ∧ K s'
  | [], i, s, _, h => ⟨s, rfl, h⟩
  | o :: rest, i, s, hops, h => by
    have ho : ops[i]? = some o := by simpa using (hops 0).symm
    have hr : ∀ k, rest[k]? = ops[i + 1 + k]? := fun k => by have := hops (k + 1); simpa [Nat.add_assoc, Nat.add_comm 1 k] using this
    simp only [wpsD] at h
    rw [List.length_cons, List.range'_succ]
    rcases xvu h with ⟨hg, h⟩ | ⟨hg, h⟩
    · split at h
      · obtain ⟨v, h1, h2⟩ := h
        obtain ⟨s', h3, h4⟩ := xwj rest (i + 1) _ hr h2
        exact ⟨s', ⟨_, ⟨o, ho, .inl ⟨hg, v, [], h1, (fun _ hp => absurd hp (by simp)), rfl⟩⟩, h3⟩, h4⟩
      · obtain ⟨⟨v, us⟩, h1, h2⟩ := h
        obtain ⟨s', h3, h4⟩ := xwj rest (i + 1) _ hr h2
        exact ⟨s', ⟨_, ⟨o, ho, .inl ⟨hg, v, us, xci h1, xcy h1, rfl⟩⟩, h3⟩, h4⟩
    · obtain ⟨s', h3, h4⟩ := xwj rest (i + 1) _ hr h
      exact ⟨s', ⟨_, ⟨o, ho, .inr ⟨hg, rfl⟩⟩, h3⟩, h4⟩
theorem StepsR.nx {P : Program} {ops : Array Oper} {B : List Nat} {rd : List Bool} {nx : Nat} : ∀ (l : List Nat) (s s' : AS), StepsR P ops B rd nx l s s' → s'.nx = s.nx
  | [], s, s', h => by have e : s = s' := h; rw [e]
  | i :: l, s, s', h => by
    obtain ⟨s1, ⟨o, _, h1⟩, h2⟩ := h
    rw [StepsR.nx l s1 s' h2]
    rcases h1 with ⟨_, v, us, _, _, rfl⟩ | ⟨_, rfl⟩ <;> rfl
theorem xu5 {P : Program} {n : Nat} {Q : Exit → AS → Prop} {s : AS} {id : Nat} {ops : Array Oper} (hm : P.follows .mixedOrders = true) (hfit : fits n ops = true) {rd : List Bool} (hok : okD ops rd = true)
    (h : wpsD P ops (befsL ops.toList []) rd s.nx 0 ops.toList ⟨s.T, s.H, s.nx + ops.size⟩ (Q .normal)) : awp P n (.region id ops true) Q s := by
  intro C E0 k0 E a hk hS
  refine wp_region_any hm ?_
  have hd := Env.drew_stab E
  have hS' : SR C E0 k0 n ⟨s.T, s.H, s.nx + ops.size⟩ a E.drew := ⟨hS.heap.drew, hS.stab.trans hd, fun l kl => by have := hS.bound l kl; show l < s.nx + ops.size; omega, hS.fresh, hS.size, hS.defers, fun t => (hS.tmps t).stab hd⟩
  obtain ⟨s', h1, h2⟩ := xwj ops.toList 0 _ (fun k => by simp) h
  have hun : un ops.size (Array.replicate ops.size false) = List.range ops.size := by
    unfold un
    rw [List.filter_eq_self]
    intro i hi
    simp only [List.mem_range] at hi
    simp [hi]
  have hnx := StepsR.nx _ _ _ h1
  refine xb5 (s' := s') hok hfit hk (fun a' E' hSS => ⟨s', E', h2, by rw [hnx]; show k0 ≤ s.nx + ops.size; omega, hSS, rfl⟩) ops.size _ _ a E.drew (by simp) (by rw [hun]; simp) ?_ ?_ hS' rfl ?_
  · intro i k hi hl
    simp [hi] at hl
  · rw [hun, List.range_eq_range']
    simpa using h1
  · intro j hj kj
    have := hS.bound _ kj
    omega
end Go.Proofs.YtefdlpandfhcgaaGreatDoor.AL

/- AL: a region whose order is open, with views of the prover's own: each operation is told what it may look into (V) and what it may turn (W). -/
set_option linter.all false
namespace Go.Proofs.YtefdlpandfhcgaaGreatDoor.AL
open Go.RowKit
open Classical in
noncomputable def viewV (V : Nat → Prop) (H : Nat → Option AO) : Nat → Option AO := fun l => if V l then H l else none
theorem xso {V : Nat → Prop} {H : Nat → Option AO} : SubH (viewV V H) H := by
  intro l o h
  unfold viewV at h
  split at h
  · exact h
  · cases h
theorem xjq {V : Nat → Prop} {H H' : Nat → Option AO} (h : ∀ l, V l → H l = H' l) : viewV V H = viewV V H' := by
  funext l
  unfold viewV
  split
  · exact h l ‹_›
  · rfl
def okV (W : Nat → Prop) (new : Nat) (us : Upds) : Prop := ∀ p ∈ us, p.1 = new ∨ W p.1
structure NoMeet (nx i j : Nat) (Vi Vj Wi Wj : Nat → Prop) : Prop where
  ij : ∀ l, Wi l ∨ l = nx + i → ¬ Vj l
  ji : ∀ l, Wj l ∨ l = nx + j → ¬ Vi l
  ii : ∀ l, Wi l → Vi l
  jj : ∀ l, Wj l → Vj l
def keyed (op : Op) : Bool :=
  match op with
  | .lookup .. => true
  | .mapEntry .. => true
  | _ => false
def OpK (P : Program) (o : Oper) (V : Nat → Option AO) (ρ : Operand → AV) (new : Nat) (v : AV) (us : Upds) : Prop := OpS P o V ρ new v us ∧ (keyed o.op = true → evalOp P o.op V new ρ = some (v, us))
theorem OpK.congr {P : Program} {o : Oper} {V : Nat → Option AO} {ρ ρ' : Operand → AV} {new : Nat} {v : AV} {us : Upds} (h : OpK P o V ρ new v us) (he : ∀ x ∈ o.op.operands.toList, ρ x = ρ' x) : OpK P o V ρ' new v us := by
  refine ⟨h.1.congr he, fun hk => ?_⟩
  have h2 := h.2 hk
  cases e : o.op <;> rw [e] at hk h2 he <;> first
    | (simp [keyed] at hk; done)
    | (simp only [evalOp] at h2 ⊢
       rw [← he _ (by simp [Op.operands]), ← he _ (by simp [Op.operands])]
       exact h2)
def StepV (P : Program) (ops : Array Oper) (V W : Nat → Nat → Prop) (nx : Nat) (i : Nat) (s s' : AS) : Prop :=
  ∃ o, ops[i]? = some o ∧
    ((gd ops o s.T = some true ∧ ∃ v us, OpK P o (viewV (V i) s.H) (ev s.T) (nx + i) v us ∧ okV (W i) (nx + i) us ∧ s' = ⟨putA s.T o.dst v, applyU s.H us, s.nx⟩) ∨
     (gd ops o s.T = some false ∧ s' = ⟨putA s.T o.dst (.val undef), s.H, s.nx⟩))
def StepsV (P : Program) (ops : Array Oper) (V W : Nat → Nat → Prop) (nx : Nat) : List Nat → AS → AS → Prop
  | [], s, s' => s = s'
  | i :: is, s, s' => ∃ s1, StepV P ops V W nx i s s1 ∧ StepsV P ops V W nx is s1 s'
theorem StepV.swap {P : Program} {ops : Array Oper} {V W : Nat → Nat → Prop} {nx i j : Nat} (hij : j < i) {x y : Oper} (hx : ops[j]? = some x) (hy : ops[i]? = some y) (hap : x.apart ops y = true) (hm : NoMeet nx i j (V i) (V j) (W i) (W j)) {s s1 s2 : AS} (hs1 : StepV P ops V W nx j s s1) (hs2 : StepV P ops V W nx i s1 s2) :
    ∃ s1', StepV P ops V W nx i s s1' ∧ StepV P ops V W nx j s1' s2 := by
  obtain ⟨a1, a2, a3⟩ := Oper.apart_spec hap
  obtain ⟨x', hx', cx⟩ := hs1
  obtain rfl : x = x' := by rw [hx] at hx'; exact Option.some.inj hx'
  obtain ⟨y', hy', cy⟩ := hs2
  obtain rfl : y = y' := by rw [hy] at hy'; exact Option.some.inj hy'
  -- what x puts, y does not look at; and the other way round
  have exy : ∀ v, (∀ z ∈ y.op.operands.toList, ev (putA s.T x.dst v) z = ev s.T z) ∧ gd ops y (putA s.T x.dst v) = gd ops y s.T := fun v =>
    ⟨fun z hz => x5j fun k hk => (xie (a1 k hk)).1 z hz, xyp fun k hk => (xie (a1 k hk)).2⟩
  have eyx : ∀ v, (∀ z ∈ x.op.operands.toList, ev (putA s.T y.dst v) z = ev s.T z) ∧ gd ops x (putA s.T y.dst v) = gd ops x s.T := fun v =>
    ⟨fun z hz => x5j fun k hk => (xie (a3 k hk)).1 z hz, xyp fun k hk => (xie (a3 k hk)).2⟩
  have hdst : ∀ k, x.dst = some k → y.dst ≠ some k := a2
  have viewY : ∀ {us : Upds}, okV (W j) (nx + j) us → viewV (V i) (applyU s.H us) = viewV (V i) s.H := by
    intro us hu
    refine xjq fun l hl => x0f us s.H l fun p hp e => ?_
    exact hm.ji l (by rcases hu p hp with h | h; exact .inr (e ▸ h); exact .inl (e ▸ h)) hl
  have viewX : ∀ {us : Upds}, okV (W i) (nx + i) us → viewV (V j) (applyU s.H us) = viewV (V j) s.H := by
    intro us hu
    refine xjq fun l hl => x0f us s.H l fun p hp e => ?_
    exact hm.ij l (by rcases hu p hp with h | h; exact .inr (e ▸ h); exact .inl (e ▸ h)) hl
  rcases cx with ⟨gx, vx, ux, ox, kx, rfl⟩ | ⟨gx, rfl⟩ <;> rcases cy with ⟨gy, vy, uy, oy, ky, rfl⟩ | ⟨gy, rfl⟩
  · simp only [(exy vx).2] at gy
    simp only [viewY kx] at oy
    have oy' : OpK P y (viewV (V i) s.H) (ev s.T) (nx + i) vy uy := oy.congr (exy vx).1
    refine ⟨⟨putA s.T y.dst vy, applyU s.H uy, s.nx⟩, ⟨y, hy, .inl ⟨gy, vy, uy, oy', ky, rfl⟩⟩, ⟨x, hx, .inl ⟨by simp only [(eyx vy).2]; exact gx, vx, ux, ?_, ?_, ?_⟩⟩⟩
    · simp only [viewX ky]
      exact ox.congr fun z hz => ((eyx vy).1 z hz).symm
    · exact kx
    · simp only [AS.mk.injEq, and_true]
      refine ⟨(x3e hdst), ?_⟩
      refine xbq ux uy s.H fun p hp q hq e => ?_
      rcases kx p hp with h | h <;> rcases ky q hq with g | g
      · omega
      · exact hm.ji _ (.inr rfl) (hm.ii _ (by rw [← h, e]; exact g))
      · exact hm.ij _ (.inr rfl) (hm.jj _ (by rw [← g, ← e]; exact h))
      · exact hm.ij _ (.inl g) (hm.jj _ (by rw [← e]; exact h))
  · simp only [(exy vx).2] at gy
    refine ⟨⟨putA s.T y.dst (.val undef), s.H, s.nx⟩, ⟨y, hy, .inr ⟨gy, rfl⟩⟩, ⟨x, hx, .inl ⟨by simp only [(eyx (.val undef)).2]; exact gx, vx, ux, ox.congr fun z hz => ((eyx (.val undef)).1 z hz).symm, kx, ?_⟩⟩⟩
    simp only [AS.mk.injEq, and_true]
    exact x3e hdst
  · simp only [(exy (.val undef)).2] at gy
    refine ⟨⟨putA s.T y.dst vy, applyU s.H uy, s.nx⟩, ⟨y, hy, .inl ⟨gy, vy, uy, oy.congr (exy (.val undef)).1, ky, rfl⟩⟩, ⟨x, hx, .inr ⟨by simp only [(eyx vy).2]; exact gx, ?_⟩⟩⟩
    simp only [AS.mk.injEq, and_true]
    exact x3e hdst
  · simp only [(exy (.val undef)).2] at gy
    refine ⟨⟨putA s.T y.dst (.val undef), s.H, s.nx⟩, ⟨y, hy, .inr ⟨gy, rfl⟩⟩, ⟨x, hx, .inr ⟨by simp only [(eyx (.val undef)).2]; exact gx, ?_⟩⟩⟩
    simp only [AS.mk.injEq, and_true]
    exact x3e hdst
def sameT (a b : Operand) : Bool :=
  match a, b with
  | .tmp x, .tmp y => x == y
  | _, _ => false
theorem xdw {a b : Operand} (h : sameT a b = true) : a = b := by
  unfold sameT at h
  split at h
  · simp at h; rw [h]
  · cases h
def exm (x y : Oper) : Bool :=
  match x.op, y.op with
  | .lookup T m k c, .mapEntry T' m' k' => !c && decide (T = T') && sameT m m' && sameT k k' && x.guard.isNone && y.guard.isNone
  | _, _ => false
theorem xzu {α : Type} (f : Nat → α) (l : Nat) (x : α) : upd f l x l = x := by simp [upd]
theorem xtr {P : Program} {kt : TypeId} {kv : Value} : ∀ (ks : List Value) (i : Nat), findKx P kt kv ks i = some none → evalEq P 40 kt (keyAV kv) (keyAV kv) = some true → findKx P kt kv (ks ++ [kv]) i = some (some (i + ks.length))
  | [], i, _, he => by simp [findKx, he]
  | q :: qs, i, h, he => by
    simp only [List.cons_append, findKx] at h ⊢
    split at h
    · cases h
    · rename_i hq
      try rw [hq]
      try simp only [hq]
      rw [xtr qs (i + 1) h he]
      simp only [List.length_cons, Option.some.injEq]
      omega
    · cases h
theorem xas {P : Program} {kt : TypeId} {kv : Value} (he : evalEq P 40 kt (keyAV kv) (keyAV kv) = some true) : ∀ (ks : List Value) (i j : Nat), findKx P kt kv ks i = some (some j) → i ≤ j ∧ j - i < ks.length ∧ findKx P kt kv (ks.set (j - i) kv) i = some (some j)
  | [], i, j, h => by simp [findKx] at h
  | q :: qs, i, j, h => by
    simp only [findKx] at h
    split at h
    · injection h with h
      injection h with h
      subst h
      simp [findKx, he]
    · rename_i hq
      obtain ⟨h1, h2, h3⟩ := xas he qs (i + 1) j h
      have e : j - i = (j - (i + 1)) + 1 := by omega
      refine ⟨by omega, by simp; omega, ?_⟩
      rw [e, List.set_cons_succ]
      simp only [findKx, hq]
      exact h3
    · cases h
theorem xb1 {P : Program} {T : TypeId} {V V' : Nat → Option AO} {m k v1 v2 : AV} {us : Upds} {H : Nat → Option AO} (hV : SubH V H) (hV' : SubH V' H) (h1 : xxd P T false V m k = some v1) (h2 : xkf P T V' m k = some (v2, us)) (W : Nat → Option AO) (hW : ∀ l, (V l).isSome = true → W l = applyU H us l) :
    xxd P T false W m k = some v1 := by
  unfold xkf at h2
  split at h2
  · rename_i l cs
    split at h2
    · rename_i kt et bs ck ks vs kvs hu hl hvk
      split at h2
      · rename_i hc
        obtain ⟨hc, he, hlen⟩ := hc
        unfold xxd at h1 ⊢
        simp only at h1 ⊢
        have hVl : V l = some (.mapb bs ck ks vs) := by
          cases hq : V l with
          | none => rw [hq] at h1; simp [xvh, hu, hvk] at h1
          | some o => have a1 := hV l o hq; have a2 := hV' l _ hl; rw [a1] at a2; exact a2
        have hWl := hW l (by rw [hVl]; rfl)
        rw [hVl] at h1
        unfold xvh at h1 ⊢
        simp only [hu, hvk, hc, if_true] at h1
        simp only [hu, hvk]
        split at h2
        · rename_i j hj
          obtain ⟨_, g2, g3⟩ := xas he ks 0 j hj
          simp only [Nat.sub_zero] at g2 g3
          rw [hj] at h1
          simp only at h1
          split at h2
          · split at h2
            · injection h2 with h2
              injection h2 with h2 h3
              subst h3
              rw [hWl]
              simp only [applyU, xzu, hc, if_true, g3]
              exact h1
            · cases h2
          · cases h2
        · rename_i hj
          have g3 := xtr ks 0 hj he
          rw [hj] at h1
          simp only at h1
          obtain ⟨z, hz, e1⟩ := Option.map_eq_some_iff.1 h1
          rw [hz] at h2
          simp only [Option.map_some, Option.some.injEq, Prod.mk.injEq] at h2
          obtain ⟨h2, h3⟩ := h2
          subst h3
          rw [hWl]
          simp only [applyU, xzu, hc, if_true, g3, Nat.zero_add, hlen]
          rw [List.getElem?_append_right (Nat.le_refl _)]
          simp only [Nat.sub_self, List.getElem?_cons_zero, Option.map_some]
          rw [← e1]
          rfl
        · cases h2
      · cases h2
    · cases h2
  · cases h2
theorem StepV.swapK {P : Program} {ops : Array Oper} {V W : Nat → Nat → Prop} {nx i j : Nat} {x y : Oper} (hx : ops[j]? = some x) (hy : ops[i]? = some y) (hap : x.apart ops y = true) (hm : exm x y = true) {s s1 s2 : AS} (hs1 : StepV P ops V W nx j s s1) (hs2 : StepV P ops V W nx i s1 s2) :
    ∃ s1', StepV P ops V W nx i s s1' ∧ StepV P ops V W nx j s1' s2 := by
  obtain ⟨a1, a2, a3⟩ := Oper.apart_spec hap
  obtain ⟨x', hx', cx⟩ := hs1
  obtain rfl : x = x' := by rw [hx] at hx'; exact Option.some.inj hx'
  obtain ⟨y', hy', cy⟩ := hs2
  obtain rfl : y = y' := by rw [hy] at hy'; exact Option.some.inj hy'
  unfold exm at hm
  split at hm
  · rename_i T m k c T' m' k' ex ey
    simp only [Bool.and_eq_true, Bool.not_eq_true', decide_eq_true_eq, Option.isNone_iff_eq_none] at hm
    obtain ⟨⟨⟨⟨⟨rfl, rfl⟩, hmm⟩, hkk⟩, gx0⟩, gy0⟩ := hm
    obtain rfl := xdw hmm
    obtain rfl := xdw hkk
    have exy : ∀ v, (∀ z ∈ y.op.operands.toList, ev (putA s.T x.dst v) z = ev s.T z) := fun v z hz => x5j fun k hk => (xie (a1 k hk)).1 z hz
    have eyx : ∀ v, (∀ z ∈ x.op.operands.toList, ev (putA s.T y.dst v) z = ev s.T z) := fun v z hz => x5j fun k hk => (xie (a3 k hk)).1 z hz
    have hdst : ∀ k, x.dst = some k → y.dst ≠ some k := a2
    have gdx : ∀ T, gd ops x T = some true := fun T => by simp [gd, gx0]
    have gdy : ∀ T, gd ops y T = some true := fun T => by simp [gd, gy0]
    rcases cx with ⟨gx, vx, ux, ox, kx, rfl⟩ | ⟨gx, _⟩
    · rcases cy with ⟨gy, vy, uy, oy, ky, rfl⟩ | ⟨gy, _⟩
      · have hkx := ox.2 (by rw [ex]; rfl)
        have hux : ux = [] := by
          rw [ex] at hkx
          simp only [evalOp, Option.map_eq_some_iff] at hkx
          obtain ⟨a, _, e⟩ := hkx
          injection e with _ e
          exact e.symm
        subst hux
        have oy' : OpK P y (viewV (V i) s.H) (ev s.T) (nx + i) vy uy := oy.congr (exy vx)
        have hky := oy'.2 (by rw [ey]; rfl)
        rw [ex] at hkx
        rw [ey] at hky
        simp only [evalOp, Option.map_eq_some_iff] at hkx hky
        obtain ⟨w, hw, e⟩ := hkx
        injection e with e _
        subst e
        have hlk := xb1 xso xso hw hky (viewV (V j) (applyU s.H uy)) (fun l hl => by
          unfold viewV at hl ⊢
          split at hl
          · rename_i hv; rw [if_pos hv]
          · cases hl)
        have hfin : evalOp P x.op (viewV (V j) (applyU s.H uy)) (nx + j) (ev (putA s.T y.dst vy)) = some (w, []) := by
          have h1 := eyx vy m (by rw [ex]; simp [Op.operands])
          have h2 := eyx vy k (by rw [ex]; simp [Op.operands])
          rw [ex]
          simp only [evalOp, h1, h2, hlk, Option.map_some]
        refine ⟨⟨putA s.T y.dst vy, applyU s.H uy, s.nx⟩, ⟨y, hy, .inl ⟨gdy _, vy, uy, oy', ky, rfl⟩⟩, ⟨x, hx, .inl ⟨gdx _, w, [], ⟨xci hfin, fun _ => hfin⟩, kx, ?_⟩⟩⟩
        simp only [AS.mk.injEq, and_true]
        exact ⟨x3e hdst, rfl⟩
      · rw [gdy] at gy; cases gy
    · rw [gdx] at gx; cases gx
  · cases hm
theorem StepsV.front {P : Program} {ops : Array Oper} {V W : Nat → Nat → Prop} {nx i : Nat} {y : Oper} (hy : ops[i]? = some y) : ∀ (R1 R2 : List Nat) (s s' : AS),
    (∀ j ∈ R1, j < i ∧ ∃ x, ops[j]? = some x ∧ x.apart ops y = true ∧ (NoMeet nx i j (V i) (V j) (W i) (W j) ∨ exm x y = true)) → StepsV P ops V W nx (R1 ++ i :: R2) s s' → StepsV P ops V W nx (i :: (R1 ++ R2)) s s'
  | [], R2, s, s', _, h => h
  | j :: R1, R2, s, s', hj, h => by
    obtain ⟨s1, h1, h2⟩ := h
    obtain ⟨s2, h3, h4⟩ := StepsV.front hy R1 R2 s1 s' (fun k hk => hj k (by simp [hk])) h2
    obtain ⟨g1, x, g4, g5, g6⟩ := hj j (by simp)
    obtain ⟨s3, k1, k2⟩ : ∃ s1', StepV P ops V W nx i s s1' ∧ StepV P ops V W nx j s1' s2 := by
      rcases g6 with g6 | g6
      · exact StepV.swap g1 g4 hy g5 g6 h1 h3
      · exact StepV.swapK g4 hy g5 g6 h1 h3
    exact ⟨s3, k1, s2, k2, h4⟩
def okS (ops : Array Oper) : Bool :=
  let B := befsL ops.toList []
  ops.toList.zipIdx.all fun (o, i) =>
    o.after.toList.all (fun e => !Region.binds .any e || decide (e.on < i)) && decide (B.getD i 0 < 2 ^ i) &&
    (List.range i).all fun j => (B.getD i 0).testBit j || (ops.getD j default).apart ops o
structure OkS (ops : Array Oper) (B : List Nat) : Prop where
  edges : ∀ i o, ops[i]? = some o → ∀ e ∈ o.after.toList, Region.binds .any e = true → e.on < i
  small : ∀ i, i < ops.size → B.getD i 0 < 2 ^ i
  ind : ∀ i o, ops[i]? = some o → ∀ j, j < i → (B.getD i 0).testBit j = true ∨ (ops.getD j default).apart ops o = true
theorem xh7 {ops : Array Oper} (h : okS ops = true) : OkS ops (befsL ops.toList []) := by
  have key : ∀ i o, ops[i]? = some o → (o.after.toList.all (fun e => !Region.binds .any e || decide (e.on < i)) && decide ((befsL ops.toList []).getD i 0 < 2 ^ i) &&
      (List.range i).all fun j => ((befsL ops.toList []).getD i 0).testBit j || (ops.getD j default).apart ops o) = true := by
    intro i o ho
    have := List.all_eq_true.1 h (o, i) (List.mem_zipIdx_iff_getElem?.2 (by simpa using ho))
    exact this
  refine ⟨fun i o ho e he hb => ?_, fun i hi => ?_, fun i o ho j hj => ?_⟩
  · have := key i o ho
    simp only [Bool.and_eq_true] at this
    have := List.all_eq_true.1 this.1.1 e he
    simpa [hb] using this
  · have := key i ops[i] (Array.getElem?_eq_getElem hi)
    simp only [Bool.and_eq_true, decide_eq_true_eq] at this
    exact this.1.2
  · have := key i o ho
    simp only [Bool.and_eq_true] at this
    have := List.all_eq_true.1 this.2 j (by simpa using hj)
    simpa using this
theorem xsx {ops : Array Oper} {B : List Nat} (hok : OkS ops B) {listed : Array Bool} (hs : listed.size = ops.size) (h : un ops.size listed ≠ []) : Region.ready .any ops listed ≠ [] := by
  intro hr
  obtain ⟨m, ⟨hm, _⟩, hleast⟩ : ∃ m, (m ∈ un ops.size listed ∧ True) ∧ ∀ k, (k ∈ un ops.size listed ∧ True) → m ≤ k := by
    refine xyb (p := fun m => m ∈ un ops.size listed ∧ True) ?_
    cases hu : un ops.size listed with
    | nil => exact absurd hu h
    | cons x xs => exact ⟨x, by simp, trivial⟩
  obtain ⟨h1, h2⟩ := mem_un.1 hm
  have : m ∈ Region.ready .any ops listed := by
    refine xai.2 ⟨h1, h2, ops[m], Array.getElem?_eq_getElem h1, fun e he hb => ?_⟩
    have hlt := hok.edges m _ (Array.getElem?_eq_getElem h1) e he hb
    by_cases hq : listed.getD e.on true = false
    · have := hleast e.on ⟨mem_un.2 ⟨by omega, hq⟩, trivial⟩
      omega
    · have he' : e.on < listed.size := by omega
      simp [he'] at hq ⊢
      exact hq
  rw [hr] at this
  cases this
theorem x73 {P : Program} {ops : Array Oper} {V W : Nat → Nat → Prop} (hok : okS ops = true) {C : Ctx} {E0 : Env} {k0 n nx : Nat} (hmeet : ∀ i j, j < i → i < ops.size → ((befsL ops.toList []).getD i 0).testBit j = false → NoMeet nx i j (V i) (V j) (W i) (W j) ∨ exm (ops.getD j default) (ops.getD i default) = true) (hfit : fits n ops = true) (hk0 : k0 ≤ nx) {Q : Exit → Act → World → Prop} {s' : AS}
    (hQ : ∀ a E, SR C E0 k0 n s' a E → Q .normal a E.w) : ∀ (fuel : Nat) (listed : Array Bool) (s : AS) (a : Act) (E : Env), listed.size = ops.size → (un ops.size listed).length = fuel →
    (∀ i k, i < ops.size → listed.getD i true = true → ((befsL ops.toList []).getD i 0).testBit k = true → listed.getD k false = true) →
    StepsV P ops V W nx (un ops.size listed) s s' → SR C E0 k0 n s a E → s.nx = nx + ops.size → (∀ j, j ∈ un ops.size listed → ¬ E.K (nx + j)) → wpAny P .any ops Q fuel listed a E.w := by
  have hD := xh7 hok
  intro fuel
  induction fuel with
  | zero =>
    intro listed s a E hs hl hdown hst hS hnx hfresh
    have hu : un ops.size listed = [] := List.eq_nil_of_length_eq_zero hl
    rw [hu] at hst
    have e : s = s' := hst
    subst e
    refine ⟨?_, hQ a E hS⟩
    cases hr : Region.ready .any ops listed with
    | nil => rfl
    | cons x xs =>
      exfalso
      have hx : x ∈ Region.ready .any ops listed := by rw [hr]; simp
      obtain ⟨h1, h2, _⟩ := xai.1 hx
      have := mem_un.2 ⟨h1, h2⟩
      rw [hu] at this
      cases this
  | succ fuel ih =>
    intro listed s a E hs hl hdown hst hS hnx hfresh
    refine ⟨fun hr => absurd hr (xsx hD hs (fun e => by rw [e] at hl; simp at hl)), fun i hi => ?_⟩
    obtain ⟨h1, h2, y, hy, hedge⟩ := xai.1 hi
    have himem := mem_un.2 ⟨h1, h2⟩
    obtain ⟨R1, R2, hR⟩ := List.append_of_mem himem
    have hsort := x9o ops.size listed
    rw [hR] at hsort
    have hlt : ∀ j ∈ R1, j < i := fun j hj => (List.pairwise_append.1 hsort).2.2 j hj i (by simp)
    -- all that stands before i is listed
    have hbef : ∀ k, ((befsL ops.toList []).getD i 0).testBit k = true → listed.getD k false = true := by
      intro k hk
      have := xfm ops.toList [] i y k (by simpa using hy) (by simpa using hk)
      obtain ⟨e, he, hb, h3⟩ := this
      have hle := hedge e he hb
      rcases h3 with rfl | ⟨h3, h4⟩
      · exact hle
      · have heb := hD.edges i y hy e he hb
        refine hdown e.on k (by omega) ?_ h4
        have : e.on < listed.size := by omega
        simp [this] at hle ⊢
        exact hle
    have hfront : StepsV P ops V W nx (i :: (R1 ++ R2)) s s' := by
      rw [hR] at hst
      refine StepsV.front hy R1 R2 s s' (fun j hj => ?_) hst
      have hji := hlt j hj
      have hju : j ∈ un ops.size listed := by rw [hR]; simp [hj]
      obtain ⟨hjs, hjl⟩ := mem_un.1 hju
      have hjf : listed.getD j false = false := by
        have : j < listed.size := by omega
        simp [this] at hjl ⊢
        exact hjl
      have hb : ((befsL ops.toList []).getD i 0).testBit j = false := by
        cases hq : ((befsL ops.toList []).getD i 0).testBit j with
        | false => rfl
        | true => rw [hbef j hq] at hjf; cases hjf
      refine ⟨hji, ops[j], Array.getElem?_eq_getElem hjs, ?_, by
        have hq := hmeet i j hji h1 hb
        have e1 : ops.getD j default = ops[j] := by simp [hjs]
        have e2 : ops.getD i default = y := by simp [hy]
        rw [e1, e2] at hq
        exact hq⟩
      rcases hD.ind i y hy j hji with h | h
      · rw [hb] at h; cases h
      · simpa [hjs] using h
    obtain ⟨s1, hstep, hrest⟩ := hfront
    have hun : un ops.size (listed.setIfInBounds i true) = R1 ++ R2 := un_set hs h1 hR
    have hdn : ∀ x, y.dst = some x → x < n := by
      intro x hx
      have := List.all_eq_true.1 hfit y (by
        obtain ⟨_, e⟩ := Array.getElem?_eq_some_iff.1 hy
        rw [← e]; simp)
      simpa [hx] using this
    have next : ∀ (a' : Act) (E' : Env), SR C E0 k0 n s1 a' E' → s1.nx = nx + ops.size → (∀ l, E'.K l → E.K l ∨ l = nx + i) → wpAny P .any ops Q fuel (listed.setIfInBounds i true) a' E'.w := by
      intro a' E' hS' hnx' hK
      refine ih _ s1 a' E' (by simpa using hs) ?_ ?_ (by rw [hun]; exact hrest) hS' hnx' ?_
      · rw [hun]
        rw [hR] at hl
        simp at hl ⊢
        omega
      · intro i' k hi' hl' hb'
        by_cases e : i' = i
        · subst e
          have hk := hbef k hb'
          by_cases ek : k = i'
          · subst ek
            simp [hs, h1]
          · simp only [Array.getD_eq_getD_getElem?, Array.getElem?_setIfInBounds_ne (Ne.symm ek)] at hk ⊢
            exact hk
        · have hl2 : listed.getD i' true = true := by
            simp only [Array.getD_eq_getD_getElem?, Array.getElem?_setIfInBounds_ne (Ne.symm e)] at hl' ⊢
            exact hl'
          have hk := hdown i' k hi' hl2 hb'
          by_cases ek : k = i
          · subst ek
            simp [hs, h1]
          · simp only [Array.getD_eq_getD_getElem?, Array.getElem?_setIfInBounds_ne (Ne.symm ek)] at hk ⊢
            exact hk
      · intro j hj kj
        rw [hun] at hj
        have hju : j ∈ un ops.size listed := by
          rw [hR]
          simp only [List.mem_append, List.mem_cons] at hj ⊢
          rcases hj with hj | hj
          · exact .inl hj
          · exact .inr (.inr hj)
        have hne : j ≠ i := by
          rintro rfl
          rw [← hun] at hj
          have := (mem_un.1 hj).2
          simp [hs, h1] at this
        rcases hK _ kj with k1 | k1
        · exact hfresh j hju k1
        · omega
    obtain ⟨o, ho, hc⟩ := hstep
    obtain rfl : y = o := by rw [hy] at ho; exact Option.some.inj ho
    unfold wpOp
    rw [hy]
    simp only
    rcases hc with ⟨hg, v, us, hop, _, rfl⟩ | ⟨hg, rfl⟩
    · rw [if_pos (x8k hS.tmps hS.size hfit hg)]
      refine .inl (hop.1 C E s.H a hS.heap xso (fun x _ => ev_rep hS.tmps x) (hfresh i himem) _ _ fun u E' k1 k2 k3 k4 => ?_)
      refine next _ E' ⟨k2, hS.stab.trans k3, ?_, ?_, x4g.trans hS.size, xfc.trans hS.defers, x9g (fun t => (hS.tmps t).stab k3) hS.size hdn k1⟩ hnx k4
      · intro l kl
        show l < s.nx
        rcases k4 l kl with h | h
        · exact hS.bound l h
        · omega
      · intro l kl
        rcases k4 l kl with h | h
        · exact hS.fresh l h
        · exact .inr (by omega)
    · rw [if_neg (by rw [x8k hS.tmps hS.size hfit hg]; simp)]
      exact next _ E ⟨hS.heap, hS.stab, hS.bound, hS.fresh, x4g.trans hS.size, xfc.trans hS.defers, x9g hS.tmps hS.size hdn (xfj E)⟩ hnx fun l kl => .inl kl
def exB (ops : List Oper) (B : List Nat) : List Nat := (List.range B.length).map fun i => (List.range i).foldl (fun b j => if exm (ops.getD j default) (ops.getD i default) = true then b ||| 2 ^ j else b) (B.getD i 0)
theorem xw9 {ops : List Oper} {B : List Nat} {i j : Nat} (h : ((exB ops B).getD i 0).testBit j = true) : (B.getD i 0).testBit j = true ∨ exm (ops.getD j default) (ops.getD i default) = true := by
  by_cases hi : i < B.length
  · unfold exB at h
    rw [List.getD_eq_getElem?_getD, List.getElem?_map, List.getElem?_range hi] at h
    simp only [Option.map_some, Option.getD_some] at h
    generalize B.getD i 0 = b at h ⊢
    generalize List.range i = L at h
    revert b
    induction L with
    | nil => intro b h; exact .inl h
    | cons a L ih =>
      intro b h
      rw [List.foldl_cons] at h
      rcases ih _ h with h1 | h1
      · split at h1
        · rename_i hx
          rw [Nat.testBit_or, Bool.or_eq_true] at h1
          rcases h1 with h1 | h1
          · exact .inl h1
          · have : a = j := by simpa [Nat.testBit_two_pow] using h1
            subst this
            exact .inr hx
        · exact .inl h1
      · exact .inr h1
  · have e : (exB ops B).getD i 0 = 0 := by
      unfold exB
      rw [List.getD_eq_getElem?_getD, List.getElem?_eq_none (by simp; omega)]
      rfl
    rw [e] at h
    simp at h
theorem StepsV.nx {P : Program} {ops : Array Oper} {V W : Nat → Nat → Prop} {nx : Nat} : ∀ (l : List Nat) (s s' : AS), StepsV P ops V W nx l s s' → s'.nx = s.nx
  | [], s, s', h => by have e : s = s' := h; rw [e]
  | i :: l, s, s', h => by
    obtain ⟨s1, ⟨o, _, h1⟩, h2⟩ := h
    rw [StepsV.nx l s1 s' h2]
    rcases h1 with ⟨_, v, us, _, _, rfl⟩ | ⟨_, rfl⟩ <;> rfl
theorem xpp {P : Program} {n : Nat} {Q : Exit → AS → Prop} {s : AS} {id : Nat} {ops : Array Oper} (hm : P.follows .mixedOrders = true) (hfit : fits n ops = true) (hok : okS ops = true) (V W : Nat → Nat → Prop)
    (hmeet : ∀ i j, j < i → i < ops.size → ((befsL ops.toList []).getD i 0).testBit j = false → NoMeet s.nx i j (V i) (V j) (W i) (W j) ∨ exm (ops.getD j default) (ops.getD i default) = true)
    (h : ∃ s', StepsV P ops V W s.nx (List.range ops.size) ⟨s.T, s.H, s.nx + ops.size⟩ s' ∧ Q .normal s') : awp P n (.region id ops true) Q s := by
  intro C E0 k0 E a hk hS
  refine wp_region_any hm ?_
  have hd := Env.drew_stab E
  have hS' : SR C E0 k0 n ⟨s.T, s.H, s.nx + ops.size⟩ a E.drew := ⟨hS.heap.drew, hS.stab.trans hd, fun l kl => by have := hS.bound l kl; show l < s.nx + ops.size; omega, hS.fresh, hS.size, hS.defers, fun t => (hS.tmps t).stab hd⟩
  obtain ⟨s', h1, h2⟩ := h
  have hun : un ops.size (Array.replicate ops.size false) = List.range ops.size := by
    unfold un
    rw [List.filter_eq_self]
    intro i hi
    simp only [List.mem_range] at hi
    simp [hi]
  have hnx := StepsV.nx _ _ _ h1
  refine x73 (s' := s') hok hmeet hfit hk (fun a' E' hSS => ⟨s', E', h2, by rw [hnx]; show k0 ≤ s.nx + ops.size; omega, hSS, rfl⟩) ops.size _ _ a E.drew (by simp) (by rw [hun]; simp) ?_ ?_ hS' rfl ?_
  · intro i k hi hl
    simp [hi] at hl
  · rw [hun]
    exact h1
  · intro j hj kj
    have := hS.bound _ kj
    omega
end Go.Proofs.YtefdlpandfhcgaaGreatDoor.AL

