/- A law of the given program is proved: part 45 of 50. -/
import Derived.Test.YtefdlpandfhcgaaGreatDoorA44
set_option linter.all false
/- AL: the interpreter tells the truth. -/
set_option linter.all false
namespace Go.Proofs.YtefdlpandfhcgaaGreatDoor.AL
open Go Go.Proofs Go.RowKit
section
variable {P : Program} {tab : FuncId → Option (Nat × List ResultVar × AC)} {told : FuncId → Option (List AV → Option AV)}
theorem OkN.ok {f : FuncId} {ag : List AV} {r : AV} (h : OkN P f ag r) : Ok P f ag r :=
  ⟨h.1, fun Z w vals hZ hv => (h.2 Z w vals hZ hv).mono fun e w' ⟨v, h1, h2, h3⟩ => ⟨v, h1, h2, VRep.stab (E := Ec (fun b => w.heap.size ≤ b ∧ b < w'.heap.size) w') (E' := Ec (fun b => Z b ∨ (w.heap.size ≤ b ∧ b < w'.heap.size)) w') ⟨fun _ h => h, fun _ h => h.elim, fun b hb => ⟨.inr hb, rfl⟩⟩ _ _ h3⟩⟩
theorem xb6 {H : Nat → Option AO} {nx new : Nat} {ρ : Operand → AV} {k : AV → (Nat → Option AO) → Nat → Prop} {op : Op} {b : Bool} (h : nilOp P ρ op = some b) (hk : k (.val (.bool b)) H nx) : Sem1 P op H nx new ρ k := by
  intro o ho C E a hR hρ hn hb hnx next Q hnext
  unfold nilOp at h
  split at h
  · rename_i T x yT
    split at h
    · rename_i e ht
      have hu := hρ x (by simp [ho, Op.operands])
      have key : ∃ A l c, a.eval x = .slice A l c ∧ A.isNone = b := by
        unfold nilV at h
        split at h
        · rename_i hx
          rw [hx] at hu
          simp only [VRep] at hu
          injection h with h
          exact ⟨none, 0, 0, hu, h⟩
        · rename_i hx
          rw [hx] at hu
          simp only [VRep] at hu
          injection h with h
          obtain ⟨A, c0, _, g1, g2, _⟩ := hu
          obtain ⟨b0, rfl⟩ := g2 (by omega)
          exact ⟨_, _, _, g1, h⟩
        · rename_i hx
          rw [hx] at hu
          simp only [VRep] at hu
          injection h with h
          obtain ⟨us, A, cap, g1, g2, g3, g4⟩ := hu
          have hl := g1.length
          rcases g4 with g4 | ⟨b', o', rfl, _⟩
          · rw [g4] at hl; simp at hl
          · exact ⟨_, _, _, g2, h⟩
        · cases h
      obtain ⟨A, l, c, g1, g2⟩ := key
      have hrun : (execOp a.eval o).run P E.w = .ok (.value (.bool b)) E.w := by
        have hg := xhg (P := P) E.w .eql T x (.const (.slice none 0 0)) (.slice A l c) (.slice none 0 0) (by simp) (by simp)
        have hc : a.eval (.const (.slice none 0 0)) = .slice none 0 0 := rfl
        simp only [execOp, ho, hc, g1]
        simp [hg, binOp, Op.equal, xq1 (xzc ht), g2]
      unfold Oper.wp
      rw [hrun]
      exact hnext _ _ H nx E hk (by simp only [VRep]) hR (Stab.refl E) (Nat.le_refl _) (fun l kl => .inl kl)
    · cases h
  · cases h
def CallOk (P : Program) (call : FuncId → List AV → XH → Nat → Option (AV × XH × Nat)) : Prop :=
  ∀ f ag H nx v H' nx', call f ag H nx = some (v, H', nx') → ∀ (c : Call) (ρ : Operand → AV) (new : Nat) (k : AV → (Nat → Option AO) → Nat → Prop), xvb ρ c = some (f, ag) → k v (hOf H') nx' → Sem1 P (.call c) (hOf H) nx new ρ k
def xlt (P : Program) (callD : FuncId → List AV → Option AV) : Prop := ∀ f ag v, callD f ag = some v → Ok P f ag v
theorem xoi {call : FuncId → List AV → XH → Nat → Option (AV × XH × Nat)} (hc : CallOk P call) {nx0 : Nat} {K : AS → Prop} : ∀ (l : List O1) (i : Nat) (s s' : XS), xOps P call nx0 i l s = some s' → (s'.T.length = s.T.length → K (asOf s')) → wps1 P nx0 i l (asOf s) K
  | [], i, s, s', h, hK => by
    simp only [xOps, Option.some.injEq] at h
    subst h
    exact hK rfl
  | o :: rest, i, s, s', h, hK => by
    unfold xOps at h
    simp only [wps1]
    split at h
    · rename_i hg
      refine xmm hg ?_
      cases hcl : isCall o.op with
      | true =>
        rw [hcl] at h
        rw [if_pos rfl]
        simp only [cond_true] at h
        split at h
        · rename_i c ho
          split at h
          · rename_i f ag hca
            split at h
            · rename_i v H' nx' hcall
              split at h
              · rename_i T' hp
                obtain ⟨p1, p2⟩ := xsc hp
                rw [ho]
                refine hc f ag s.H s.nx v H' nx' hcall c _ _ _ hca ?_
                have := xoi hc (K := K) rest (i + 1) _ s' h (fun e => hK (e.trans p2))
                simpa only [asOf, p1] using this
              · cases h
            · cases h
          · cases h
        · rename_i op hop
          split at h
          · rename_i b hnil
            split at h
            · rename_i T' hp
              obtain ⟨p1, p2⟩ := xsc hp
              refine xb6 hnil ?_
              have := xoi hc (K := K) rest (i + 1) _ s' h (fun e => hK (e.trans p2))
              simpa only [asOf, p1] using this
            · cases h
          · cases h
      | false =>
        rw [hcl] at h
        rw [if_neg (by simp)]
        simp only [cond_false] at h
        split at h
        · rename_i v us hev
          split at h
          · rename_i T' hp
            obtain ⟨p1, p2⟩ := xsc hp
            refine ⟨(v, us), hev, ?_⟩
            have := xoi hc (K := K) rest (i + 1) _ s' h (fun e => hK (e.trans p2))
            simpa only [asOf, p1, xnk] using this
          · cases h
        · cases h
    · rename_i hg
      refine xgr hg ?_
      split at h
      · rename_i T' hp
        obtain ⟨p1, p2⟩ := xsc hp
        have := xoi hc (K := K) rest (i + 1) _ s' h (fun e => hK (e.trans p2))
        simpa only [asOf, p1] using this
      · cases h
    · cases h
def x9y (P : Program) (callN : FuncId → List AV → Option AV) : Prop := ∀ f ag v, callN f ag = some v → OkN P f ag v
theorem xth {callN callD : FuncId → List AV → Option AV} (hN : x9y P callN) (hc : xlt P callD) {B : List Nat} {rd : List Bool} {nx0 : Nat} {K : AS → Prop} : ∀ (l : List O1) (i : Nat) (s s' : XS), xDraw P callN callD B rd nx0 i l s = some s' → (s'.T.length = s.T.length → K (asOf s')) → wpsD1 P B rd nx0 i l (asOf s) K
  | [], i, s, s', h, hK => by
    simp only [xDraw, Option.some.injEq] at h
    subst h
    exact hK rfl
  | o :: rest, i, s, s', h, hK => by
    unfold xDraw at h
    simp only [wpsD1]
    split at h
    · rename_i hg
      refine xmm hg ?_
      cases hcl : isCall o.op with
      | true =>
        rw [hcl] at h
        rw [if_pos rfl]
        simp only [cond_true] at h
        split at h
        · rename_i c ho
          split at h
          · rename_i f ag hca
            split at h
            · rename_i ag' hfz
              split at h
              · rename_i v hcall
                split at h
                · rename_i T' hp
                  obtain ⟨p1, p2⟩ := xsc hp
                  rw [ho]
                  refine ⟨v, xx6 300 (hN f ag' v hcall) hca hfz, ?_⟩
                  have := xth hN hc (K := K) rest (i + 1) _ s' h (fun e => hK (e.trans p2))
                  simpa only [asOf, p1] using this
                · cases h
              · split at h
                · rename_i v hcall
                  cases hb : (closeds ag || flat v) with
                  | true =>
                    rw [hb] at h
                    simp only [cond_true] at h
                    split at h
                    · rename_i T' hp
                      obtain ⟨p1, p2⟩ := xsc hp
                      rw [ho]
                      have hop : OpS1 P (.call c) (viewD nx0 (B.getD i 0) (rd.getD i false) (hOf s.H)) (ev (tOf s.T)) (nx0 + i) v := by
                        cases hcs : closeds ag with
                        | true =>
                          rw [xwd hcs] at hfz
                          obtain rfl := Option.some.inj hfz
                          exact x6y (hc f ag v hcall) hca hcs
                        | false =>
                          rw [hcs, Bool.false_or] at hb
                          exact x8v 300 (hc f ag' v hcall) hca hfz hb
                      refine ⟨v, hop, ?_⟩
                      have := xth hN hc (K := K) rest (i + 1) _ s' h (fun e => hK (e.trans p2))
                      simpa only [asOf, p1] using this
                    · cases h
                  | false => rw [hb] at h; cases h
                · cases h
            · cases h
          · cases h
        · cases h
      | false =>
        rw [hcl] at h
        rw [if_neg (by simp)]
        simp only [cond_false] at h
        split at h
        · rename_i v us hev
          split at h
          · rename_i T' hp
            obtain ⟨p1, p2⟩ := xsc hp
            refine ⟨(v, us), hev, ?_⟩
            have := xth hN hc (K := K) rest (i + 1) _ s' h (fun e => hK (e.trans p2))
            simpa only [asOf, p1, xnk] using this
          · cases h
        · cases h
    · rename_i hg
      refine xgr hg ?_
      split at h
      · rename_i T' hp
        obtain ⟨p1, p2⟩ := xsc hp
        have := xth hN hc (K := K) rest (i + 1) _ s' h (fun e => hK (e.trans p2))
        simpa only [asOf, p1] using this
      · cases h
    · cases h
theorem xak {call : FuncId → List AV → XH → Nat → Option (AV × XH × Nat)} {nx0 : Nat} : ∀ (l : List O1) (i : Nat) (s s' : XS), xOps P call nx0 i l s = some s' → s'.T.length = s.T.length
  | [], i, s, s', h => by
    simp only [xOps, Option.some.injEq] at h
    subst h; rfl
  | o :: rest, i, s, s', h => by
    unfold xOps at h
    split at h
    · cases hcl : isCall o.op with
      | true =>
        rw [hcl] at h
        simp only [cond_true] at h
        split at h
        · split at h
          · split at h
            · split at h
              · rename_i T' hp
                exact (xak rest _ _ _ h).trans (xsc hp).2
              · cases h
            · cases h
          · cases h
        · split at h
          · split at h
            · rename_i T' hp
              exact (xak rest _ _ _ h).trans (xsc hp).2
            · cases h
          · cases h
      | false =>
        rw [hcl] at h
        simp only [cond_false] at h
        split at h
        · split at h
          · rename_i T' hp
            exact (xak rest _ _ _ h).trans (xsc hp).2
          · cases h
        · cases h
    · split at h
      · rename_i T' hp
        exact (xak rest _ _ _ h).trans (xsc hp).2
      · cases h
    · cases h
theorem xmj {callN callD : FuncId → List AV → Option AV} {B : List Nat} {rd : List Bool} {nx0 : Nat} : ∀ (l : List O1) (i : Nat) (s s' : XS), xDraw P callN callD B rd nx0 i l s = some s' → s'.T.length = s.T.length
  | [], i, s, s', h => by
    simp only [xDraw, Option.some.injEq] at h
    subst h; rfl
  | o :: rest, i, s, s', h => by
    unfold xDraw at h
    split at h
    · cases hcl : isCall o.op with
      | true =>
        rw [hcl] at h
        simp only [cond_true] at h
        split at h
        · split at h
          · rename_i f ag hca
            split at h
            · split at h
              · split at h
                · rename_i T' hp
                  exact (xmj rest _ _ _ h).trans (xsc hp).2
                · cases h
              · split at h
                · rename_i v hcall
                  cases hb : (closeds ag || flat v) with
                  | true =>
                    rw [hb] at h
                    simp only [cond_true] at h
                    split at h
                    · rename_i T' hp
                      exact (xmj rest _ _ _ h).trans (xsc hp).2
                    · cases h
                  | false => rw [hb] at h; cases h
                · cases h
            · cases h
          · cases h
        · cases h
      | false =>
        rw [hcl] at h
        simp only [cond_false] at h
        split at h
        · split at h
          · rename_i T' hp
            exact (xmj rest _ _ _ h).trans (xsc hp).2
          · cases h
        · cases h
    · split at h
      · rename_i T' hp
        exact (xmj rest _ _ _ h).trans (xsc hp).2
      · cases h
    · cases h
theorem xa4 {P : Program} {n : Nat} {Q : Exit → AS → Prop} {s : AS} (hm : P.follows .mixedOrders = true) {l : List O1} {B : List Nat} {rd : List Bool} (VW : List (List Nat × List Nat)) (hlen : VW.length = l.length) (hmeet : meetA s.nx 0 B [] VW) (h : wpsV1 P s.nx 0 l VW ⟨s.T, s.H, s.nx + l.length⟩ (Q .normal)) : cwp P n (.draw l B rd) Q s := by
  intro c hc
  obtain ⟨id, ops, rfl, h1, h2, _, h3, _, hBx⟩ := xyk hc
  have hl : ∀ (l : List Oper) (xs : List O1), xz ops l = some xs → xs.length = l.length := by
    intro l
    induction l with
    | nil => intro xs h; simp only [xz] at h; injection h with h; subst h; rfl
    | cons o l ih =>
      intro xs h
      simp only [xz] at h
      split at h
      · rename_i x xs' g1 g2
        injection h with h
        subst h
        simp [ih _ g2]
      · cases h
  have hlo := hl _ _ h2
  rw [hlo] at h
  obtain ⟨s', g1, g2⟩ := xkg (VW := VW) ops.toList l VW 0 _ h2 (fun k => by simp) (fun k => by simp) h
  refine xpp hm h1 h3 _ _ ?_ ⟨s', by simpa [List.range_eq_range'] using g1, g2⟩
  intro i j hji hi hb
  have hsz : VW.length = ops.size := by rw [hlen, hlo]; simp
  have hi' : i < VW.length := by omega
  have hj' : j < VW.length := by omega
  have hpi : VW[i]? = some VW[i] := List.getElem?_eq_getElem hi'
  have hpj : VW[j]? = some VW[j] := List.getElem?_eq_getElem hj'
  rcases hBx i j hb with hb | hb
  rotate_left
  · exact .inr hb
  refine .inl ?_
  obtain ⟨k1, k2⟩ := xxj hmeet rfl i VW[i] j VW[j] hpi (by simpa using hpj) (by omega) hb
  have ei : VW.getD i ([], []) = VW[i] := by simp [List.getD_eq_getElem?_getD, hpi]
  have ej : VW.getD j ([], []) = VW[j] := by simp [List.getD_eq_getElem?_getD, hpj]
  have a1 : ∀ l, l ∈ (VW.getD i ([], [])).2 ∨ l = s.nx + i → ¬ (l ∈ (VW.getD j ([], [])).1 ∨ l ∈ (VW.getD j ([], [])).2) := by
    rw [ei, ej]; exact fun l hl => k1 l (by simpa using hl)
  have a2 : ∀ l, l ∈ (VW.getD j ([], [])).2 ∨ l = s.nx + j → ¬ (l ∈ (VW.getD i ([], [])).1 ∨ l ∈ (VW.getD i ([], [])).2) := by
    rw [ei, ej]; exact fun l hl => k2 l hl
  exact ⟨a1, a2, fun l hl => .inr hl, fun l hl => .inr hl⟩
theorem x3t {W : List Nat} {new : Nat} : ∀ {us : Upds}, okLB W new us = true → okL W new us
  | [], _ => trivial
  | p :: us, h => by
    simp only [okLB, Bool.and_eq_true, Bool.or_eq_true, List.any_eq_true] at h
    refine ⟨?_, x3t h.2⟩
    rcases h.1 with h1 | ⟨x, h1, h2⟩
    · exact .inl (Nat.eq_of_beq_eq_true h1)
    · exact .inr (by rw [Nat.eq_of_beq_eq_true h2]; exact h1)
theorem x2l : ∀ {A B : List Nat}, disB A B = true → dis A B
  | [], _, _ => trivial
  | a :: A, B, h => by
    simp only [disB, Bool.and_eq_true, Bool.not_eq_true', List.any_eq_false] at h
    refine ⟨?_, x2l h.2⟩
    have h1 := h.1
    clear h
    induction B with
    | nil => trivial
    | cons b B ih =>
      refine ⟨fun e => h1 b (by simp) (by rw [e]; exact Nat.beq_refl b), ih fun x hx => h1 x (by simp [hx])⟩
theorem xzk {nx i b : Nat} {V W : List Nat} : ∀ {r : List (List Nat × List Nat)} {j : Nat}, meetRB nx i b V W j r = true → meetR nx i b V W j r
  | [], _, _ => trivial
  | p :: r, j, h => by
    simp only [meetRB, Bool.and_eq_true, Bool.or_eq_true] at h
    refine ⟨?_, xzk h.2⟩
    split
    · trivial
    · rename_i hb
      have h1 := h.1.resolve_left hb
      exact ⟨⟨x2l h1.1.1.1, x2l h1.1.1.2⟩, x2l h1.1.2, x2l h1.2⟩
theorem x9i {callD : FuncId → List AV → Option AV} (hc : xlt P callD) {nx0 : Nat} {K : AS → Prop} : ∀ (l : List O1) (i : Nat) (B : List Nat) (dn : List (List Nat × List Nat)) (s s' : XS), xFine P callD nx0 i B dn l s = some s' → (s'.T.length = s.T.length → K (asOf s')) →
    s'.T.length = s.T.length ∧ ∃ VW, VW.length = l.length ∧ meetA nx0 i B dn VW ∧ wpsV1 P nx0 i l VW (asOf s) K
  | [], i, B, dn, s, s', h, hK => by
    simp only [xFine, Option.some.injEq] at h
    subst h
    exact ⟨rfl, [], rfl, by cases B <;> trivial, hK rfl⟩
  | o :: rest, i, [], dn, s, s', h, hK => by simp [xFine] at h
  | o :: rest, i, b :: B, dn, s, s', h, hK => by
    unfold xFine at h
    split at h
    · rename_i hg
      cases hm : meetRB nx0 i b (vwX (ev (tOf s.T)) o.op).1 (vwX (ev (tOf s.T)) o.op).2 0 dn with
      | false => rw [hm] at h; cases h
      | true =>
      rw [hm] at h
      simp only [cond_true] at h
      cases hcl : isCall o.op with
      | true =>
        rw [hcl] at h
        simp only [cond_true] at h
        split at h
        · rename_i c ho
          split at h
          · rename_i f ag hca
            split at h
            · rename_i ag' V' hfk
              split at h
              · rename_i v hcall
                cases hb : okLB (vwX (ev (tOf s.T)) o.op).2 (nx0 + i) (fkU ag) with
                | false => rw [hb] at h; cases h
                | true =>
                  rw [hb] at h
                  simp only [cond_true] at h
                  split at h
                  · rename_i T' hp
                    obtain ⟨p1, p2⟩ := xsc hp
                    obtain ⟨g1, VW, g2, g3, g4⟩ := x9i hc (K := K) rest (i + 1) B _ _ s' h (fun e => hK (e.trans p2))
                    refine ⟨g1.trans p2, vwX (ev (tOf s.T)) o.op :: VW, by simp [g2], ⟨xzk hm, g3⟩, ?_⟩
                    simp only [wpsV1]
                    refine xmm hg ?_
                    rw [if_pos hcl]
                    refine ⟨v, fkU ag, by rw [congrArg (fun z => OpSL P z) ho]; exact x1x (hc f ag' v hcall) hca hfk, x3t hb, ?_⟩
                    simpa only [asOf, p1, xnk] using g4
                  · cases h
              · cases h
            · cases h
          · cases h
        · cases h
      | false =>
        rw [hcl] at h
        simp only [cond_false] at h
        split at h
        · rename_i v us hev
          cases hb : okLB (vwX (ev (tOf s.T)) o.op).2 (nx0 + i) us with
          | false => rw [hb] at h; cases h
          | true =>
            rw [hb] at h
            simp only [cond_true] at h
            split at h
            · rename_i T' hp
              obtain ⟨p1, p2⟩ := xsc hp
              obtain ⟨g1, VW, g2, g3, g4⟩ := x9i hc (K := K) rest (i + 1) B _ _ s' h (fun e => hK (e.trans p2))
              refine ⟨g1.trans p2, vwX (ev (tOf s.T)) o.op :: VW, by simp [g2], ⟨xzk hm, g3⟩, ?_⟩
              simp only [wpsV1]
              refine xmm hg ?_
              rw [if_neg (by rw [hcl]; simp)]
              refine ⟨(v, us), hev, x3t hb, ?_⟩
              simpa only [asOf, p1, xnk] using g4
            · cases h
        · cases h
    · rename_i hg
      cases hm : meetRB nx0 i b [] [] 0 dn with
      | false => rw [hm] at h; cases h
      | true =>
      rw [hm] at h
      simp only [cond_true] at h
      split at h
      · rename_i T' hp
        obtain ⟨p1, p2⟩ := xsc hp
        obtain ⟨g1, VW, g2, g3, g4⟩ := x9i hc (K := K) rest (i + 1) B _ _ s' h (fun e => hK (e.trans p2))
        refine ⟨g1.trans p2, ([], []) :: VW, by simp [g2], ⟨xzk hm, g3⟩, ?_⟩
        simp only [wpsV1]
        refine xgr hg ?_
        simpa only [asOf, p1] using g4
      · cases h
    · cases h
def RunOk (P : Program) (rc : AC → XS → Option (Exit × XS)) : Prop := ∀ ac s e s', rc ac s = some (e, s') → s'.T.length = s.T.length ∧ cwp P s.T.length ac (fun e' z => e' = e ∧ z = asOf s') (asOf s)
theorem xup (htab : ∀ f n rs ac, tab f = some (n, rs, ac) → FnC P f n rs ac) {rc : AC → XS → Option (Exit × XS)} (hrc : RunOk P rc) {f : FuncId} (hn : told f = none) {ag : List AV} {H H' : XH} {nx nx' : Nat} {v : AV} (h : xF P tab told rc f ag H nx = some (v, H', nx')) :
    ACall P f ag (hOf H) nx fun r H'' n'' => r = v ∧ H'' = hOf H' ∧ n'' = nx' := by
  unfold xF at h
  rw [hn] at h
  simp only at h
  split at h
  · rename_i n rs ac ht
    cases hle : Nat.ble ag.length n with
    | false => rw [hle] at h; cases h
    | true =>
      rw [hle] at h
      simp only [cond_true] at h
      have hle' := Nat.le_of_ble_eq_true hle
      have hlen : (ag ++ List.replicate (n - ag.length) (AV.val undef)).length = n := by simp; omega
      have key : ∀ e s', rc ac ⟨ag ++ List.replicate (n - ag.length) (.val undef), H, nx⟩ = some (e, s') → (e = .ret ∨ e = .normal) → (match resA P (asOf s') rs with | some vs => some (mkRes vs, s'.H, s'.nx) | none => none) = some (v, H', nx') → ACall P f ag (hOf H) nx fun r H'' n'' => r = v ∧ H'' = hOf H' ∧ n'' = nx' := by
        intro e s' hr he hm
        split at hm
        · rename_i vs hvs
          simp only [Option.some.injEq, Prod.mk.injEq] at hm
          obtain ⟨rfl, rfl, rfl⟩ := hm
          obtain ⟨_, hw⟩ := hrc _ _ _ _ hr
          simp only [hlen] at hw
          refine acall (htab f n rs ac ht) hle' fun Q q1 q2 => ?_
          have hs : (⟨argT ag, hOf H, nx⟩ : AS) = asOf ⟨ag ++ List.replicate (n - ag.length) (.val undef), H, nx⟩ := by simp only [asOf, xa6]
          rw [hs]
          refine xcc hw ?_
          rintro e' z ⟨rfl, rfl⟩
          have hret : retR P rs (fun r H'' n'' => r = mkRes vs ∧ H'' = hOf s'.H ∧ n'' = s'.nx) (asOf s') := ⟨vs, hvs, rfl, rfl, rfl⟩
          rcases he with rfl | rfl
          · exact q1 _ hret
          · exact q2 _ hret
        · cases hm
      split at h
      · rename_i s' hr; exact key _ s' hr (.inl rfl) h
      · rename_i s' hr; exact key _ s' hr (.inr rfl) h
      · cases h
  · cases h
theorem xm7 {rc : AC → XS → Option (Exit × XS)} {f : FuncId} {g : List AV → Option AV} (hg : told f = some g) {ag : List AV} {H H' : XH} {nx nx' : Nat} {v : AV} (h : xF P tab told rc f ag H nx = some (v, H', nx')) :
    ∃ ag', frzs (hOf H) 300 ag = some ag' ∧ g ag' = some v ∧ H' = H ∧ nx' = nx := by
  unfold xF at h
  rw [hg] at h
  simp only at h
  split at h
  · rename_i ag' h1
    split at h
    · rename_i r h2
      simp only [Option.some.injEq, Prod.mk.injEq] at h
      obtain ⟨rfl, rfl, rfl⟩ := h
      exact ⟨ag', h1, h2, rfl, rfl⟩
    · cases h
  · cases h
theorem xr6 (htab : ∀ f n rs ac, tab f = some (n, rs, ac) → FnC P f n rs ac) (htold : ∀ f g, told f = some g → ∀ ag r, g ag = some r → OkN P f ag r) {rc : AC → XS → Option (Exit × XS)} (hrc : RunOk P rc) : CallOk P (xF P tab told rc) := by
  intro f ag H nx v H' nx' h c ρ new k hca hk
  cases hg : told f with
  | some g =>
    obtain ⟨ag', h1, h2, rfl, rfl⟩ := xm7 hg h
    exact S1_okn 300 (htold f g hg ag' v h2) hca h1 hk
  | none =>
    refine xpg ((xup htab hrc hg h).mono ?_) hca
    rintro r H'' n'' ⟨rfl, rfl, rfl⟩
    exact ⟨r, Sub.refl r, hk⟩
theorem x0u (htab : ∀ f n rs ac, tab f = some (n, rs, ac) → FnC P f n rs ac) {rc : AC → XS → Option (Exit × XS)} (hrc : RunOk P rc) : xlt P (xFD P tab told rc) := by
  intro f ag v h
  unfold xFD at h
  split at h
  · cases h
  · rename_i hg
    split at h
    · rename_i r H' n' hr
      refine xxq ((xup htab hrc hg hr).mono ?_)
      rintro r' H'' n'' ⟨rfl, rfl, rfl⟩
      exact ⟨r', Sub.refl _, 300, h⟩
    · cases h
theorem xxu (htab : ∀ f n rs ac, tab f = some (n, rs, ac) → FnC P f n rs ac) (htold : ∀ f g, told f = some g → ∀ ag r, g ag = some r → OkN P f ag r) {rc : AC → XS → Option (Exit × XS)} (hrc : RunOk P rc) : x9y P (xFN P tab told rc) := by
  intro f ag v h
  unfold xFN at h
  split at h
  · rename_i g hg
    exact htold f g hg ag v h
  · rename_i hg
    split at h
    · rename_i r H' n' hr
      refine x2x 300 ((xup htab hrc hg hr).mono ?_)
      rintro r' H'' n'' ⟨rfl, rfl, rfl⟩
      exact ⟨r', Sub.refl _, v, h, Sub.refl _⟩
    · cases h
theorem xmw {n : Nat} {x rest : AC} {l : Nat} {f : XS → Option (Exit × XS)} (hf : ∀ s e s', f s = some (e, s') → s'.T.length = s.T.length ∧ cwp P s.T.length rest (fun e' z => e' = e ∧ z = asOf s') (asOf s)) :
    ∀ (j : Nat) (s : XS) (e : Exit) (s' : XS), xJ f l j s = some (e, s') → s'.T.length = s.T.length ∧ e ≠ .goto l
  | 0, s, e, s', h => by simp [xJ] at h
  | j + 1, s, e, s', h => by
    unfold xJ at h
    split at h
    · rename_i l' s1 h1
      cases hb : Nat.beq l' l with
      | true =>
        rw [hb] at h
        simp only [cond_true] at h
        obtain ⟨g1, g2⟩ := xmw (n := n) (x := x) hf j s1 e s' h
        exact ⟨g1.trans (hf _ _ _ h1).1, g2⟩
      | false => rw [hb] at h; cases h
    · rename_i hn
      refine ⟨(hf _ _ _ h).1, ?_⟩
      rintro rfl
      exact hn l s' h
theorem x7v (htab : ∀ f n rs ac, tab f = some (n, rs, ac) → FnC P f n rs ac) (htold : ∀ f g, told f = some g → ∀ ag r, g ag = some r → OkN P f ag r) (hmix : P.follows .mixedOrders = true) : ∀ k, RunOk P (xC P tab told k) := by
  intro k
  induction k using Nat.strongRecOn with
  | _ k ih =>
  cases k with
  | zero => intro ac s e s' h; simp [xC] at h
  | succ k =>
    have hk := ih k (by omega)
    intro ac s e s' h
    cases ac with
    | skip => simp only [xC, Option.some.injEq, Prod.mk.injEq] at h; obtain ⟨rfl, rfl⟩ := h; exact ⟨rfl, xjm ⟨rfl, rfl⟩⟩
    | ret => simp only [xC, Option.some.injEq, Prod.mk.injEq] at h; obtain ⟨rfl, rfl⟩ := h; exact ⟨rfl, x9s ⟨rfl, rfl⟩⟩
    | exit id => simp only [xC, Option.some.injEq, Prod.mk.injEq] at h; obtain ⟨rfl, rfl⟩ := h; exact ⟨rfl, xdr ⟨rfl, rfl⟩⟩
    | label id => simp only [xC, Option.some.injEq, Prod.mk.injEq] at h; obtain ⟨rfl, rfl⟩ := h; exact ⟨rfl, xgj ⟨rfl, rfl⟩⟩
    | goto id => simp only [xC, Option.some.injEq, Prod.mk.injEq] at h; obtain ⟨rfl, rfl⟩ := h; exact ⟨rfl, x7q ⟨rfl, rfl⟩⟩
    | region l =>
      simp only [xC] at h
      split at h
      · rename_i s1 h1
        simp only [Option.some.injEq, Prod.mk.injEq] at h
        obtain ⟨rfl, rfl⟩ := h
        have hlen : s1.T.length = s.T.length := by
          have := xak _ _ _ _ h1
          exact this
        exact ⟨hlen, x4r (xoi (xr6 htab htold hk) l 0 _ s1 h1 fun _ => ⟨rfl, rfl⟩)⟩
      · cases h
    | draw l B rd =>
      simp only [xC] at h
      split at h
      · rename_i s1 h1
        simp only [Option.some.injEq, Prod.mk.injEq] at h
        obtain ⟨rfl, rfl⟩ := h
        split at h1
        · cases h1
        rename_i hrd
        have hlen : s1.T.length = s.T.length := by
          have := xmj _ _ _ _ h1
          exact this
        exact ⟨hlen, xrw hmix hrd (xth (xxu htab htold hk) (x0u htab hk) l 0 _ s1 h1 fun _ => ⟨rfl, rfl⟩)⟩
      · split at h
        · rename_i s1 h1
          simp only [Option.some.injEq, Prod.mk.injEq] at h
          obtain ⟨rfl, rfl⟩ := h
          obtain ⟨g1, VW, g2, g3, g4⟩ := x9i (K := fun z => Exit.normal = Exit.normal ∧ z = asOf s1) (x0u htab hk) l 0 B [] _ s1 h1 fun _ => ⟨rfl, rfl⟩
          exact ⟨g1, xa4 hmix VW g2 g3 g4⟩
        · cases h
    | seq a b =>
      simp only [xC] at h
      split at h
      · rename_i s1 h1
        obtain ⟨g1, g2⟩ := hk _ _ _ _ h1
        obtain ⟨g3, g4⟩ := hk _ _ _ _ h
        refine ⟨g3.trans g1, x4i fun K hK => xcc g2 ?_⟩
        rintro e' z ⟨rfl, rfl⟩
        rw [g1] at g4
        exact hK _ g4
      · rename_i hn
        obtain ⟨g1, g2⟩ := hk _ _ _ _ h
        refine ⟨g1, x4i fun K hK => xcc g2 ?_⟩
        rintro e' z ⟨rfl, rfl⟩
        cases e' with
        | normal => exact absurd h (hn _)
        | _ => exact ⟨rfl, rfl⟩
    | cond c a b =>
      simp only [xC] at h
      split at h
      · rename_i hc
        obtain ⟨g1, g2⟩ := hk _ _ _ _ h
        exact ⟨g1, x8q hc g2⟩
      · rename_i hc
        obtain ⟨g1, g2⟩ := hk _ _ _ _ h
        exact ⟨g1, x1o hc g2⟩
      · cases h
    | block id c =>
      simp only [xC] at h
      split at h
      · rename_i id' s1 h1
        obtain ⟨g1, g2⟩ := hk _ _ _ _ h1
        cases hb : Nat.beq id' id with
        | true =>
          rw [hb] at h
          simp only [cond_true, Option.some.injEq, Prod.mk.injEq] at h
          obtain ⟨rfl, rfl⟩ := h
          obtain rfl := Nat.eq_of_beq_eq_true hb
          refine ⟨g1, xdj (xcc g2 ?_)⟩
          rintro e' z ⟨rfl, rfl⟩
          simp only [blockQ, if_true, and_self]
        | false =>
          rw [hb] at h
          simp only [cond_false, Option.some.injEq, Prod.mk.injEq] at h
          obtain ⟨rfl, rfl⟩ := h
          have hne : ¬ id' = id := by rintro rfl; simp at hb
          refine ⟨g1, xdj (xcc g2 ?_)⟩
          rintro e' z ⟨rfl, rfl⟩
          simp only [blockQ, if_neg hne, and_self]
      · rename_i hn
        obtain ⟨g1, g2⟩ := hk _ _ _ _ h
        refine ⟨g1, xdj (xcc g2 ?_)⟩
        rintro e' z ⟨rfl, rfl⟩
        cases e' with
        | exit id' => exact absurd h (hn _ _)
        | _ => exact ⟨rfl, rfl⟩
    | loop c =>
      refine ⟨?_, ?_⟩
      · simp only [xC] at h
        split at h
        · rename_i s1 h1
          exact (hk _ _ _ _ h).1.trans (hk _ _ _ _ h1).1
        · exact (hk _ _ _ _ h).1
      · refine x6o (fun j z => j ≤ k + 1 ∧ ∃ t : XS, z = asOf t ∧ t.T.length = s.T.length ∧ xC P tab told j (.loop c) t = some (e, s')) (k + 1) ⟨Nat.le_refl _, s, rfl, rfl, h⟩ ?_ ?_
        · rintro z ⟨_, t, _, _, ht⟩
          simp [xC] at ht
        · rintro j z ⟨hj, t, rfl, hl, ht⟩
          have hj' := ih j (by omega)
          simp only [xC] at ht
          rw [← hl]
          split at ht
          · rename_i s1 h1
            obtain ⟨g1, g2⟩ := hj' _ _ _ _ h1
            refine xcc g2 ?_
            rintro e' z ⟨rfl, rfl⟩
            exact ⟨by omega, s1, rfl, g1, ht⟩
          · rename_i hn
            obtain ⟨g1, g2⟩ := hj' _ _ _ _ ht
            refine xcc g2 ?_
            rintro e' z ⟨rfl, rfl⟩
            cases e' with
            | normal => exact absurd ht (hn _)
            | _ => exact ⟨rfl, rfl⟩
    | scope c =>
      simp only [xC] at h
      split at h
      · rename_i l s1 h1
        obtain ⟨g1, g2⟩ := hk _ _ _ _ h1
        split at h
        · rename_i rest hf
          have hrest : ∀ s e s', xC P tab told k rest s = some (e, s') → s'.T.length = s.T.length ∧ cwp P s.T.length rest (fun e' z => e' = e ∧ z = asOf s') (asOf s) := fun s e s' h => hk _ _ _ _ h
          obtain ⟨g3, g4⟩ := xmw (n := 0) (x := c) hrest k s1 e s' h
          refine ⟨g3.trans g1, xqs l (fun j z => ∃ t : XS, z = asOf t ∧ t.T.length = s.T.length ∧ xJ (fun s => xC P tab told k rest s) l j t = some (e, s')) hf ?_ ?_ ?_⟩
          · rintro z ⟨t, _, _, ht⟩
            simp [xJ] at ht
          · refine xcc g2 ?_
            rintro e' z ⟨rfl, rfl⟩
            exact ⟨rfl, k, TI.here ⟨s1, rfl, g1, h⟩⟩
          · rintro j z ⟨t, rfl, hl, ht⟩
            unfold xJ at ht
            rw [← hl]
            split at ht
            · rename_i l' s2 h2
              cases hb : Nat.beq l' l with
              | true =>
                rw [hb] at ht
                simp only [cond_true] at ht
                obtain rfl := Nat.eq_of_beq_eq_true hb
                obtain ⟨q1, q2⟩ := hrest _ _ _ h2
                refine xcc q2 ?_
                rintro e' z ⟨rfl, rfl⟩
                exact ⟨rfl, TI.here ⟨s2, rfl, q1.trans rfl, ht⟩⟩
              | false => rw [hb] at ht; cases ht
            · rename_i hn
              obtain ⟨q1, q2⟩ := hrest _ _ _ ht
              refine xcc q2 ?_
              rintro e' z ⟨rfl, rfl⟩
              cases e' with
              | goto l' => exact absurd ht (hn _ _)
              | _ => exact ⟨rfl, rfl⟩
        · cases h
      · rename_i hn
        obtain ⟨g1, g2⟩ := hk _ _ _ _ h
        refine ⟨g1, xl1 (xcc g2 ?_)⟩
        rintro e' z ⟨rfl, rfl⟩
        cases e' with
        | goto l => exact absurd h (hn _ _)
        | _ => exact ⟨rfl, rfl⟩
end
end Go.Proofs.YtefdlpandfhcgaaGreatDoor.AL

