/- A law of the given program is proved: part 36 of 49. -/
import Derived.Test.YtnmljicimdhpmaaChecked
import Derived.Test.YtnmljicimdhpmaaH35
set_option linter.all false
/- (*walk.trail).names: what is handed on, round by round. -/
set_option linter.all false
namespace Go.Proofs.Ytnmljicimdhpmaa.AL
open Go Go.Proofs Go.RowKit

/-- The trail, where it is no longer written. -/
def trailAV (b : Branch) (ways : List Way) : AV := .agg [(sll 13 encNode) b.nodes, (sll 3 encWay) ways, .junk, .junk]
def nodeAt (b : Branch) (ino : Int) : Option Node := if ino < 1 then some (⟨0, 0, 0, 0, [], [], (⟨0, 0, noBytes, (⟨0, 0, 0⟩ : Origin), 0⟩ : Attr)⟩ : Node)
 else if (b.nodes.length : Int) < ino then some (⟨0, 0, 0, 0, [], [], (⟨0, 0, noBytes, (⟨0, 0, 0⟩ : Origin), 0⟩ : Attr)⟩ : Node)
 else (ix b.nodes (wr (ino - 1))).bind fun v5 => some v5
theorem posz_pp (cs : List AV) (hne : cs.isEmpty = false) (h : posz (.agg cs) = true) : posz (((AV.agg cs).ptr 0).ptr 0) = true := by
  simp only [posz] at h
  simp [posz, h, hne, AV.one]
theorem closed_pp (x : AV) (h : closed x = true) : closed ((x.ptr 0).ptr 0) = true := by simp [closed, h]
theorem closeds_pi (x : AV) (n : Int) (h : closed x = true) : closeds [x.ptr 0, int n] = true := by simp [closed, closeds, h, int]
def Y_node := And.intro (And.intro (And.intro (@R3) (@R24)) (And.intro (@R26) (@R46))) (And.intro (And.intro (@DBranch) (@DOrigin)) (And.intro (@DAttr) (And.intro (@DNode) (@DEntry))))
set_option maxHeartbeats 2000000 in
theorem ok_node (b : Branch) (ways : List Way) (ino : Int) (r : Node) (hm0 : nodeAt b ino = some r) : Ok Try.prog 92 [.ptr (trailAV b ways) 0, int ino] (encNode r) := by
  unfold nodeAt at hm0
  refine okF fc_walk_trail_node (by simp) ?_
  unfold c_walk_trail_node trailAV
  by_cases h1 : ino < 1
  · have e2 : (ino < 1) = True := eq_true h1
    rw [if_pos h1] at hm0
    simp only [Option.some.injEq] at hm0
    subst hm0
    simp only [e2, Y_node, R96, EV, ↓EVd, isCall, Nat.reduceAdd, Nat.reduceSub, Nat.reduceMul, Nat.reduceEqDiff, Nat.reduceBEq, Nat.reduceLT, Nat.reduceLeDiff, ↓reduceIte, reduceCtorEq]

    all_goals first | done | rfl | exact frzR_closed (by simp only [CLO]) | exact frzR_sub (by simp only [CLO]) (Sub.agg (Subs.cons (Sub.refl _) (Subs.cons (Sub.refl _) (Subs.cons (Sub.refl _) (Subs.cons (Sub.refl _) (Subs.cons (Sub.nilS _) (Subs.cons (Sub.nilS _) (Subs.cons (Sub.refl _) (Subs.cons (Sub.refl _) (Subs.cons (Sub.refl _) (Subs.cons (Sub.refl _) (Subs.cons (Sub.refl _) (Subs.cons (Sub.refl _) (Subs.cons (Sub.refl _) (Subs.nil)))))))))))))))
  · have e2 : (ino < 1) = False := eq_false h1
    rw [if_neg h1] at hm0
    by_cases h3 : (b.nodes.length : Int) < ino
    · have e4 : ((b.nodes.length : Int) < ino) = True := eq_true h3
      rw [if_pos h3] at hm0
      simp only [Option.some.injEq] at hm0
      subst hm0
      simp only [e2, e4, Y_node, R96, EV, ↓EVd, isCall, Nat.reduceAdd, Nat.reduceSub, Nat.reduceMul, Nat.reduceEqDiff, Nat.reduceBEq, Nat.reduceLT, Nat.reduceLeDiff, ↓reduceIte, reduceCtorEq]
      all_goals first | done | rfl | exact frzR_closed (by simp only [CLO]) | exact frzR_sub (by simp only [CLO]) (Sub.agg (Subs.cons (Sub.refl _) (Subs.cons (Sub.refl _) (Subs.cons (Sub.refl _) (Subs.cons (Sub.refl _) (Subs.cons (Sub.nilS _) (Subs.cons (Sub.nilS _) (Subs.cons (Sub.refl _) (Subs.cons (Sub.refl _) (Subs.cons (Sub.refl _) (Subs.cons (Sub.refl _) (Subs.cons (Sub.refl _) (Subs.cons (Sub.refl _) (Subs.cons (Sub.refl _) (Subs.nil)))))))))))))))
    · have e4 : ((b.nodes.length : Int) < ino) = False := eq_false h3
      rw [if_neg h3] at hm0
      obtain ⟨v5, h5, hm0⟩ := Option.bind_eq_some_iff.1 hm0
      simp only [Option.some.injEq] at hm0
      subst hm0
      have i1 := ix_enc encNode h5
      have i2 := ix_nonneg h5
      simp only [e2, e4, i1, i2, Y_node, R96, EV, ↓EVd, isCall, Nat.reduceAdd, Nat.reduceSub, Nat.reduceMul, Nat.reduceEqDiff, Nat.reduceBEq, Nat.reduceLT, Nat.reduceLeDiff, ↓reduceIte, reduceCtorEq]
      all_goals exact frzR_closed (by simp only [CLO])

section
variable {P : Program} {n : Nat} {σ : Type} {JJ : σ → World → Prop} {Zx : σ → Nat → Prop} {Q : Exit → AS → σ → Prop} {s : AS} {y : σ}
theorem cY_cw {x : AC} (h : cw P n x (fun e s' => Q e s' y) s) : cY JJ Zx P n x Q s y := cY_of (cw_cwp x h) fun _ _ h => h
theorem cY_label {id : Nat} (h : Q .normal s y) : cY JJ Zx P n (.label id) Q s y := cY_of (cwp_label (Q := fun e s' => Q e s' y) h) fun _ _ h => h
theorem yQ_n (next : AS → σ → Prop) : yQ next Q .normal s y = next s y := _root_.id rfl
end
def entsN (nd : Way → Node) (ways : List Way) (i : Nat) : List Entry := (ways.take i).flatMap fun w => (nd w).entries
theorem entsN_succ (nd : Way → Node) (ways : List Way) (i : Nat) (h : i < ways.length) : entsN nd ways (i + 1) = entsN nd ways i ++ (nd ways[i]).entries := by
  unfold entsN
  rw [List.take_succ_eq_append_getElem h, List.flatMap_append, List.flatMap_cons, List.flatMap_nil, List.append_nil]
theorem entsN_le (nd : Way → Node) (ways : List Way) (i j : Nat) (h : i < ways.length) (hj : j < (nd ways[i]).entries.length) : (entsN nd ways i ++ (nd ways[i]).entries.take j).length < (entsN nd ways ways.length).length := by
  have h1 : (entsN nd ways (i + 1)).length ≤ (entsN nd ways ways.length).length := by
    unfold entsN
    rw [List.take_length]
    conv => rhs; rw [← List.take_append_drop (i + 1) ways]
    rw [List.flatMap_append, List.length_append]
    omega
  rw [entsN_succ _ _ _ h] at h1
  simp at h1 ⊢
  omega
def entV (e : Entry) : Value := .agg #[.int .i64 e.slot, .int .i64 e.ino, .string e.name]
theorem entV_of {E : Env} {v : Value} {e : Entry} (h : VRep E (encEntry e) v) : v = entV e := by
  simp only [encEntry, int, str, VRep, VReps] at h
  obtain ⟨us, ⟨u1, us1, rfl, ⟨u2, us2, rfl, ⟨u3, us3, rfl, rfl, rfl⟩, rfl⟩, rfl⟩, rfl⟩ := h
  rfl
theorem poszs_map {α : Type} (f : α → AV) (h : ∀ x, posz (f x) = true) : ∀ l : List α, poszs (l.map f) = true
  | [] => rfl
  | x :: l => by simp only [List.map_cons, poszs, h x, poszs_map f h l, Bool.and_self]
theorem posz_Entry (e : Entry) : posz (encEntry e) = true := rfl
theorem posz_Way (e : Way) : posz (encWay e) = true := rfl
theorem posz_sll {α : Type} (k : Nat) (f : α → AV) (hk : 0 < k) (h : ∀ x, posz (f x) = true) (l : List α) : posz (sll k f l) = true := by
  simp only [sll, posz, poszs_map f h l, Bool.and_true, decide_eq_true_eq]; exact hk
theorem posz_D (l : List UInt8) : posz (encD l) = true := by
  simp only [encD]
  exact posz_sll 1 _ (by omega) (fun _ => rfl) l
theorem posz_Node (x : Node) : posz (encNode x) = true := by
  have h1 := posz_D x.data
  have h2 := posz_sll 3 encEntry (by omega) posz_Entry x.entries
  simp only [encNode]
  generalize encD x.data = X at h1
  generalize sll 3 encEntry x.entries = Y at h2
  simp [posz, poszs, h1, h2, int, str]
theorem posz_trail (b : Branch) (ways : List Way) : posz (trailAV b ways) = true := by
  have h1 := posz_sll 13 encNode (by omega) posz_Node b.nodes
  have h2 := posz_sll 3 encWay (by omega) posz_Way ways
  simp only [trailAV]
  generalize sll 13 encNode b.nodes = X at h1
  generalize sll 3 encWay ways = Y at h2
  simp [posz, poszs, h1, h2]
theorem closed_trail (b : Branch) (ways : List Way) : closed (trailAV b ways) = true := by
  simp only [trailAV, sll, closed, closeds, cM_Node, cM_Way, Bool.and_self]
section
variable {JJ : Bool × List Entry → World → Prop} {Zx : Bool × List Entry → Nat → Prop} {b : Branch} {ways : List Way} {nd : Way → Node} {l m : Nat}
set_option maxHeartbeats 2000000 in
theorem names_walk (hab : ∀ y W W', JJ y W → W.grownBy W' none → JJ y W') (hZ : ∀ ys zs, Zx (true, ys) = Zx (true, zs)) (hno : ∀ ys b, ¬ Zx (false, ys) b)
    (hn : ∀ w ∈ ways, nodeAt b w.ino = some (nd w)) (hb1 : ways.length < 4611686018427387904) (hb2 : ∀ w ∈ ways, (nd w).entries.length < 4611686018427387904)
    (hY : ∀ pre e W, JJ (true, pre) W → pre.length < (entsN nd ways ways.length).length → YieldAt Fence.wide m Try.prog l #[entV e] W fun r W' =>
      (r = .returned (.bool true) ∧ JJ (true, pre ++ [e]) W' ∧ W.heap.size ≤ W'.heap.size ∧ ∀ b o, ¬ Zx (true, pre) b → W.heap[b]? = some o → o.isCells = true → W'.heap[b]? = some o) ∨ (r = .returned (.bool false) ∧ JJ (false, pre ++ [e]) W')) :
    cY JJ Zx Try.prog 32 c_walk_trail_names_1 (fun e s y => e = .normal ∧ (y = (true, entsN nd ways ways.length) ∨ ∃ pre, y = (false, pre))) ⟨argT [.fn (.yield l) [] [], .ptr (.ptr (trailAV b ways) 0) 0], fun _ => none, 0⟩ (true, []) := by
  unfold c_walk_trail_names_1
  refine cY_scope (cY_seq (cY_label ?_))
  refine cY_seq (cY_cw ?_)
  unfold trailAV
  simp only [yQ_n, R96, R97, R49, R52, R3, DWay, EV, ↓EVd, isCall, Nat.reduceAdd, Nat.reduceSub, Nat.reduceMul, Nat.reduceEqDiff, Nat.reduceBEq, Nat.reduceLT, Nat.reduceLeDiff, ↓reduceIte, reduceCtorEq]
  have TRp := posz_pp _ rfl (posz_trail b ways)
  have TRc1 := closed_trail b ways
  have TRc := closed_pp _ TRc1
  have hnode : ∀ w ∈ ways, Ok Try.prog 92 [.ptr (trailAV b ways) 0, int w.ino] (encNode (nd w)) := fun w hw => ok_node b ways _ _ (hn w hw)
  unfold trailAV at TRp TRc1 TRc hnode
  generalize hTR : (AV.agg [sll 13 encNode b.nodes, sll 3 encWay ways, AV.junk, AV.junk]) = TR at TRp TRc TRc1 hnode
  refine cY_block (cY_loop (fun k s y => ∃ i : Nat, i ≤ ways.length ∧ k = ways.length - i + 1 ∧ y = (true, entsN nd ways i) ∧ s.T 0 = .fn (.yield l) [] [] ∧ s.T 1 = (TR.ptr 0).ptr 0 ∧ s.T 10 = sll 3 encWay ways ∧ s.T 11 = int ways.length ∧ s.T 12 = int i) (ways.length + 1) ⟨0, by omega, by omega, rfl, rfl, rfl, rfl, rfl, rfl⟩ ?_ ?_)
  · rintro s y ⟨i, h1, h2, _⟩; omega
  rintro k ⟨T, H, nx⟩ y ⟨i, hi, hk, rfl, h0, h1, h10, h11, h12⟩
  dsimp only at h0 h1 h10 h11 h12
  refine cY_seq (cY_cw ?_)
  simp only [yQ_n, h0, h1, h10, h11, h12, R3, EV, ↓EVd, isCall, Nat.reduceAdd, Nat.reduceSub, Nat.reduceMul, Nat.reduceEqDiff, Nat.reduceBEq, Nat.reduceLT, Nat.reduceLeDiff, ↓reduceIte, reduceCtorEq]
  refine ⟨fun hlt => ?_, fun hlt => ?_⟩
  rotate_left
  · refine cY_seq (cY_cond (b := false) rfl ?_)
    rw [if_neg (by simp)]
    refine cY_exit ?_
    have : i = ways.length := by omega
    subst this
    exact ⟨rfl, .inl rfl⟩
  have hi' : i < ways.length := by omega
  refine cY_seq (cY_cond (b := true) rfl ?_)
  rw [if_pos rfl]
  refine cY_skip ?_
  refine cY_seq (cY_block (cY_seq (cY_cw ?_)))
  have e7 : ((0 : Int) ≤ (i : Int)) = True := eq_true (by omega)
  have e8 : (ways.map encWay)[(i : Int).toNat]? = some (encWay ways[i]) := by simp [hi']
  simp only [yQ_n, h0, h1, h10, h11, h12, e7, e8, R3, R49, R52, DWay, EV, ↓EVd, isCall, Nat.reduceAdd, Nat.reduceSub, Nat.reduceMul, Nat.reduceEqDiff, Nat.reduceBEq, Nat.reduceLT, Nat.reduceLeDiff, ↓reduceIte, reduceCtorEq]
  refine cY_seq (cY_cw ?_)
  simp only [yQ_n, h0, h1, h10, h11, h12, R3, R97, R52, DWay, EV, ↓EVd, isCall, Nat.reduceAdd, Nat.reduceSub, Nat.reduceMul, Nat.reduceEqDiff, Nat.reduceBEq, Nat.reduceLT, Nat.reduceLeDiff, ↓reduceIte, reduceCtorEq]
  refine S1_ok (hnode _ (List.getElem_mem hi')) rfl (closeds_pi _ _ TRc1) ?_
  simp only [yQ_n, h0, h1, h10, h11, h12, R3, R46, R40, DNode, DEntry, EV, ↓EVd, isCall, Nat.reduceAdd, Nat.reduceSub, Nat.reduceMul, Nat.reduceEqDiff, Nat.reduceBEq, Nat.reduceLT, Nat.reduceLeDiff, ↓reduceIte, reduceCtorEq]
  have hbe := hb2 _ (List.getElem_mem hi')
  have hel := entsN_le nd ways i
  have hsu := entsN_succ nd ways i hi'
  generalize hes : (nd ways[i]).entries = es at hbe hel hsu
  refine cY_block (cY_loop (fun k s y => ∃ j : Nat, j ≤ es.length ∧ k = es.length - j + 1 ∧ y = (true, entsN nd ways i ++ es.take j) ∧ s.T 0 = .fn (.yield l) [] [] ∧ s.T 1 = (TR.ptr 0).ptr 0 ∧ s.T 10 = sll 3 encWay ways ∧ s.T 11 = int ways.length ∧ s.T 12 = int i ∧ s.T 20 = sll 3 encEntry es ∧ s.T 21 = int es.length ∧ s.T 22 = int j) (es.length + 1) ⟨0, by omega, by omega, by simp, h0, h1, h10, h11, h12, by rw [← hes]; rfl, by rw [← hes]; rfl, rfl⟩ ?_ ?_)
  · rintro s y ⟨j, h1, h2, _⟩; omega
  clear h0 h1 h10 h11 h12
  rintro k2 ⟨T2, H2, nx2⟩ y ⟨j, hj, hk2, rfl, h0, h1, h10, h11, h12, h20, h21, h22⟩
  dsimp only at h0 h1 h10 h11 h12 h20 h21 h22
  refine cY_seq (cY_cw ?_)
  simp only [yQ_n, h0, h1, h10, h11, h12, h20, h21, h22, R3, EV, ↓EVd, isCall, Nat.reduceAdd, Nat.reduceSub, Nat.reduceMul, Nat.reduceEqDiff, Nat.reduceBEq, Nat.reduceLT, Nat.reduceLeDiff, ↓reduceIte, reduceCtorEq]
  refine ⟨fun hlt2 => ?_, fun hlt2 => ?_⟩
  rotate_left
  · refine cY_seq (cY_cond (b := false) rfl ?_)
    rw [if_neg (by simp)]
    refine cY_exit ?_
    have : j = es.length := by omega
    subst this
    show cY _ _ _ _ _ _ _ _
    refine cY_cw ?_
    have e9 : wr ((i : Int) + 1) = ((i + 1 : Nat) : Int) := by rw [wr_in (by omega) (by omega)]; omega
    simp only [yQ_n, h0, h1, h10, h11, h12, e9, R3, EV, ↓EVd, isCall, Nat.reduceAdd, Nat.reduceSub, Nat.reduceMul, Nat.reduceEqDiff, Nat.reduceBEq, Nat.reduceLT, Nat.reduceLeDiff, ↓reduceIte, reduceCtorEq]
    exact ⟨i + 1, by omega, by omega, by rw [hsu, List.take_length], rfl⟩
  have hj' : j < es.length := by omega
  refine cY_seq (cY_cond (b := true) rfl ?_)
  rw [if_pos rfl]
  refine cY_skip ?_
  refine cY_seq (cY_block (cY_seq (cY_cw ?_)))
  have e7 : ((0 : Int) ≤ (j : Int)) = True := eq_true (by omega)
  have e8 : (es.map encEntry)[(j : Int).toNat]? = some (encEntry es[j]) := by simp [hj']
  simp only [yQ_n, h0, h1, h10, h11, h12, h20, h21, h22, e7, e8, R3, R40, R54, DEntry, EV, ↓EVd, isCall, Nat.reduceAdd, Nat.reduceSub, Nat.reduceMul, Nat.reduceEqDiff, Nat.reduceBEq, Nat.reduceLT, Nat.reduceLeDiff, ↓reduceIte, reduceCtorEq]
  refine cY_seq ?_
  refine cY_yield (T := 54) (Tb := 4) (tx := 6) (d1 := 26) (d2 := 27) (d3 := 28) (d4 := 29) (l := l) (m := m) (u := entV es[j]) (x := encEntry es[j]) (yT := (true, entsN nd ways i ++ es.take j ++ [es[j]])) (yF := (false, entsN nd ways i ++ es.take j ++ [es[j]])) hab h0 (by omega) (by omega) ?_ (fun E v h => entV_of h) ?_ (fun b h => by rw [hZ _ (entsN nd ways i ++ es.take j)] at h; exact h) (hno _) ?_ ?_
  · simp only [h0, h1, h10, h11, h12, h20, h21, h22, e7, e8, R3, R40, R54, DEntry, EV, ↓EVd, isCall, Nat.reduceAdd, Nat.reduceSub, Nat.reduceMul, Nat.reduceEqDiff, Nat.reduceBEq, Nat.reduceLT, Nat.reduceLeDiff, ↓reduceIte, reduceCtorEq]
  · intro W hJ
    exact hY _ _ W hJ (by subst hes; exact hel j hi' hj')
  · show cY _ _ _ _ _ _ _ _
    refine cY_cond (b := false) rfl ?_
    rw [if_neg (by simp)]
    refine cY_skip ?_
    show cY _ _ _ _ _ _ _ _
    refine cY_cw ?_
    generalize hK : keepT _ = K
    have k0 : K 0 = .fn (.yield l) [] [] := by rw [← hK]; exact keepT_of h0 rfl rfl
    have k1 : K 1 = (TR.ptr 0).ptr 0 := by rw [← hK]; exact keepT_of h1 TRc TRp
    have k10 : K 10 = sll 3 encWay ways := by rw [← hK]; exact keepT_of h10 (by simp only [sll, closed, cM_Way]) (posz_sll 3 encWay (by omega) posz_Way ways)
    have k11 : K 11 = int ways.length := by rw [← hK]; exact keepT_of h11 rfl rfl
    have k12 : K 12 = int i := by rw [← hK]; exact keepT_of h12 rfl rfl
    have k20 : K 20 = sll 3 encEntry es := by rw [← hK]; exact keepT_of h20 (by simp only [sll, closed, cM_Entry]) (posz_sll 3 encEntry (by omega) posz_Entry es)
    have k21 : K 21 = int es.length := by rw [← hK]; exact keepT_of h21 rfl rfl
    have k22 : K 22 = int j := by rw [← hK]; exact keepT_of h22 rfl rfl
    have e9 : wr ((j : Int) + 1) = ((j + 1 : Nat) : Int) := by rw [wr_in (by omega) (by omega)]; omega
    simp only [yQ_n, k0, k1, k10, k11, k12, k20, k21, k22, e9, R3, EV, ↓EVd, isCall, Nat.reduceAdd, Nat.reduceSub, Nat.reduceMul, Nat.reduceEqDiff, Nat.reduceBEq, Nat.reduceLT, Nat.reduceLeDiff, ↓reduceIte, reduceCtorEq]
    exact ⟨j + 1, by omega, by omega, by rw [List.take_succ_eq_append_getElem hj', List.append_assoc], rfl⟩
  · show cY _ _ _ _ _ _ _ _
    refine cY_cond (b := true) rfl ?_
    rw [if_pos rfl]
    refine cY_exit ?_
    exact ⟨rfl, .inr ⟨_, rfl⟩⟩
end
/-- What a round keeps: all cells but those of X. -/
def KpX (X : Nat → Prop) (A B : World) : Prop := A.heap.size ≤ B.heap.size ∧ ∀ b o, ¬ X b → A.heap[b]? = some o → o.isCells = true → B.heap[b]? = some o
theorem start_tmps {E : Env} {args : List AV} {vals : List Value} (hv : VReps E args vals) (k : Nat) : ∀ t, VRep E (argT args t) ((vals.toArray ++ Array.replicate k undef).getD t undef) := by
  have hl := hv.length
  intro t
  simp only [argT]
  by_cases ht : t < args.length
  · rw [List.getElem?_eq_getElem ht]
    obtain ⟨u, h1, h2⟩ := hv.get t _ (List.getElem?_eq_getElem ht)
    have : (vals.toArray ++ Array.replicate k undef).getD t undef = u := by
      have hlt : t < vals.length := by omega
      simp only [Array.getD_eq_getD_getElem?, Array.getElem?_append, List.size_toArray, if_pos hlt, List.getElem?_toArray, h1, Option.getD_some]
    rw [this]
    exact h2
  · rw [List.getElem?_eq_none (by omega)]
    have : (vals.toArray ++ Array.replicate k undef).getD t undef = undef := by
      simp only [Array.getD_eq_getD_getElem?, Array.getElem?_append]
      rw [if_neg (by simp; omega)]
      simp only [Array.getElem?_replicate]
      split <;> rfl
    rw [this]
    exact undef_rep E
theorem names_stops {n : Nat} {b : Branch} {ways : List Way} {nd : Way → Node} {X Z : Nat → Prop} {w : World} {v : Value}
    (hn : ∀ w ∈ ways, nodeAt b w.ino = some (nd w)) (hb1 : ways.length < 4611686018427387904) (hb2 : ∀ w ∈ ways, (nd w).entries.length < 4611686018427387904)
    (hv : VRep (Ec Z w) (.ptr (.ptr (trailAV b ways) 0) 0) v) (hZ : ∀ b, Z b → b < w.heap.size) (hX : ∀ b, Z b → ¬ X b) (hXw : ∀ b, X b → b < w.heap.size) :
    SeqStopsK Fence.wide n Try.prog 109 #[v] (fun e : Entry => #[entV e]) (KpX X) (fun ys => ys = entsN nd ways ways.length) (fun _ => True) (entsN nd ways ways.length).length w := by
  intro l J Jx W hW hJ hJx hY h0
  let JJ : Bool × List Entry → World → Prop := fun y W => if y.1 = true then J y.2 W else Jx y.2 W
  let Zx : Bool × List Entry → Nat → Prop := fun y b => y.1 = true ∧ X b
  have hwalk := names_walk (JJ := JJ) (Zx := Zx) (b := b) (ways := ways) (nd := nd) (l := l) (m := n - 1) ?_ ?_ ?_ hn hb1 hb2 ?_
  rotate_left
  · rintro ⟨t, ys⟩ W1 W2 h hg
    cases t with
    | true => exact hJ ys W1 W2 none h hg (fun r e => by cases e)
    | false => exact hJx ys W1 W2 none h hg (fun r e => by cases e)
  · intro ys zs; rfl
  · rintro ys b ⟨h, _⟩; cases h
  · intro pre e W1 hj hlt
    obtain ⟨fn, tm, asg, bo, g1, g2⟩ := hY pre e W1 hj hlt
    refine ⟨fn, tm, asg, bo, g1, g2.mono ?_⟩
    rintro r W' (⟨rfl, k1, k2, k3⟩ | ⟨rfl, k1⟩)
    · exact .inl ⟨rfl, k1, k2, fun b o hb => k3 b o fun hx => hb ⟨rfl, hx⟩⟩
    · exact .inr ⟨rfl, k1⟩
  refine callsIn_wide.2 ?_
  obtain ⟨fn, c, h1, h2, h3, h4, h5⟩ := fc_walk_trail_names_1.code
  refine calls_of_wp h1 h2 ?_
  have hsame : ∀ b, Z b → W.heap[b]? = w.heap[b]? := fun b hb => hW.block b (hZ b hb)
  have hv' : VRep (Ec Z W) (.ptr (.ptr (trailAV b ways) 0) 0) v := VRep.stab (E := Ec Z w) (E' := Ec Z W) ⟨fun _ h => h, fun _ h => h.elim, fun b hb => ⟨hb, hsame b hb⟩⟩ _ _ hv
  have hargs : VReps (Ec Z W) [.fn (.yield l) [] [], .ptr (.ptr (trailAV b ways) 0) 0] [.func (.yield l) #[] #[], v] := by
    simp only [VReps]
    exact ⟨_, _, VRep.fn_mk (va := #[]) (vb := #[]) .nil .nil, ⟨_, _, hv', rfl, rfl⟩, rfl⟩
  have hSY : SY JJ Zx 32 ⟨argT [.fn (.yield l) [] [], .ptr (.ptr (trailAV b ways) 0) 0], fun _ => none, 0⟩ (true, []) { tmps := (#[Value.func (.yield l) #[] #[]] ++ #[v]) ++ Array.replicate (fn.ntmps - (#[Value.func (.yield l) #[] #[]] ++ #[v]).size) undef, defers := [] } W := by
    refine ⟨{ base := W.heap.size, w0 := W, zone := Z, gw := GW.free _, gb := gN_free _ }, Ec Z W, 0, Ec Z W, ?_, rfl, Nat.le_refl _, ?_, rfl, fun b hb hx => hX b hb hx.2, fun b hx => Nat.lt_of_lt_of_le (hXw b hx.2) hW.size⟩
    · exact h0
    · refine ⟨⟨Below.refl _ _, Nat.le_refl _, fun b hb => Nat.lt_of_lt_of_le (hZ b hb) hW.size, fun b _ l c e => by simp [Ec] at e, fun b hb => .inl hb, fun l => rfl, fun l x e => by simp [Ec] at e, fun l l' b c c' e => by simp [Ec] at e, fun l o p e => by simp at e, fun l b c e => by simp [Ec] at e⟩, Stab.refl _, fun l k => k.elim, fun l k => .inl k, by simp [h3], rfl, ?_⟩
      exact start_tmps hargs _
  refine wp_mono (hwalk c h5 _ _ hSY) ?_
  rintro e a' w' ⟨s', y', ⟨rfl, hq⟩, C, E0, k0, E, q1, q2, q3, q4, rfl, q5⟩
  have hq1 : JJ y' E.w := by
    have hg := below_grown q4.heap.below q2
    rcases hq with rfl | ⟨pre, rfl⟩
    · exact hJ _ _ _ none q1 hg (fun r e => by cases e)
    · exact hJx _ _ _ none q1 hg (fun r e => by cases e)
  obtain ⟨v0, hv1, hv2⟩ := results_sound (P := Try.prog) (fn := fn) (s := s') (rs := []) q4.heap q4.tmps (by rw [h4]; rfl)
  refine ⟨q4.defers, v0, hv1, ⟨v0, rfl⟩, ?_⟩
  rcases hq with rfl | ⟨pre, rfl⟩
  · exact .inl ⟨_, rfl, hq1⟩
  · exact .inr ⟨pre, trivial, hq1⟩
end Go.Proofs.Ytnmljicimdhpmaa.AL

/- (*walk.trail).reach: its pieces; written by reachgen.py. -/
set_option linter.all false
set_option maxRecDepth 100000
namespace Go.Proofs.Ytnmljicimdhpmaa.AL
open Go Go.Proofs
def c_reach_0 : AC := (.region [⟨.assign (.const (Value.slice none 0 0)), some 2, none⟩])
def c_reach_1 : AC := (.region [⟨.move (.tmp 0), some 7, none⟩,
  ⟨.nilCheck (.tmp 7), some 8, none⟩,
  ⟨.fieldAddr 96 (.tmp 8) 0, some 9, none⟩,
  ⟨.fieldAddr 26 (.tmp 9) 0, some 10, none⟩,
  ⟨.load 24 (.tmp 10), some 11, none⟩,
  ⟨.call (Go.Call.mk (.builtin .len) #[.tmp 11] #[24]), some 12, none⟩,
  ⟨.makeSlice 72 (.tmp 12) (.tmp 12), some 13, none⟩,
  ⟨.alloc 72, some 3, none⟩,
  ⟨.store 72 (.tmp 3) (.tmp 13), none, none⟩])
def c_reach_2 : AC := (.seq (.region [⟨.move (.tmp 0), some 14, none⟩,
  ⟨.nilCheck (.tmp 14), some 15, none⟩,
  ⟨.fieldAddr 96 (.tmp 15) 1, some 16, none⟩,
  ⟨.load 49 (.tmp 16), some 17, none⟩,
  ⟨.call (Go.Call.mk (.builtin .len) #[.tmp 17] #[49]), some 18, none⟩,
  ⟨.move (.const (Value.int .i64 0)), some 19, none⟩])
 (.block 0 (.loop (.seq (.region [⟨.binOp .lss 3 (.tmp 19) (.tmp 18) 3, some 20, none⟩])
 (.seq (.cond (.tmp 20) .skip
 (.exit 0))
 (.seq (.block 1 (.seq (.region [⟨.indexAddr 49 (.tmp 17) (.tmp 19), some 21, none⟩,
  ⟨.load 52 (.tmp 21), some 22, none⟩,
  ⟨.alloc 52, some 5, none⟩,
  ⟨.store 52 (.tmp 5) (.tmp 22), none, none⟩])
 (.region [⟨.load 72 (.tmp 3), some 23, none⟩,
  ⟨.fieldAddr 52 (.tmp 5) 0, some 24, none⟩,
  ⟨.load 3 (.tmp 24), some 25, none⟩,
  ⟨.binOp .sub 3 (.tmp 25) (.const (Value.int .i64 1)) 3, some 26, none⟩,
  ⟨.indexAddr 72 (.tmp 23) (.tmp 26), some 27, none⟩,
  ⟨.store 4 (.tmp 27) (.const (Value.bool true)), none, none⟩])))
 (.region [⟨.binOp .add 3 (.tmp 19) (.const (Value.int .i64 1)) 3, some 28, none⟩,
  ⟨.move (.tmp 28), some 19, none⟩])))))))
def c_reach_7 : AC := (.region [⟨.move (.tmp 0), some 29, none⟩,
  ⟨.call (Go.Call.mk (.value (.func 101)) #[.tmp 29] #[97]), some 30, none⟩])
def c_reach_asg : AC := (.region [⟨.alloc 54, some 6, none⟩,
  ⟨.store 54 (.tmp 6) (.tmp 31), none, none⟩])
def c_reach_body : AC := (.block 3 (.seq (.region [⟨.fieldAddr 54 (.tmp 6) 1, some 32, none⟩,
  ⟨.load 3 (.tmp 32), some 33, none⟩,
  ⟨.binOp .geq 3 (.tmp 33) (.const (Value.int .i64 1)) 3, some 34, none⟩,
  ⟨.move (.tmp 34), some 35, none⟩,
  ⟨.fieldAddr 54 (.tmp 6) 1, some 36, (some (35, true))⟩,
  ⟨.load 3 (.tmp 36), some 37, (some (35, true))⟩,
  ⟨.load 72 (.tmp 3), some 38, (some (35, true))⟩,
  ⟨.call (Go.Call.mk (.builtin .len) #[.tmp 38] #[72]), some 39, (some (35, true))⟩,
  ⟨.binOp .leq 3 (.tmp 37) (.tmp 39) 3, some 40, (some (35, true))⟩,
  ⟨.pick (.tmp 35) (.tmp 40) (.const (Value.bool false)), some 41, none⟩])
 (.cond (.tmp 41) (.region [⟨.load 72 (.tmp 3), some 42, none⟩,
  ⟨.fieldAddr 54 (.tmp 6) 1, some 43, none⟩,
  ⟨.load 3 (.tmp 43), some 44, none⟩,
  ⟨.binOp .sub 3 (.tmp 44) (.const (Value.int .i64 1)) 3, some 45, none⟩,
  ⟨.indexAddr 72 (.tmp 42) (.tmp 45), some 46, none⟩,
  ⟨.store 4 (.tmp 46) (.const (Value.bool true)), none, none⟩])
 .skip)))
def c_reach_tail : AC := (.seq (.region [⟨.load 72 (.tmp 3), some 47, none⟩,
  ⟨.assign (.tmp 47), some 2, none⟩])
 .ret)
theorem fc_reach : ∃ (fn : Func) (c0 c1 c2 c7 asg bd ct : Code), Try.prog.funcs[75]? = some fn ∧ fn.body = some (.seq c0 (.seq c1 (.seq c2 (.seq (.seq c7 (.block 2 (.rangeFunc (.tmp 30) #[31] asg bd))) ct)))) ∧ fn.ntmps = 48 ∧ fn.results.toList = [.tmp 2] ∧ callable Try.prog 75 = true ∧ comp 48 c0 = some c_reach_0 ∧ comp 48 c1 = some c_reach_1 ∧ comp 48 c2 = some c_reach_2 ∧ comp 48 c7 = some c_reach_7 ∧ comp 48 asg = some c_reach_asg ∧ comp 48 bd = some c_reach_body ∧ comp 48 ct = some c_reach_tail :=
  ⟨Try.f75, _, _, _, _, _, _, _, Try.func75, rfl, rfl, rfl, by kernel_rfl, by kernel_rfl, by kernel_rfl, by kernel_rfl, by kernel_rfl, by kernel_rfl, by kernel_rfl, by kernel_rfl⟩
end Go.Proofs.Ytnmljicimdhpmaa.AL

/- (*walk.trail).reach: the walk ahead of the range over a function. -/
set_option linter.all false
namespace Go.Proofs.Ytnmljicimdhpmaa.AL
open Go Go.Proofs Go.RowKit

theorem ok_names (b : Branch) (ways : List Way) : Ok Try.prog 101 [.ptr (trailAV b ways) 0] (.fn (.func 109) [] [.ptr (.ptr (trailAV b ways) 0) 0]) := by
  refine okF fc_walk_trail_names (by simp) ?_
  have h := closed_trail b ways
  unfold c_walk_trail_names
  generalize trailAV b ways = X at h
  simp only [R97, EV, ↓EVd, isCall, Nat.reduceAdd, Nat.reduceSub, Nat.reduceMul, Nat.reduceEqDiff, Nat.reduceBEq, Nat.reduceLT, Nat.reduceLeDiff, ↓reduceIte, reduceCtorEq]
  exact ⟨4, _, by simp [frz, frzs, closed, closeds, h, upd], Sub.refl _⟩

def stepW (bs : List Bool) (w : Way) : List Bool := bs.set (w.ino - 1).toNat true
def stepE (bs : List Bool) (e : Entry) : List Bool := if 1 ≤ e.ino ∧ e.ino ≤ (bs.length : Int) then bs.set (e.ino - 1).toNat true else bs
theorem stepW_len (bs : List Bool) (w : Way) : (stepW bs w).length = bs.length := by simp [stepW]
theorem stepE_len (bs : List Bool) (e : Entry) : (stepE bs e).length = bs.length := by unfold stepE; split <;> simp
theorem foldW_len (ws : List Way) : ∀ bs : List Bool, (ws.foldl stepW bs).length = bs.length := by
  induction ws with
  | nil => intro bs; rfl
  | cons w ws ih => intro bs; rw [List.foldl_cons, ih, stepW_len]
theorem foldE_len (es : List Entry) : ∀ bs : List Bool, (es.foldl stepE bs).length = bs.length := by
  induction es with
  | nil => intro bs; rfl
  | cons w ws ih => intro bs; rw [List.foldl_cons, ih, stepE_len]
/-- What is known where the range begins. -/
def KS (b : Branch) (ways : List Way) (s : AS) : Prop :=
  s.T 3 = .loc 8 1 0 0 ∧ s.T 30 = .fn (.func 109) [] [.ptr (.ptr (trailAV b ways) 0) 0] ∧ s.H 7 = some (.row 4 1 ((ways.foldl stepW (List.replicate b.nodes.length false)).map bool)) ∧ s.H 8 = some (.row 72 1 [.msl 7 b.nodes.length]) ∧ 8 < s.nx
set_option maxHeartbeats 2000000 in
theorem reach_pre (b : Branch) (ways : List Way) (hi : ∀ w ∈ ways, 1 ≤ w.ino ∧ w.ino ≤ (b.nodes.length : Int)) (hN : b.nodes.length ≤ 281474976710656) (hW : ways.length < 4611686018427387904) :
    cw Try.prog 48 (.seq c_reach_0 (.seq c_reach_1 (.seq c_reach_2 c_reach_7))) (fun e s => e = .normal ∧ KS b ways s) ⟨argT [.ptr (trailAV b ways) 0], fun _ => none, 0⟩ := by
  have e2_0 := eq_true (show (0 : Int) ≤ (b.nodes.length : Int) by omega)
  have e2_1 := eq_true (show (b.nodes.length : Int) ≤ (b.nodes.length : Int) by omega)
  have e2_2 := eq_true (show (1 : Int) * (b.nodes.length : Int) ≤ 281474976710656 by omega)
  have e2_3 := eq_true (show (b.nodes.length : Int) ≤ 9223372036854775807 by omega)
  have hTRc := closed_trail b ways
  have hnm := ok_names b ways
  have e3 : List.replicate ((b.nodes.length : Int).toNat) (bool false) = (List.replicate b.nodes.length false).map bool := by simp
  unfold c_reach_0 c_reach_1 c_reach_2 c_reach_7 KS
  unfold trailAV at hTRc hnm ⊢
  simp only [e2_0, e2_1, e2_2, e2_3, e3, Int.toNat_natCast, R3, R4, R24, R26, R49, R52, R72, R96, R97, DBranch, DNode, DWay, EV, ↓EVd, isCall, Nat.reduceAdd, Nat.reduceSub, Nat.reduceMul, Nat.reduceEqDiff, Nat.reduceBEq, Nat.reduceLT, Nat.reduceLeDiff, ↓reduceIte, reduceCtorEq]
  generalize hTR : (AV.agg [sll 13 encNode b.nodes, sll 3 encWay ways, AV.junk, AV.junk]) = TR at hTRc hnm
  refine cwp_iter0 (fun k s => ∃ i : Nat, i ≤ ways.length ∧ k = ways.length - i + 1 ∧ s.T 0 = TR.ptr 0 ∧ s.T 3 = .loc 8 1 0 0 ∧ s.T 17 = sll 3 encWay ways ∧ s.T 18 = int ways.length ∧ s.T 19 = int i ∧
    s.H 7 = some (.row 4 1 (((ways.take i).foldl stepW (List.replicate b.nodes.length false)).map bool)) ∧ s.H 8 = some (.row 72 1 [.msl 7 b.nodes.length]) ∧ 8 < s.nx) (ways.length + 1) ⟨0, by omega, by omega, rfl, rfl, rfl, rfl, rfl, by simp [upd], by simp [upd], by show 8 < 16; omega⟩ ?_ ?_
  · rintro s ⟨i, h1, h2, _⟩; omega
  rintro k ⟨T, H, nx⟩ ⟨i, hi', hk, h0, h3, h17, h18, h19, g7, g8, hnx⟩
  dsimp only at h0 h3 h17 h18 h19 g7 g8 hnx
  have hL : ((ways.take i).foldl stepW (List.replicate b.nodes.length false)).length = b.nodes.length := by rw [foldW_len]; simp
  generalize hbs : (ways.take i).foldl stepW (List.replicate b.nodes.length false) = bs at g7 hL
  have q7 : 7 < nx := by omega
  have kk := And.intro (And.intro (ne2 hnx) (And.intro (ne2' hnx) (lt2 hnx))) (And.intro (ne2 q7) (And.intro (ne2' q7) (lt2 q7)))
  apply cw_cwp
  simp only [h0, h3, h17, h18, h19, g7, g8, kk, Int.toNat_natCast, R3, R4, R24, R26, R49, R52, R72, R96, R97, DBranch, DNode, DWay, EV, ↓EVd, isCall, Nat.reduceAdd, Nat.reduceSub, Nat.reduceMul, Nat.reduceEqDiff, Nat.reduceBEq, Nat.reduceLT, Nat.reduceLeDiff, ↓reduceIte, reduceCtorEq]
  refine ⟨fun hlt => ?_, fun hlt => ?_⟩
  rotate_left
  · have : i = ways.length := by omega
    subst this
    rw [List.take_length] at hbs
    refine S1_ok hnm rfl (by simp [closeds, closed, hTRc]) ?_
    simp only [h0, h3, h17, h18, h19, g7, g8, kk, Int.toNat_natCast, R3, R4, R24, R26, R49, R52, R72, R96, R97, DBranch, DNode, DWay, EV, ↓EVd, isCall, Nat.reduceAdd, Nat.reduceSub, Nat.reduceMul, Nat.reduceEqDiff, Nat.reduceBEq, Nat.reduceLT, Nat.reduceLeDiff, ↓reduceIte, reduceCtorEq]
    rw [hbs]
  have hi2 : i < ways.length := by omega
  obtain ⟨w1, w2⟩ := hi _ (List.getElem_mem hi2)
  have e7 : ((0 : Int) ≤ (i : Int)) = True := eq_true (by omega)
  have e8 : (ways.map encWay)[i]? = some (encWay ways[i]) := by simp [hi2]
  have e9 : wr ((i : Int) + 1) = ((i + 1 : Nat) : Int) := by rw [wr_in (by omega) (by omega)]; omega
  have e10 : wr (ways[i].ino - 1) = ways[i].ino - 1 := wr_in (by omega) (by omega)
  have e11 : ((0 : Int) ≤ ways[i].ino - 1) = True := eq_true (by omega)
  obtain ⟨x0, hx0⟩ : ∃ x0, bs[(ways[i].ino - 1).toNat]? = some x0 := ⟨bs[(ways[i].ino - 1).toNat]'(by omega), List.getElem?_eq_getElem _⟩
  have e13 : (bs.map bool)[(ways[i].ino - 1).toNat]? = some (bool x0) := by rw [List.getElem?_map, hx0]; rfl
  have e12 : (ways[i].ino - 1 < (b.nodes.length : Int)) = True := eq_true (by omega)
  simp only [e7, e8, e9, e10, e11, e12, e13, h0, h3, h17, h18, h19, g7, g8, kk, Int.toNat_natCast, R3, R4, R24, R26, R49, R52, R72, R96, R97, DBranch, DNode, DWay, EV, ↓EVd, isCall, Nat.reduceAdd, Nat.reduceSub, Nat.reduceMul, Nat.reduceEqDiff, Nat.reduceBEq, Nat.reduceLT, Nat.reduceLeDiff, ↓reduceIte, reduceCtorEq]
  exact ⟨i + 1, by omega, by omega, rfl, by rw [List.take_succ_eq_append_getElem hi2, List.foldl_append, hbs]; rfl⟩
end Go.Proofs.Ytnmljicimdhpmaa.AL

