/- A law of the given program is proved: part 41 of 50. -/
import Derived.Test.YtefdlpandfhcgaaGreatDoorChecked
import Derived.Test.YtefdlpandfhcgaaGreatDoorA40
set_option linter.all false
/- (*walk.trail).names: what is handed on, round by round. -/
set_option linter.all false
namespace Go.Proofs.YtefdlpandfhcgaaGreatDoor.AL
open Go Go.Proofs Go.RowKit
def x8b (b : Branch) (ways : List Way) : AV := .agg [(sll 13 xj) b.nodes, (sll 3 encWay) ways, .junk, .junk]
def nodeAt (b : Branch) (ino : Int) : Option Node := if ino < 1 then some (⟨0, 0, 0, 0, [], [], (⟨0, 0, xq, (⟨0, 0, 0⟩ : Origin), 0⟩ : Attr)⟩ : Node)
 else if (b.nodes.length : Int) < ino then some (⟨0, 0, 0, 0, [], [], (⟨0, 0, xq, (⟨0, 0, 0⟩ : Origin), 0⟩ : Attr)⟩ : Node)
 else (ix b.nodes (wr (ino - 1))).bind fun v5 => some v5
theorem x67 (cs : List AV) (hne : cs.isEmpty = false) (h : posz (.agg cs) = true) : posz (((AV.agg cs).ptr 0).ptr 0) = true := by
  simp only [posz] at h
  simp [posz, h, hne, AV.one]
theorem xmu (x : AV) (h : closed x = true) : closed ((x.ptr 0).ptr 0) = true := by simp [closed, h]
theorem xnz (x : AV) (n : Int) (h : closed x = true) : closeds [x.ptr 0, int n] = true := by simp [closed, closeds, h, int]
def Y_node := aI (aI (aI (@R3) (@R24)) (aI (@R26) (@R52))) (aI (aI (@DBranch) (@DOrigin)) (aI (@DAttr) (aI (@DNode) (@DEntry))))
set_option maxHeartbeats 2000000 in
theorem x97 (b : Branch) (ways : List Way) (ino : Int) (r : Node) (hm0 : nodeAt b ino = some r) : Ok Tryz.prog 55 [.ptr (x8b b ways) 0, int ino] (xj r) := by
  unfold nodeAt at hm0
  refine okF x2d (by simp) ?_
  unfold xdd x8b
  by_cases h1 : ino < 1
  · have e2 : (ino < 1) = True := eq_true h1
    rw [if_pos h1] at hm0
    simp only [Option.some.injEq] at hm0
    subst hm0
    simp only [e2, Y_node, R110, EV, ↓EVd, isCall, Nat.reduceAdd, Nat.reduceSub, Nat.reduceMul, Nat.reduceEqDiff, Nat.reduceBEq, Nat.reduceLT, Nat.reduceLeDiff, ↓reduceIte, reduceCtorEq]
    all_goals first | done | rfl | exact xc (by simp only [CLO]) | exact xn (by simp only [CLO]) (Sub.agg (Subs.cons (Sub.refl _) (Subs.cons (Sub.refl _) (Subs.cons (Sub.refl _) (Subs.cons (Sub.refl _) (Subs.cons (Sub.nilS _) (Subs.cons (Sub.nilS _) (Subs.cons (Sub.refl _) (Subs.cons (Sub.refl _) (Subs.cons (Sub.refl _) (Subs.cons (Sub.refl _) (Subs.cons (Sub.refl _) (Subs.cons (Sub.refl _) (Subs.cons (Sub.refl _) (Subs.nil)))))))))))))))
  · have e2 : (ino < 1) = False := eq_false h1
    rw [if_neg h1] at hm0
    by_cases h3 : (b.nodes.length : Int) < ino
    · have e4 : ((b.nodes.length : Int) < ino) = True := eq_true h3
      rw [if_pos h3] at hm0
      simp only [Option.some.injEq] at hm0
      subst hm0
      simp only [e2, e4, Y_node, R110, EV, ↓EVd, isCall, Nat.reduceAdd, Nat.reduceSub, Nat.reduceMul, Nat.reduceEqDiff, Nat.reduceBEq, Nat.reduceLT, Nat.reduceLeDiff, ↓reduceIte, reduceCtorEq]
      all_goals first | done | rfl | exact xc (by simp only [CLO]) | exact xn (by simp only [CLO]) (Sub.agg (Subs.cons (Sub.refl _) (Subs.cons (Sub.refl _) (Subs.cons (Sub.refl _) (Subs.cons (Sub.refl _) (Subs.cons (Sub.nilS _) (Subs.cons (Sub.nilS _) (Subs.cons (Sub.refl _) (Subs.cons (Sub.refl _) (Subs.cons (Sub.refl _) (Subs.cons (Sub.refl _) (Subs.cons (Sub.refl _) (Subs.cons (Sub.refl _) (Subs.cons (Sub.refl _) (Subs.nil)))))))))))))))
    · have e4 : ((b.nodes.length : Int) < ino) = False := eq_false h3
      rw [if_neg h3] at hm0
      obtain ⟨v5, h5, hm0⟩ := Option.bind_eq_some_iff.1 hm0
      simp only [Option.some.injEq] at hm0
      subst hm0
      have i1 := ix_enc xj h5
      have i2 := xyu h5
      simp only [e2, e4, i1, i2, Y_node, R110, EV, ↓EVd, isCall, Nat.reduceAdd, Nat.reduceSub, Nat.reduceMul, Nat.reduceEqDiff, Nat.reduceBEq, Nat.reduceLT, Nat.reduceLeDiff, ↓reduceIte, reduceCtorEq]
      all_goals exact xc (by simp only [CLO])
section
variable {P : Program} {n : Nat} {σ : Type} {live : σ → Bool} {JJ : σ → World → Prop} {Zx : σ → Nat → Prop} {Q : Exit → AS → σ → Prop} {s : AS} {y : σ}
theorem cY_cw {x : AC} (hy : live y = true) (h : cw P n x (fun e s' => Q e s' y) s) : cY live JJ Zx P n x Q s y := cY_of hy (cw_cwp x h) fun _ _ h => h
theorem xc5 {id : Nat} (hy : live y = true) (h : Q .normal s y) : cY live JJ Zx P n (.label id) Q s y := cY_of hy (xgj (Q := fun e s' => Q e s' y) h) fun _ _ h => h
theorem yQ_n (next : AS → σ → Prop) : yQ next Q .normal s y = next s y := _root_.id rfl
end
def entsN (nd : Way → Node) (ways : List Way) (i : Nat) : List Entry := (ways.take i).flatMap fun w => (nd w).entries
theorem x9r (nd : Way → Node) (ways : List Way) (i : Nat) (h : i < ways.length) : entsN nd ways (i + 1) = entsN nd ways i ++ (nd ways[i]).entries := by
  unfold entsN
  rw [List.take_succ_eq_append_getElem h, List.flatMap_append, List.flatMap_cons, List.flatMap_nil, List.append_nil]
theorem xi6 (nd : Way → Node) (ways : List Way) (i j : Nat) (h : i < ways.length) (hj : j < (nd ways[i]).entries.length) : (entsN nd ways i ++ (nd ways[i]).entries.take j).length < (entsN nd ways ways.length).length := by
  have h1 : (entsN nd ways (i + 1)).length ≤ (entsN nd ways ways.length).length := by
    unfold entsN
    rw [List.take_length]
    conv => rhs; rw [← List.take_append_drop (i + 1) ways]
    rw [List.flatMap_append, List.length_append]
    omega
  rw [x9r _ _ _ h] at h1
  simp at h1 ⊢
  omega
def entV (e : Entry) : Value := .agg #[.int .i64 e.slot, .int .i64 e.ino, .string e.name]
theorem xhz {E : Env} {v : Value} {e : Entry} (h : VRep E (xd e) v) : v = entV e := by
  simp only [xd, int, str, VRep, VReps] at h
  obtain ⟨us, ⟨u1, us1, rfl, ⟨u2, us2, rfl, ⟨u3, us3, rfl, rfl, rfl⟩, rfl⟩, rfl⟩, rfl⟩ := h
  rfl
theorem xgu {α : Type} (f : α → AV) (h : ∀ x, posz (f x) = true) : ∀ l : List α, poszs (l.map f) = true
  | [] => rfl
  | x :: l => by simp only [List.map_cons, poszs, h x, xgu f h l, Bool.and_self]
theorem xqr (e : Entry) : posz (xd e) = true := rfl
theorem xjw (e : Way) : posz (encWay e) = true := rfl
theorem x4h {α : Type} (k : Nat) (f : α → AV) (hk : 0 < k) (h : ∀ x, posz (f x) = true) (l : List α) : posz (sll k f l) = true := by
  simp only [sll, posz, xgu f h l, Bool.and_true, decide_eq_true_eq]; exact hk
theorem posz_D (l : List UInt8) : posz (encD l) = true := by
  simp only [encD]
  exact x4h 1 _ (by omega) (fun _ => rfl) l
theorem xt1 (x : Node) : posz (xj x) = true := by
  have h1 := posz_D x.data
  have h2 := x4h 3 xd (by omega) xqr x.entries
  simp only [xj]
  generalize encD x.data = X at h1
  generalize sll 3 xd x.entries = Y at h2
  simp [posz, poszs, h1, h2, int, str]
theorem xwz (b : Branch) (ways : List Way) : posz (x8b b ways) = true := by
  have h1 := x4h 13 xj (by omega) xt1 b.nodes
  have h2 := x4h 3 encWay (by omega) xjw ways
  simp only [x8b]
  generalize sll 13 xj b.nodes = X at h1
  generalize sll 3 encWay ways = Y at h2
  simp [posz, poszs, h1, h2]
theorem xei (b : Branch) (ways : List Way) : closed (x8b b ways) = true := by
  simp only [x8b, sll, closed, closeds, xze, cM_Way, Bool.and_self]
section
variable {JJ : Bool × List Entry → World → Prop} {Zx : Bool × List Entry → Nat → Prop} {b : Branch} {ways : List Way} {nd : Way → Node} {l m : Nat}
set_option maxHeartbeats 2000000 in
theorem xl0 (hab : ∀ y W W', JJ y W → W.grownBy W' none → JJ y W') (hZ : ∀ ys zs, Zx (true, ys) = Zx (true, zs)) (hGW : ∀ ys W, JJ (true, ys) W → GW W)
    (hn : ∀ w ∈ ways, nodeAt b w.ino = some (nd w)) (hb1 : ways.length < 4611686018427387904) (hb2 : ∀ w ∈ ways, (nd w).entries.length < 4611686018427387904)
    (hY : ∀ pre e W, JJ (true, pre) W → pre.length < (entsN nd ways ways.length).length → YieldAt Fence.wide m Tryz.prog l #[entV e] W fun r W' =>
      (r = .returned (.bool true) ∧ JJ (true, pre ++ [e]) W' ∧ W.heap.size ≤ W'.heap.size ∧ ∀ b o, ¬ Zx (true, pre) b → W.heap[b]? = some o → o.isCells = true → W'.heap[b]? = some o) ∨ (r = .returned (.bool false) ∧ JJ (false, pre ++ [e]) W')) :
    cY Prod.fst JJ Zx Tryz.prog 32 x3f (fun e s y => e = .normal ∧ (y = (true, entsN nd ways ways.length) ∨ ∃ pre, y = (false, pre))) ⟨argT [.fn (.yield l) [] [], .ptr (.ptr (x8b b ways) 0) 0], fun _ => none, 0⟩ (true, []) := by
  unfold x3f
  refine xp5 (cY_seq (xc5 rfl ?_))
  refine cY_seq (cY_cw rfl ?_)
  unfold x8b
  simp only [yQ_n, R110, R89, R82, R85, R3, DWay, EV, ↓EVd, isCall, Nat.reduceAdd, Nat.reduceSub, Nat.reduceMul, Nat.reduceEqDiff, Nat.reduceBEq, Nat.reduceLT, Nat.reduceLeDiff, ↓reduceIte, reduceCtorEq]
  have TRp := x67 _ rfl (xwz b ways)
  have TRc1 := xei b ways
  have TRc := xmu _ TRc1
  have hnode : ∀ w ∈ ways, Ok Tryz.prog 55 [.ptr (x8b b ways) 0, int w.ino] (xj (nd w)) := fun w hw => x97 b ways _ _ (hn w hw)
  unfold x8b at TRp TRc1 TRc hnode
  generalize hTR : (AV.agg [sll 13 xj b.nodes, sll 3 encWay ways, AV.junk, AV.junk]) = TR at TRp TRc TRc1 hnode
  refine xsm (x5y (fun k s y => ∃ i : Nat, i ≤ ways.length ∧ k = ways.length - i + 1 ∧ y = (true, entsN nd ways i) ∧ s.T 0 = .fn (.yield l) [] [] ∧ s.T 1 = (TR.ptr 0).ptr 0 ∧ s.T 10 = sll 3 encWay ways ∧ s.T 11 = int ways.length ∧ s.T 12 = int i) (ways.length + 1) ⟨0, by omega, by omega, rfl, rfl, rfl, rfl, rfl, rfl⟩ ?_ ?_)
  · rintro s y ⟨i, h1, h2, _⟩; omega
  rintro k ⟨T, H, nx⟩ y ⟨i, hi, hk, rfl, h0, h1, h10, h11, h12⟩
  dsimp only at h0 h1 h10 h11 h12
  refine cY_seq (cY_cw rfl ?_)
  simp only [yQ_n, h0, h1, h10, h11, h12, R3, EV, ↓EVd, isCall, Nat.reduceAdd, Nat.reduceSub, Nat.reduceMul, Nat.reduceEqDiff, Nat.reduceBEq, Nat.reduceLT, Nat.reduceLeDiff, ↓reduceIte, reduceCtorEq]
  refine ⟨fun hlt => ?_, fun hlt => ?_⟩
  rotate_left
  · refine cY_seq (x2j (b := false) rfl ?_)
    rw [if_neg (by simp)]
    refine xot ?_
    have : i = ways.length := by omega
    subst this
    exact ⟨rfl, .inl rfl⟩
  have hi' : i < ways.length := by omega
  refine cY_seq (x2j (b := true) rfl ?_)
  rw [if_pos rfl]
  refine x8s ?_
  refine cY_seq (xsm (cY_seq (cY_cw rfl ?_)))
  have e7 : ((0 : Int) ≤ (i : Int)) = True := eq_true (by omega)
  have e8 : (ways.map encWay)[(i : Int).toNat]? = some (encWay ways[i]) := by simp [hi']
  simp only [yQ_n, h0, h1, h10, h11, h12, e7, e8, R3, R82, R85, DWay, EV, ↓EVd, isCall, Nat.reduceAdd, Nat.reduceSub, Nat.reduceMul, Nat.reduceEqDiff, Nat.reduceBEq, Nat.reduceLT, Nat.reduceLeDiff, ↓reduceIte, reduceCtorEq]
  refine cY_seq (cY_cw rfl ?_)
  simp only [yQ_n, h0, h1, h10, h11, h12, R3, R89, R85, DWay, EV, ↓EVd, isCall, Nat.reduceAdd, Nat.reduceSub, Nat.reduceMul, Nat.reduceEqDiff, Nat.reduceBEq, Nat.reduceLT, Nat.reduceLeDiff, ↓reduceIte, reduceCtorEq]
  refine S1_ok (hnode _ (List.getElem_mem hi')) rfl (xnz _ _ TRc1) ?_
  simp only [yQ_n, h0, h1, h10, h11, h12, R3, R52, R45, DNode, DEntry, EV, ↓EVd, isCall, Nat.reduceAdd, Nat.reduceSub, Nat.reduceMul, Nat.reduceEqDiff, Nat.reduceBEq, Nat.reduceLT, Nat.reduceLeDiff, ↓reduceIte, reduceCtorEq]
  have hbe := hb2 _ (List.getElem_mem hi')
  have hel := xi6 nd ways i
  have hsu := x9r nd ways i hi'
  generalize hes : (nd ways[i]).entries = es at hbe hel hsu
  refine xsm (x5y (fun k s y => ∃ j : Nat, j ≤ es.length ∧ k = es.length - j + 1 ∧ y = (true, entsN nd ways i ++ es.take j) ∧ s.T 0 = .fn (.yield l) [] [] ∧ s.T 1 = (TR.ptr 0).ptr 0 ∧ s.T 10 = sll 3 encWay ways ∧ s.T 11 = int ways.length ∧ s.T 12 = int i ∧ s.T 20 = sll 3 xd es ∧ s.T 21 = int es.length ∧ s.T 22 = int j) (es.length + 1) ⟨0, by omega, by omega, by simp, h0, h1, h10, h11, h12, by rw [← hes]; rfl, by rw [← hes]; rfl, rfl⟩ ?_ ?_)
  · rintro s y ⟨j, h1, h2, _⟩; omega
  clear h0 h1 h10 h11 h12
  rintro k2 ⟨T2, H2, nx2⟩ y ⟨j, hj, hk2, rfl, h0, h1, h10, h11, h12, h20, h21, h22⟩
  dsimp only at h0 h1 h10 h11 h12 h20 h21 h22
  refine cY_seq (cY_cw rfl ?_)
  simp only [yQ_n, h0, h1, h10, h11, h12, h20, h21, h22, R3, EV, ↓EVd, isCall, Nat.reduceAdd, Nat.reduceSub, Nat.reduceMul, Nat.reduceEqDiff, Nat.reduceBEq, Nat.reduceLT, Nat.reduceLeDiff, ↓reduceIte, reduceCtorEq]
  refine ⟨fun hlt2 => ?_, fun hlt2 => ?_⟩
  rotate_left
  · refine cY_seq (x2j (b := false) rfl ?_)
    rw [if_neg (by simp)]
    refine xot ?_
    have : j = es.length := by omega
    subst this
    show cY _ _ _ _ _ _ _ _ _
    refine cY_cw rfl ?_
    have e9 : wr ((i : Int) + 1) = ((i + 1 : Nat) : Int) := by rw [wr_in (by omega) (by omega)]; omega
    simp only [yQ_n, h0, h1, h10, h11, h12, e9, R3, EV, ↓EVd, isCall, Nat.reduceAdd, Nat.reduceSub, Nat.reduceMul, Nat.reduceEqDiff, Nat.reduceBEq, Nat.reduceLT, Nat.reduceLeDiff, ↓reduceIte, reduceCtorEq]
    exact ⟨i + 1, by omega, by omega, by rw [hsu, List.take_length], rfl⟩
  have hj' : j < es.length := by omega
  refine cY_seq (x2j (b := true) rfl ?_)
  rw [if_pos rfl]
  refine x8s ?_
  refine cY_seq (xsm (cY_seq (cY_cw rfl ?_)))
  have e7 : ((0 : Int) ≤ (j : Int)) = True := eq_true (by omega)
  have e8 : (es.map xd)[(j : Int).toNat]? = some (xd es[j]) := by simp [hj']
  simp only [yQ_n, h0, h1, h10, h11, h12, h20, h21, h22, e7, e8, R3, R45, R31, DEntry, EV, ↓EVd, isCall, Nat.reduceAdd, Nat.reduceSub, Nat.reduceMul, Nat.reduceEqDiff, Nat.reduceBEq, Nat.reduceLT, Nat.reduceLeDiff, ↓reduceIte, reduceCtorEq]
  refine cY_seq ?_
  refine xk4 (T := 31) (Tb := 4) (tx := 6) (d1 := 26) (d2 := 27) (d3 := 28) (d4 := 29) (l := l) (m := m) (u := entV es[j]) (x := xd es[j]) (yT := (true, entsN nd ways i ++ es.take j ++ [es[j]])) (yF := (false, entsN nd ways i ++ es.take j ++ [es[j]])) rfl rfl rfl (fun W h => hGW _ W h) hab h0 (by omega) (by omega) ?_ (fun E v h => xhz h) ?_ (fun b h => by rw [hZ _ (entsN nd ways i ++ es.take j)] at h; exact h) ?_ ?_
  · simp only [h0, h1, h10, h11, h12, h20, h21, h22, e7, e8, R3, R45, R31, DEntry, EV, ↓EVd, isCall, Nat.reduceAdd, Nat.reduceSub, Nat.reduceMul, Nat.reduceEqDiff, Nat.reduceBEq, Nat.reduceLT, Nat.reduceLeDiff, ↓reduceIte, reduceCtorEq]
  · intro W hJ
    exact hY _ _ W hJ (by subst hes; exact hel j hi' hj')
  · show cY _ _ _ _ _ _ _ _ _
    refine x2j (b := false) rfl ?_
    rw [if_neg (by simp)]
    refine x8s ?_
    show cY _ _ _ _ _ _ _ _ _
    refine cY_cw rfl ?_
    generalize hK : keepT _ = K
    have k0 : K 0 = .fn (.yield l) [] [] := by rw [← hK]; exact xzg h0 rfl rfl
    have k1 : K 1 = (TR.ptr 0).ptr 0 := by rw [← hK]; exact xzg h1 TRc TRp
    have k10 : K 10 = sll 3 encWay ways := by rw [← hK]; exact xzg h10 (by simp only [sll, closed, cM_Way]) (x4h 3 encWay (by omega) xjw ways)
    have k11 : K 11 = int ways.length := by rw [← hK]; exact xzg h11 rfl rfl
    have k12 : K 12 = int i := by rw [← hK]; exact xzg h12 rfl rfl
    have k20 : K 20 = sll 3 xd es := by rw [← hK]; exact xzg h20 (by simp only [sll, closed, x1c]) (x4h 3 xd (by omega) xqr es)
    have k21 : K 21 = int es.length := by rw [← hK]; exact xzg h21 rfl rfl
    have k22 : K 22 = int j := by rw [← hK]; exact xzg h22 rfl rfl
    have e9 : wr ((j : Int) + 1) = ((j + 1 : Nat) : Int) := by rw [wr_in (by omega) (by omega)]; omega
    simp only [yQ_n, k0, k1, k10, k11, k12, k20, k21, k22, e9, R3, EV, ↓EVd, isCall, Nat.reduceAdd, Nat.reduceSub, Nat.reduceMul, Nat.reduceEqDiff, Nat.reduceBEq, Nat.reduceLT, Nat.reduceLeDiff, ↓reduceIte, reduceCtorEq]
    exact ⟨j + 1, by omega, by omega, by rw [List.take_succ_eq_append_getElem hj', List.append_assoc], rfl⟩
  · show cY _ _ _ _ _ _ _ _ _
    refine x2j (b := true) rfl ?_
    rw [if_pos rfl]
    refine xot ?_
    exact ⟨rfl, .inr ⟨_, rfl⟩⟩
end
theorem xzx {P : Program} {fn : Func} (h : fn.results.toList = []) (tmps : Array Value) (w : World) : (results fn tmps).run P w = .ok (.tuple #[]) w := by
  simp only [results, Array.mapM_eq_mapM_toList, h]
  rfl
theorem xg5 {w w' : World} (h : GW w) (hg : w.grownBy w' none) : GW w' := GW.keep h hg.size fun b o hb ho _ => (hg.block b (Array.getElem?_eq_some_iff.1 ho).1 (by simp)).trans ho
def KpX (X : Nat → Prop) (A B : World) : Prop := A.heap.size ≤ B.heap.size ∧ ∀ b o, ¬ X b → A.heap[b]? = some o → o.isCells = true → B.heap[b]? = some o
theorem xps {E : Env} {args : List AV} {vals : List Value} (hv : VReps E args vals) (k : Nat) : ∀ t, VRep E (argT args t) ((vals.toArray ++ Array.replicate k undef).getD t undef) := by
  have hl := hv.length
  intro t
  simp only [argT]
  by_cases ht : t < args.length
  · rw [List.getElem?_eq_getElem ht]
    obtain ⟨u, h1, h2⟩ := hv.get t _ (List.getElem?_eq_getElem ht)
    have : (vals.toArray ++ Array.replicate k undef).getD t undef = u := by
      have hlt : t < vals.length := by omega
      simp only [Array.getD_eq_getD_getElem?, Array.getElem?_append, List.size_toArray, if_pos hlt, List.getElem?_toArray, h1, Option.getD_some]
    rw [this]
    exact h2
  · rw [List.getElem?_eq_none (by omega)]
    have : (vals.toArray ++ Array.replicate k undef).getD t undef = undef := by
      simp only [Array.getD_eq_getD_getElem?, Array.getElem?_append]
      rw [if_neg (by simp; omega)]
      simp only [Array.getElem?_replicate]
      split <;> rfl
    rw [this]
    exact xfj E
theorem xsy {n : Nat} {b : Branch} {ways : List Way} {nd : Way → Node} {X Z : Nat → Prop} {w : World} {v : Value}
    (hn : ∀ w ∈ ways, nodeAt b w.ino = some (nd w)) (hb1 : ways.length < 4611686018427387904) (hb2 : ∀ w ∈ ways, (nd w).entries.length < 4611686018427387904)
    (hv : VRep (Ec Z w) (.ptr (.ptr (x8b b ways) 0) 0) v) (hZ : ∀ b, Z b → b < w.heap.size) (hX : ∀ b, Z b → ¬ X b) (hXw : ∀ b, X b → b < w.heap.size) (hXg : ∀ b, X b → gN ≤ b) (hgw : GW w) :
    SeqStopsK Fence.wide n Tryz.prog 65 #[v] (fun e : Entry => #[entV e]) (KpX X) (fun ys => ys = entsN nd ways ways.length) (fun _ => True) (entsN nd ways ways.length).length w := by
  intro l J Jx W hW hJ hJx hY h0
  let JJ : Bool × List Entry → World → Prop := fun y W => if y.1 = true then J y.2 W ∧ GW W else Jx y.2 W
  let Zx : Bool × List Entry → Nat → Prop := fun y b => y.1 = true ∧ X b
  have hwalk := xl0 (JJ := JJ) (Zx := Zx) (b := b) (ways := ways) (nd := nd) (l := l) (m := n - 1) ?_ ?_ ?_ hn hb1 hb2 ?_
  rotate_left
  · rintro ⟨t, ys⟩ W1 W2 h hg
    cases t with
    | true => exact ⟨hJ ys W1 W2 none h.1 hg (fun r e => by cases e), xg5 h.2 hg⟩
    | false => exact hJx ys W1 W2 none h hg (fun r e => by cases e)
  · intro ys zs; rfl
  · intro ys W1 h; exact h.2
  · intro pre e W1 hj hlt
    obtain ⟨fn, tm, asg, bo, g1, g2⟩ := hY pre e W1 hj.1 hlt
    refine ⟨fn, tm, asg, bo, g1, g2.mono ?_⟩
    rintro r W' (⟨rfl, k1, k2, k3⟩ | ⟨rfl, k1⟩)
    · exact .inl ⟨rfl, ⟨k1, GW.keep hj.2 k2 fun b o hb ho hc => k3 b o (fun hx => absurd (hXg b hx) (by omega)) ho hc⟩, k2, fun b o hb => k3 b o fun hx => hb ⟨rfl, hx⟩⟩
    · exact .inr ⟨rfl, k1⟩
  refine callsIn_wide.2 ?_
  obtain ⟨fn, c, h1, h2, h3, h4, h5⟩ := x6l.code
  refine calls_of_wp h1 h2 ?_
  have hsame : ∀ b, Z b → W.heap[b]? = w.heap[b]? := fun b hb => hW.block b (hZ b hb)
  have hv' : VRep (Ec Z W) (.ptr (.ptr (x8b b ways) 0) 0) v := VRep.stab (E := Ec Z w) (E' := Ec Z W) ⟨fun _ h => h, fun _ h => h.elim, fun b hb => ⟨hb, hsame b hb⟩⟩ _ _ hv
  have hargs : VReps (Ec Z W) [.fn (.yield l) [] [], .ptr (.ptr (x8b b ways) 0) 0] [.func (.yield l) #[] #[], v] := by
    simp only [VReps]
    exact ⟨_, _, VRep.fn_mk (va := #[]) (vb := #[]) .nil .nil, ⟨_, _, hv', rfl, rfl⟩, rfl⟩
  have hGW0 : GW W := hgw.mono hW hgw.size
  have hSY : SY Prod.fst JJ Zx 32 ⟨argT [.fn (.yield l) [] [], .ptr (.ptr (x8b b ways) 0) 0], fun _ => none, 0⟩ (true, []) { tmps := (#[Value.func (.yield l) #[] #[]] ++ #[v]) ++ Array.replicate (fn.ntmps - (#[Value.func (.yield l) #[] #[]] ++ #[v]).size) undef, defers := [] } W := by
    refine SYl_SY rfl ⟨{ base := W.heap.size, w0 := W, zone := Z, gw := hGW0, gb := hGW0.size }, Ec Z W, 0, Ec Z W, ?_, rfl, Nat.le_refl _, ?_, rfl, fun b hb hx => hX b hb hx.2, fun b hx => Nat.lt_of_lt_of_le (hXw b hx.2) hW.size⟩
    · exact ⟨h0, hGW0⟩
    · refine ⟨⟨Below.refl _ _, Nat.le_refl _, fun b hb => Nat.lt_of_lt_of_le (hZ b hb) hW.size, fun b _ l c e => by simp [Ec] at e, fun b hb => .inl hb, fun l => rfl, fun l x e => by simp [Ec] at e, fun l l' b c c' e => by simp [Ec] at e, fun l o p e => by simp at e, fun l b c e => by simp [Ec] at e⟩, Stab.refl _, fun l k => k.elim, fun l k => .inl k, by simp [h3], rfl, ?_⟩
      exact xps hargs _
  refine wp_mono (hwalk c h5 _ _ hSY) ?_
  rintro e a' w' ⟨s', y', ⟨rfl, hq⟩, hSY'⟩
  rcases hq with rfl | ⟨pre, rfl⟩
  · obtain ⟨C, E0, k0, E, q1, q2, q3, q4, rfl, q5⟩ := xst (y := (true, entsN nd ways ways.length)) rfl hSY'
    have hg := xnq q4.heap.below q2
    obtain ⟨v0, hv1, hv2⟩ := x4m (P := Tryz.prog) (fn := fn) (s := s') (rs := []) q4.heap q4.tmps (by rw [h4]; rfl)
    refine ⟨q4.defers, v0, hv1, ⟨v0, rfl⟩, ?_⟩
    exact .inl ⟨_, rfl, hJ _ _ _ none q1.1 hg (fun r e => by cases e)⟩
  · have hd : SYd JJ 32 s' (false, pre) a' w' := by
      unfold SY at hSY'
      rwa [if_neg (by simp)] at hSY'
    obtain ⟨q1, q2, q3, q4⟩ := hd
    have hv1 : _ := xzx (P := Tryz.prog) (fn := fn) (by rw [h4]) a'.tmps w'
    refine ⟨q3, _, hv1, ⟨_, rfl⟩, ?_⟩
    exact .inr ⟨pre, trivial, q1⟩
end Go.Proofs.YtefdlpandfhcgaaGreatDoor.AL

/- (*walk.trail).reach: its pieces; written by reachgen.py. -/
set_option linter.all false
set_option maxRecDepth 100000
namespace Go.Proofs.YtefdlpandfhcgaaGreatDoor.AL
open Go Go.Proofs
def xgp : AC := (.region [zo (.assign (.const (Value.slice none 0 0))) 2])
def xro : AC := (.region [zo (.move (zt 0)) 7, zo (.nilCheck (zt 7)) 8, zo (.fieldAddr 110 (zt 8) 0) 9, zo (.fieldAddr 26 (zt 9) 0) 10, zo (.load 24 (zt 10)) 11, zo (.call (zc (.builtin .len) #[zt 11] #[24])) 12, zo (.makeSlice 53 (zt 12) (zt 12)) 13, zo (.alloc 53) 3, ⟨.store 53 (zt 3) (zt 13), none, none⟩])
def x5o : AC := (.seq (.region [zo (.move (zt 0)) 14, zo (.nilCheck (zt 14)) 15, zo (.fieldAddr 110 (zt 15) 1) 16, zo (.load 82 (zt 16)) 17, zo (.call (zc (.builtin .len) #[zt 17] #[82])) 18, zo (.move (zi (0))) 19]) (.block 0 (.loop (.seq (.region [zo (.binOp .lss 3 (zt 19) (zt 18) 3) 20]) (.seq (.cond (zt 20) .skip (.exit 0)) (.seq (.block 1 (.seq (.region [zo (.indexAddr 82 (zt 17) (zt 19)) 21, zo (.load 85 (zt 21)) 22, zo (.alloc 85) 5, ⟨.store 85 (zt 5) (zt 22), none, none⟩]) (.region [zo (.load 53 (zt 3)) 23, zo (.fieldAddr 85 (zt 5) 0) 24, zo (.load 3 (zt 24)) 25, zo (.binOp .sub 3 (zt 25) (zi (1)) 3) 26, zo (.indexAddr 53 (zt 23) (zt 26)) 27, ⟨.store 4 (zt 27) (.const (Value.bool true)), none, none⟩]))) (.region [zo (.binOp .add 3 (zt 19) (zi (1)) 3) 28, zo (.move (zt 28)) 19])))))))
def xjp : AC := (.region [zo (.move (zt 0)) 29, zo (.call (zc (.value (.func 58)) #[zt 29] #[89])) 30])
def x8i : AC := (.region [zo (.alloc 31) 6, ⟨.store 31 (zt 6) (zt 31), none, none⟩])
def xfi : AC := (.block 3 (.seq (.region [zo (.fieldAddr 31 (zt 6) 1) 32, zo (.load 3 (zt 32)) 33, zo (.binOp .geq 3 (zt 33) (zi (1)) 3) 34, zo (.move (zt 34)) 35, ⟨.fieldAddr 31 (zt 6) 1, some 36, (some (35, true))⟩, ⟨.load 3 (zt 36), some 37, (some (35, true))⟩, ⟨.load 53 (zt 3), some 38, (some (35, true))⟩, ⟨.call (zc (.builtin .len) #[zt 38] #[53]), some 39, (some (35, true))⟩, ⟨.binOp .leq 3 (zt 37) (zt 39) 3, some 40, (some (35, true))⟩, zo (.pick (zt 35) (zt 40) (.const (Value.bool false))) 41]) (.cond (zt 41) (.region [zo (.load 53 (zt 3)) 42, zo (.fieldAddr 31 (zt 6) 1) 43, zo (.load 3 (zt 43)) 44, zo (.binOp .sub 3 (zt 44) (zi (1)) 3) 45, zo (.indexAddr 53 (zt 42) (zt 45)) 46, ⟨.store 4 (zt 46) (.const (Value.bool true)), none, none⟩]) .skip)))
def xmi : AC := (.seq (.region [zo (.load 53 (zt 3)) 47, zo (.assign (zt 47)) 2]) .ret)
theorem xe5 : ∃ (fn : Func) (c0 c1 c2 c7 asg bd ct : Code), Tryz.prog.funcs[46]? = some fn ∧ fn.body = some (.seq c0 (.seq c1 (.seq c2 (.seq (.seq c7 (.block 2 (.rangeFunc (.tmp 30) #[31] asg bd))) ct)))) ∧ fn.ntmps = 48 ∧ fn.results.toList = [.tmp 2] ∧ callable Tryz.prog 46 = true ∧ comp 48 c0 = some xgp ∧ comp 48 c1 = some xro ∧ comp 48 c2 = some x5o ∧ comp 48 c7 = some xjp ∧ comp 48 asg = some x8i ∧ comp 48 bd = some xfi ∧ comp 48 ct = some xmi :=
  ⟨Tryz.f46, _, _, _, _, _, _, _, Tryz.func46, rfl, rfl, rfl, by kernel_rfl, by kernel_rfl, by kernel_rfl, by kernel_rfl, by kernel_rfl, by kernel_rfl, by kernel_rfl, by kernel_rfl⟩
end Go.Proofs.YtefdlpandfhcgaaGreatDoor.AL

/- (*walk.trail).reach: the walk ahead of the range over a function. -/
set_option linter.all false
namespace Go.Proofs.YtefdlpandfhcgaaGreatDoor.AL
open Go Go.Proofs Go.RowKit
theorem xn5 (b : Branch) (ways : List Way) : Ok Tryz.prog 58 [.ptr (x8b b ways) 0] (.fn (.func 65) [] [.ptr (.ptr (x8b b ways) 0) 0]) := by
  refine okF xpn (by simp) ?_
  have h := xei b ways
  unfold xlj
  generalize x8b b ways = X at h
  simp only [R89, EV, ↓EVd, isCall, Nat.reduceAdd, Nat.reduceSub, Nat.reduceMul, Nat.reduceEqDiff, Nat.reduceBEq, Nat.reduceLT, Nat.reduceLeDiff, ↓reduceIte, reduceCtorEq]
  exact ⟨4, _, by simp [frz, frzs, closed, closeds, h, upd], Sub.refl _⟩
def stepW (bs : List Bool) (w : Way) : List Bool := bs.set (w.ino - 1).toNat true
def stepE (bs : List Bool) (e : Entry) : List Bool := if 1 ≤ e.ino ∧ e.ino ≤ (bs.length : Int) then bs.set (e.ino - 1).toNat true else bs
theorem xcl (bs : List Bool) (w : Way) : (stepW bs w).length = bs.length := by simp [stepW]
theorem xfu (bs : List Bool) (e : Entry) : (stepE bs e).length = bs.length := by unfold stepE; split <;> simp
theorem xtu (ws : List Way) : ∀ bs : List Bool, (ws.foldl stepW bs).length = bs.length := by
  induction ws with
  | nil => intro bs; rfl
  | cons w ws ih => intro bs; rw [List.foldl_cons, ih, xcl]
theorem x9k (es : List Entry) : ∀ bs : List Bool, (es.foldl stepE bs).length = bs.length := by
  induction es with
  | nil => intro bs; rfl
  | cons w ws ih => intro bs; rw [List.foldl_cons, ih, xfu]
def KS (b : Branch) (ways : List Way) (s : AS) : Prop :=
  s.T 3 = .loc 8 1 0 0 ∧ s.T 30 = .fn (.func 65) [] [.ptr (.ptr (x8b b ways) 0) 0] ∧ s.H 7 = some (.row 4 1 ((ways.foldl stepW (List.replicate b.nodes.length false)).map bool)) ∧ s.H 8 = some (.row 53 1 [.msl 7 b.nodes.length]) ∧ 8 < s.nx
set_option maxHeartbeats 2000000 in
theorem xo3 (b : Branch) (ways : List Way) (hi : ∀ w ∈ ways, 1 ≤ w.ino ∧ w.ino ≤ (b.nodes.length : Int)) (hN : b.nodes.length ≤ 281474976710656) (hW : ways.length < 4611686018427387904) :
    cw Tryz.prog 48 (.seq xgp (.seq xro (.seq x5o xjp))) (fun e s => e = .normal ∧ KS b ways s) ⟨argT [.ptr (x8b b ways) 0], fun _ => none, 0⟩ := by
  have e2_0 := eq_true (show (0 : Int) ≤ (b.nodes.length : Int) by omega)
  have e2_1 := eq_true (show (b.nodes.length : Int) ≤ (b.nodes.length : Int) by omega)
  have e2_2 := eq_true (show (1 : Int) * (b.nodes.length : Int) ≤ 281474976710656 by omega)
  have e2_3 := eq_true (show (b.nodes.length : Int) ≤ 9223372036854775807 by omega)
  have hTRc := xei b ways
  have hnm := xn5 b ways
  have e3 : List.replicate ((b.nodes.length : Int).toNat) (bool false) = (List.replicate b.nodes.length false).map bool := by simp
  unfold xgp xro x5o xjp KS
  unfold x8b at hTRc hnm ⊢
  simp only [e2_0, e2_1, e2_2, e2_3, e3, Int.toNat_natCast, R3, R4, R24, R26, R82, R85, R53, R110, R89, DBranch, DNode, DWay, EV, ↓EVd, isCall, Nat.reduceAdd, Nat.reduceSub, Nat.reduceMul, Nat.reduceEqDiff, Nat.reduceBEq, Nat.reduceLT, Nat.reduceLeDiff, ↓reduceIte, reduceCtorEq]
  generalize hTR : (AV.agg [sll 13 xj b.nodes, sll 3 encWay ways, AV.junk, AV.junk]) = TR at hTRc hnm
  refine x6o (fun k s => ∃ i : Nat, i ≤ ways.length ∧ k = ways.length - i + 1 ∧ s.T 0 = TR.ptr 0 ∧ s.T 3 = .loc 8 1 0 0 ∧ s.T 17 = sll 3 encWay ways ∧ s.T 18 = int ways.length ∧ s.T 19 = int i ∧
    s.H 7 = some (.row 4 1 (((ways.take i).foldl stepW (List.replicate b.nodes.length false)).map bool)) ∧ s.H 8 = some (.row 53 1 [.msl 7 b.nodes.length]) ∧ 8 < s.nx) (ways.length + 1) ⟨0, by omega, by omega, rfl, rfl, rfl, rfl, rfl, by simp [upd], by simp [upd], by show 8 < 16; omega⟩ ?_ ?_
  · rintro s ⟨i, h1, h2, _⟩; omega
  rintro k ⟨T, H, nx⟩ ⟨i, hi', hk, h0, h3, h17, h18, h19, g7, g8, hnx⟩
  dsimp only at h0 h3 h17 h18 h19 g7 g8 hnx
  have hL : ((ways.take i).foldl stepW (List.replicate b.nodes.length false)).length = b.nodes.length := by rw [xtu]; simp
  generalize hbs : (ways.take i).foldl stepW (List.replicate b.nodes.length false) = bs at g7 hL
  have q7 : 7 < nx := by omega
  have kk := And.intro (And.intro (ne2 hnx) (And.intro (ne2' hnx) (lt2 hnx))) (And.intro (ne2 q7) (And.intro (ne2' q7) (lt2 q7)))
  apply cw_cwp
  simp only [h0, h3, h17, h18, h19, g7, g8, kk, Int.toNat_natCast, R3, R4, R24, R26, R82, R85, R53, R110, R89, DBranch, DNode, DWay, EV, ↓EVd, isCall, Nat.reduceAdd, Nat.reduceSub, Nat.reduceMul, Nat.reduceEqDiff, Nat.reduceBEq, Nat.reduceLT, Nat.reduceLeDiff, ↓reduceIte, reduceCtorEq]
  refine ⟨fun hlt => ?_, fun hlt => ?_⟩
  rotate_left
  · have : i = ways.length := by omega
    subst this
    rw [List.take_length] at hbs
    refine S1_ok hnm rfl (by simp [closeds, closed, hTRc]) ?_
    simp only [h0, h3, h17, h18, h19, g7, g8, kk, Int.toNat_natCast, R3, R4, R24, R26, R82, R85, R53, R110, R89, DBranch, DNode, DWay, EV, ↓EVd, isCall, Nat.reduceAdd, Nat.reduceSub, Nat.reduceMul, Nat.reduceEqDiff, Nat.reduceBEq, Nat.reduceLT, Nat.reduceLeDiff, ↓reduceIte, reduceCtorEq]
    rw [hbs]
  have hi2 : i < ways.length := by omega
  obtain ⟨w1, w2⟩ := hi _ (List.getElem_mem hi2)
  have e7 : ((0 : Int) ≤ (i : Int)) = True := eq_true (by omega)
  have e8 : (ways.map encWay)[i]? = some (encWay ways[i]) := by simp [hi2]
  have e9 : wr ((i : Int) + 1) = ((i + 1 : Nat) : Int) := by rw [wr_in (by omega) (by omega)]; omega
  have e10 : wr (ways[i].ino - 1) = ways[i].ino - 1 := wr_in (by omega) (by omega)
  have e11 : ((0 : Int) ≤ ways[i].ino - 1) = True := eq_true (by omega)
  obtain ⟨x0, hx0⟩ : ∃ x0, bs[(ways[i].ino - 1).toNat]? = some x0 := ⟨bs[(ways[i].ino - 1).toNat]'(by omega), List.getElem?_eq_getElem _⟩
  have e13 : (bs.map bool)[(ways[i].ino - 1).toNat]? = some (bool x0) := by rw [List.getElem?_map, hx0]; rfl
  have e12 : (ways[i].ino - 1 < (b.nodes.length : Int)) = True := eq_true (by omega)
  simp only [e7, e8, e9, e10, e11, e12, e13, h0, h3, h17, h18, h19, g7, g8, kk, Int.toNat_natCast, R3, R4, R24, R26, R82, R85, R53, R110, R89, DBranch, DNode, DWay, EV, ↓EVd, isCall, Nat.reduceAdd, Nat.reduceSub, Nat.reduceMul, Nat.reduceEqDiff, Nat.reduceBEq, Nat.reduceLT, Nat.reduceLeDiff, ↓reduceIte, reduceCtorEq]
  exact ⟨i + 1, by omega, by omega, rfl, by rw [List.take_succ_eq_append_getElem hi2, List.foldl_append, hbs]; rfl⟩
end Go.Proofs.YtefdlpandfhcgaaGreatDoor.AL

/- (*walk.trail).reach: the range over a function, and what is handed back. -/
set_option linter.all false
namespace Go.Proofs.YtefdlpandfhcgaaGreatDoor.AL
open Go Go.Proofs Go.RowKit
def kp (l : Nat) : Bool := l == 7 || l == 8
def Hk (n : Nat) (bs : List Bool) : Nat → Option AO := fun l => if l = 7 then some (.row 4 1 (bs.map bool)) else if l = 8 then some (.row 53 1 [.msl 7 n]) else none
def Er (Es : Env) (Z : Nat → Prop) (W : World) : Env := { Z := Z, w := W, L := fun l => if kp l = true then Es.L l else none, K := Es.K }
theorem VReps.bools {E E' : Env} : ∀ (bs : List Bool) (us : List Value), VReps E (bs.map bool) us → VReps E' (bs.map bool) us
  | [], us, h => by simpa only [List.map_nil, VReps] using h
  | x :: bs, us, h => by
    simp only [List.map_cons, VReps] at h ⊢
    obtain ⟨u, us', h1, h2, h3⟩ := h
    exact ⟨u, us', by simpa only [bool, VRep] using h1, VReps.bools bs us' h2, h3⟩
theorem kp7 : kp 7 = true := rfl
theorem kp8 : kp 8 = true := rfl
theorem HR.shrink {C : Ctx} {Es E : Env} {Z : Nat → Prop} {H : Nat → Option AO} {n : Nat} {bs : List Bool} (hR : HR C E H) (h7 : H 7 = some (.row 4 1 (bs.map bool))) (h8 : H 8 = some (.row 53 1 [.msl 7 n]))
    (hL : ∀ l, kp l = true → E.L l = Es.L l) (hK : Es.K 7 ∧ Es.K 8) (hZ : ∀ b, Z b → E.Z b) : HR C (Er Es Z E.w) (Hk n bs) := by
  have e7 := hR.dom 7
  have e8 := hR.dom 8
  rw [h7, hL 7 rfl] at e7
  rw [h8, hL 8 rfl] at e8
  simp only [Option.isSome_some] at e7 e8
  refine ⟨hR.below, hR.base, fun b hb => hR.zlt b (hZ b hb), ?_, fun b hb => hR.zsrc b (hZ b hb), ?_, ?_, ?_, ?_, ?_⟩
  · intro b hb l c e
    simp only [Er] at e
    split at e
    · rename_i hk; rw [← hL l hk] at e; exact hR.zlive b (hZ b hb) l c e
    · cases e
  · intro l
    simp only [Hk, Er, kp]
    by_cases h : l = 7
    · subst h; simpa using e7
    · by_cases h' : l = 8
      · subst h'; simpa using e8
      · simp [h, h']
  · intro l x e
    simp only [Er, kp] at e
    by_cases h : l = 7
    · subst h; exact hK.1
    · by_cases h' : l = 8
      · subst h'; exact hK.2
      · simp [h, h'] at e
  · intro l l' b c c' e e'
    simp only [Er] at e e'
    split at e
    · split at e'
      · rename_i g g'
        rw [← hL l g] at e
        rw [← hL l' g'] at e'
        exact hR.inj l l' b c c' e e'
      · cases e'
    · cases e
  · intro l o p ho hp
    simp only [Er] at hp
    split at hp
    · rename_i hk
      rw [← hL l hk] at hp
      simp only [Hk] at ho
      by_cases h : l = 7
      · subst h
        simp only [if_true] at ho
        injection ho with ho
        subst ho
        have := hR.obj 7 _ p h7 hp
        cases p with
        | none => simpa only [ORep] using this
        | some q =>
          obtain ⟨b, c⟩ := q
          simp only [ORep] at this ⊢
          obtain ⟨cur, us, g1, g2, g3⟩ := this
          exact ⟨cur, us, g1, VReps.bools _ _ g2, g3⟩
      · by_cases h' : l = 8
        · subst h'
          simp only [if_neg h, if_true] at ho
          injection ho with ho
          subst ho
          have := hR.obj 8 _ p h8 hp
          cases p with
          | none => simpa only [ORep] using this
          | some q =>
            obtain ⟨b, c⟩ := q
            simp only [ORep] at this ⊢
            obtain ⟨cur, us, g1, g2, g3⟩ := this
            refine ⟨cur, us, g1, ?_, g3⟩
            simp only [VReps, VRep] at g2 ⊢
            obtain ⟨u, us', ⟨A, c0, q1, q2, q3, q4, q5, q6⟩, r1, r2⟩ := g2
            refine ⟨u, us', ⟨A, c0, hK.1, q2, q3, q4, ?_, ?_⟩, r1, r2⟩
            · intro b c e; simp only [Er, kp7, if_true] at e; rw [← hL 7 rfl] at e; exact q5 b c e
            · intro e; simp only [Er, kp7, if_true] at e; rw [← hL 7 rfl] at e; exact q6 e
        · simp [h, h'] at ho
    · cases hp
  · intro l b c e
    simp only [Er] at e
    split at e
    · rename_i hk; rw [← hL l hk] at e; exact hR.old l b c e
    · cases e
theorem HR.grown {C : Ctx} {Es : Env} {Z : Nat → Prop} {W W' : World} {n B : Nat} {bs : List Bool} {row : Option Nat} (hR : HR C (Er Es Z W) (Hk n bs)) (hg : W.grownBy W' row) (hrow : ∀ r, row = some r → B ≤ r ∧ ∃ o : Obj, W.heap[r]? = some o ∧ o.isCells = false)
    (hB : C.base ≤ B) (hZ : ∀ b, Z b → b < B) : HR C (Er Es Z W') (Hk n bs) := by
  have hblock : ∀ b, b < W.heap.size → (∀ r, row = some r → b ≠ r) → W'.heap[b]? = W.heap[b]? := fun b hb hr => hg.block b hb (fun e => hr b e.symm rfl)
  refine ⟨?_, Nat.le_trans hR.base hg.size, fun b hb => Nat.lt_of_lt_of_le (hR.zlt b hb) hg.size, hR.zlive, hR.zsrc, hR.dom, hR.known, hR.inj, ?_, fun l b c e => ⟨(hR.old l b c e).1, Nat.lt_of_lt_of_le (hR.old l b c e).2 hg.size⟩⟩
  · refine ⟨hg.os.trans hR.below.os, hg.tape.trans hR.below.tape, hg.output.trans hR.below.output, Nat.le_trans hR.below.size hg.size, fun k hk => ?_⟩
    refine (hblock k (Nat.lt_of_lt_of_le hk hR.base) fun r e => ?_).trans (hR.below.block k hk)
    have := (hrow r e).1
    omega
  · intro l o p ho hp
    have hst : Stab (Er Es Z W) (Er Es Z W') := ⟨fun _ h => h, fun _ _ _ h => h, fun b hb => ⟨hb, hblock b (hR.zlt b hb) fun r e => by have := (hrow r e).1; have := hZ b hb; omega⟩⟩
    have h0 := hR.obj l o p ho hp
    refine ORep.stab hst ?_ h0
    rintro b c rfl
    refine hblock b (hR.old l b c hp).2 fun r e => ?_
    rintro rfl
    obtain ⟨_, ob, g1, g2⟩ := hrow b e
    have : ∃ T sz xs, o = .row T sz xs := by
      simp only [Hk] at ho
      split at ho
      · injection ho with ho; exact ⟨_, _, _, ho.symm⟩
      · split at ho
        · injection ho with ho; exact ⟨_, _, _, ho.symm⟩
        · cases ho
    obtain ⟨T, sz, xs, rfl⟩ := this
    simp only [ORep] at h0
    obtain ⟨cur, us, q1, _⟩ := h0
    have e1 : (Er Es Z W).w.heap[b]? = W.heap[b]? := rfl
    rw [e1, g1] at q1
    injection q1 with q1
    subst q1
    cases g2
section
variable {T : Nat → AV} {H : Nat → Option AO} {nx n : Nat} {x : Entry} {bs : List Bool}
theorem xj6 (h3 : T 3 = .loc 8 1 0 0) (h31 : T 31 = xd x) (g7 : H 7 = some (.row 4 1 (bs.map bool))) (g8 : H 8 = some (.row 53 1 [.msl 7 n])) (hnx : 8 < nx) :
    cw Tryz.prog 48 x8i (fun e s => e = .normal ∧ s.T 3 = .loc 8 1 0 0 ∧ (∃ lb, s.T 6 = .loc lb 3 0 0 ∧ lb ≠ 7 ∧ lb ≠ 8 ∧ s.H lb = some (.row 31 3 [xd x])) ∧ s.H 7 = some (.row 4 1 (bs.map bool)) ∧ s.H 8 = some (.row 53 1 [.msl 7 n])) ⟨T, H, nx⟩ := by
  have q7 : 7 < nx := by omega
  have kk := And.intro (And.intro (ne2 hnx) (And.intro (ne2' hnx) (lt2 hnx))) (And.intro (ne2 q7) (And.intro (ne2' q7) (lt2 q7)))
  unfold x8i
  simp only [h3, h31, g7, g8, kk, Int.toNat_natCast, R3, R4, R31, R53, DEntry, EV, ↓EVd, isCall, Nat.reduceAdd, Nat.reduceSub, Nat.reduceMul, Nat.reduceEqDiff, Nat.reduceBEq, Nat.reduceLT, Nat.reduceLeDiff, ↓reduceIte, reduceCtorEq]
  have n7 : (7 = nx) = False := by simp; omega
  have n8 : (8 = nx) = False := by simp; omega
  simp only [n7, n8, if_false, and_true]
  exact ⟨nx, rfl, by omega, by omega, by simp⟩
set_option maxHeartbeats 1000000 in
theorem xk3 (h3 : T 3 = .loc 8 1 0 0) (h6 : T 6 = .ptr (xd x) 0) (g7 : H 7 = some (.row 4 1 (bs.map bool))) (g8 : H 8 = some (.row 53 1 [.msl 7 n])) (hnx : 8 < nx) (hn : bs.length = n) (hN : n ≤ 281474976710656) :
    cw Tryz.prog 48 xfi (fun e s => e = .normal ∧ s.H 7 = some (.row 4 1 ((stepE bs x).map bool)) ∧ s.H 8 = some (.row 53 1 [.msl 7 n])) ⟨T, H, nx⟩ := by
  have q7 : 7 < nx := by omega
  have kk := And.intro (And.intro (ne2 hnx) (And.intro (ne2' hnx) (lt2 hnx))) (And.intro (ne2 q7) (And.intro (ne2' q7) (lt2 q7)))
  unfold xfi
  unfold stepE
  by_cases h1 : 1 ≤ x.ino
  · have e1 := eq_true h1
    by_cases h2 : x.ino ≤ (n : Int)
    · have e2 := eq_true h2
      obtain ⟨x0, hx0⟩ : ∃ x0, bs[(x.ino - 1).toNat]? = some x0 := ⟨bs[(x.ino - 1).toNat]'(by omega), List.getElem?_eq_getElem _⟩
      have e13 : (bs.map bool)[(x.ino - 1).toNat]? = some (bool x0) := by rw [List.getElem?_map, hx0]; rfl
      have e10 : wr (x.ino - 1) = x.ino - 1 := wr_in (by omega) (by omega)
      have e11 : ((0 : Int) ≤ x.ino - 1) = True := eq_true (by omega)
      have e12 : (x.ino - 1 < (n : Int)) = True := eq_true (by omega)
      simp only [e1, e2, e10, e11, e12, e13, h3, h6, g7, g8, kk, hn, and_self, true_and, and_true, if_true, Int.toNat_natCast, R3, R4, R31, R53, DEntry, EV, ↓EVd, isCall, Nat.reduceAdd, Nat.reduceSub, Nat.reduceMul, Nat.reduceEqDiff, Nat.reduceBEq, Nat.reduceLT, Nat.reduceLeDiff, ↓reduceIte, reduceCtorEq]
    · have e2 := eq_false h2
      simp only [e1, e2, h3, h6, g7, g8, kk, hn, and_false, if_false, and_self, true_and, and_true, Int.toNat_natCast, R3, R4, R31, R53, DEntry, EV, ↓EVd, isCall, Nat.reduceAdd, Nat.reduceSub, Nat.reduceMul, Nat.reduceEqDiff, Nat.reduceBEq, Nat.reduceLT, Nat.reduceLeDiff, ↓reduceIte, reduceCtorEq]
  · have e1 := eq_false h1
    simp only [e1, h3, h6, g7, g8, kk, false_and, if_false, and_self, true_and, and_true, Int.toNat_natCast, R3, R4, R31, R53, DEntry, EV, ↓EVd, isCall, Nat.reduceAdd, Nat.reduceSub, Nat.reduceMul, Nat.reduceEqDiff, Nat.reduceBEq, Nat.reduceLT, Nat.reduceLeDiff, ↓reduceIte, reduceCtorEq]
theorem x91 (h3 : T 3 = .loc 8 1 0 0) (g7 : H 7 = some (.row 4 1 (bs.map bool))) (g8 : H 8 = some (.row 53 1 [.msl 7 n])) :
    cw Tryz.prog 48 xmi (fun e s => e = .ret ∧ s.T 2 = .msl 7 n ∧ s.H 7 = some (.row 4 1 (bs.map bool)) ∧ s.H 8 = some (.row 53 1 [.msl 7 n])) ⟨T, H, nx⟩ := by
  unfold xmi
  simp only [h3, g7, g8, Int.toNat_natCast, R3, R4, R31, R53, DEntry, EV, ↓EVd, isCall, Nat.reduceAdd, Nat.reduceSub, Nat.reduceMul, Nat.reduceEqDiff, Nat.reduceBEq, Nat.reduceLT, Nat.reduceLeDiff, ↓reduceIte, reduceCtorEq]
end
def Xb (Es : Env) (b : Nat) : Prop := ∃ l c, kp l = true ∧ Es.L l = some (some (b, c))
def Z1 (C : Ctx) (Es : Env) (Z : Nat → Prop) (W : World) (b : Nat) : Prop := Z b ∨ (C.base ≤ b ∧ b < W.heap.size ∧ ¬ Xb Es b)
theorem HR.wide {C : Ctx} {Es : Env} {Z : Nat → Prop} {W : World} {H : Nat → Option AO} (hR : HR C (Er Es Z W) H) : HR C (Er Es (Z1 C Es Z W) W) H ∧ Stab (Er Es Z W) (Er Es (Z1 C Es Z W) W) := by
  have hst : Stab (Er Es Z W) (Er Es (Z1 C Es Z W) W) := ⟨fun _ h => h, fun _ _ _ h => h, fun b hb => ⟨.inl hb, rfl⟩⟩
  refine ⟨⟨hR.below, hR.base, ?_, ?_, ?_, hR.dom, hR.known, hR.inj, fun l o p ho hp => ORep.stab hst (fun _ _ _ => rfl) (hR.obj l o p ho hp), hR.old⟩, hst⟩
  · rintro b (hb | hb)
    · exact hR.zlt b hb
    · exact hb.2.1
  · rintro b (hb | hb) l c e
    · exact hR.zlive b hb l c e
    · simp only [Er] at e
      split at e
      · exact hb.2.2 ⟨l, c, ‹_›, e⟩
      · cases e
  · rintro b (hb | hb)
    · exact hR.zsrc b hb
    · exact .inr hb.1
theorem after {C : Ctx} {Es : Env} {Z : Nat → Prop} {W : World} {n k0 : Nat} {bs bs' : List Bool} {s2 : AS} {a2 : Act} {E2 : Env} (hR : HR C (Er Es Z W) (Hk n bs)) (hK : Es.K 7 ∧ Es.K 8)
    (hS : SR C (Er Es (Z1 C Es Z W) W) k0 48 s2 a2 E2) (g7 : s2.H 7 = some (.row 4 1 (bs'.map bool))) (g8 : s2.H 8 = some (.row 53 1 [.msl 7 n])) :
    HR C (Er Es Z E2.w) (Hk n bs') ∧ W.heap.size ≤ E2.w.heap.size ∧ (∀ b o, ¬ Xb Es b → W.heap[b]? = some o → E2.w.heap[b]? = some o) := by
  have hL : ∀ l, kp l = true → E2.L l = Es.L l := by
    intro l hl
    have hk : (Er Es (Z1 C Es Z W) W).K l := by
      simp only [kp, Bool.or_eq_true, beq_iff_eq] at hl
      rcases hl with rfl | rfl
      · exact hK.1
      · exact hK.2
    have hd := hS.heap.dom l
    have : (s2.H l).isSome = true := by
      simp only [kp, Bool.or_eq_true, beq_iff_eq] at hl
      rcases hl with rfl | rfl
      · rw [g7]; rfl
      · rw [g8]; rfl
    rw [this] at hd
    obtain ⟨p, hp⟩ := Option.isSome_iff_exists.1 hd.symm
    have := hS.stab.L l hk p hp
    simp only [Er, hl, if_true] at this
    rw [hp, this]
  have hZ : ∀ b, Z b → E2.Z b := fun b hb => (hS.stab.Z b (.inl hb)).1
  have hkeep : ∀ b o, ¬ Xb Es b → W.heap[b]? = some o → E2.w.heap[b]? = some o := by
    intro b o hx ho
    by_cases hb : b < C.base
    · rw [hS.heap.below.block b hb, ← hR.below.block b hb]; exact ho
    · have hlt : b < W.heap.size := (Array.getElem?_eq_some_iff.1 ho).1
      rw [(hS.stab.Z b (.inr ⟨by omega, hlt, hx⟩)).2]; exact ho
  refine ⟨HR.shrink hS.heap g7 g8 hL hK hZ, ?_, hkeep⟩
  by_cases h0 : W.heap.size ≤ C.base
  · exact Nat.le_trans h0 hS.heap.base
  · have hlt : W.heap.size - 1 < W.heap.size := by omega
    by_cases hx : Xb Es (W.heap.size - 1)
    · obtain ⟨l, c, hl, e⟩ := hx
      rw [← hL l hl] at e
      have := (hS.heap.old l _ c e).2
      omega
    · have := hkeep (W.heap.size - 1) W.heap[W.heap.size - 1] hx (Array.getElem?_eq_getElem hlt)
      have := (Array.getElem?_eq_some_iff.1 this).1
      omega
def nK (K : AS → Prop) : Exit → AS → Prop := fun e s => e = .normal ∧ K s
theorem peel {P : Program} {n m k0 : Nat} {K : AS → Prop} {C : Ctx} {E0 E : Env} {a : Act} {s : AS} {Q : Exit → Act → World → Prop} {c1 c2 : Code} {x y : AC} (hc : comp n c1 = some x) (h : cw P n (.seq x y) (nK K) s) (hk : k0 ≤ s.nx) (hS : SR C E0 k0 n s a E)
    (k : ∀ s' a' E', cw P n y (nK K) s' → k0 ≤ s'.nx → SR C E0 k0 n s' a' E' → c2.wpIn Fence.wide m P Q a' E'.w) : (Code.seq c1 c2).wpIn Fence.wide m P Q a E.w := by
  refine wpIn_seq (wpIn_mono (wpIn_wide.2 (cw_cwp x h c1 hc C E0 k0 E a hk hS)) ?_)
  rintro e a' w' ⟨s', E', h1, h2, h3, rfl⟩
  cases e with
  | normal => exact k s' a' E' h1 h2 h3
  | exit id => exact absurd h1.1 (by simp)
  | goto l => exact absurd h1.1 (by simp)
  | ret => exact absurd h1.1 (by simp)
  | panic ch => exact absurd h1.1 (by simp)
  | outgrown => exact absurd h1.1 (by simp)
end Go.Proofs.YtefdlpandfhcgaaGreatDoor.AL

