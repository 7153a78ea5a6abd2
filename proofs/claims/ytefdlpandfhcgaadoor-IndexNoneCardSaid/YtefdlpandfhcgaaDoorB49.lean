/- A law of the given program is proved: part 49 of 51. -/
import Derived.Test.YtefdlpandfhcgaaDoorB48
set_option linter.all false
/- Models of functions, and that the functions are as their models: written by gen.py. -/
set_option linter.all false
set_option maxRecDepth 100000
namespace Go.Proofs.YtefdlpandfhcgaaDoor.AL
open Go Go.Proofs
def xsc (a0 : index_upper) (a1 : Int) : Option (Node) := if a1 < 1 then some (⟨0, 0, 0, 0, [], [], (⟨0, 0, xeb, (⟨0, 0, 0⟩ : Origin), 0⟩ : Attr)⟩ : Node)
 else if (a0.stack.upper.nodes.length : Int) < a1 then some (⟨0, 0, 0, 0, [], [], (⟨0, 0, xeb, (⟨0, 0, 0⟩ : Origin), 0⟩ : Attr)⟩ : Node)
 else (ix a0.stack.upper.nodes (wr (a1 - 1))).bind fun v5 => some v5
def x9f := aI (aI (aI (@EV) (aI (@R3) (@R32))) (aI (@R34) (aI (@R37) (@R44)))) (aI (aI (@R84) (aI (@DOrigin) (@DBranch))) (aI (aI (@DStack) (@DNode)) (aI (@DEntry) (@xqe))))
set_option maxHeartbeats 2000000 in
theorem xqh (a0 : index_upper) (a1 : Int) (r : Node) (hm0 : xsc a0 a1 = some r) : Ok Tryd.prog 56 [xbb a0, int a1] (xd r) := by
 unfold xsc at hm0
 refine okG xsh ?_
 unfold xwf
 rcases iteE hm0 with ⟨e2, hm0⟩ | ⟨e2, hm0⟩
 · obtain rfl := Option.some.inj hm0
   simp only [e2, x9f, ↓EVd, isCall, sevalprocAttr]
   all_goals first | done | rfl | exact xn (by simp only [CLO]) | exact xgb (by simp only [CLO]) (Sub.agg (Subs.cons (Sub.refl _) (Subs.cons (Sub.refl _) (Subs.cons (Sub.refl _) (Subs.cons (Sub.refl _) (Subs.cons (Sub.nilS _) (Subs.cons (Sub.nilS _) (Subs.cons (Sub.refl _) (Subs.cons (Sub.refl _) (Subs.cons (Sub.refl _) (Subs.cons (Sub.refl _) (Subs.cons (Sub.refl _) (Subs.cons (Sub.refl _) (Subs.cons (Sub.refl _) (Subs.nil)))))))))))))))
 rcases iteE hm0 with ⟨e4, hm0⟩ | ⟨e4, hm0⟩
 · obtain rfl := Option.some.inj hm0
   simp only [e2, e4, x9f, ↓EVd, isCall, sevalprocAttr]
   all_goals first | done | rfl | exact xn (by simp only [CLO]) | exact xgb (by simp only [CLO]) (Sub.agg (Subs.cons (Sub.refl _) (Subs.cons (Sub.refl _) (Subs.cons (Sub.refl _) (Subs.cons (Sub.refl _) (Subs.cons (Sub.nilS _) (Subs.cons (Sub.nilS _) (Subs.cons (Sub.refl _) (Subs.cons (Sub.refl _) (Subs.cons (Sub.refl _) (Subs.cons (Sub.refl _) (Subs.cons (Sub.refl _) (Subs.cons (Sub.refl _) (Subs.cons (Sub.refl _) (Subs.nil)))))))))))))))
 obtain ⟨v5, e7, hm0⟩ := ixE xd hm0
 obtain rfl := Option.some.inj hm0
 simp only [e2, e4, e7, x9f, ↓EVd, isCall, sevalprocAttr]
 all_goals first | done | rfl | exact xn (by simp only [CLO])
def xlc (a0 : index_upper) (a1 : Entry) : Option (Bool) := (x7c a1.name).bind fun v1 => if (!v1.2) = true then some true
 else (xdf a0.stack v1.1).bind fun v5 => if (!v5.2) = true then some true
 else if v5.1.kind = 1 then some true
 else (xsc a0 a1.ino).bind fun v11 => if v11.kind = 4 then some false
 else if v11.kind = 2 then if 0 ≤ v11.attr.has then if (bAnd .i64 v11.attr.has 4) = 0 then some true
 else (xnd v11.attr.origin v1.1).bind fun v21 => if (!v21) = true then some true
 else (ix a0.tree (wr (a1.ino - 1))).bind fun v25 => some (!v25)
 else some true
 else if v11.kind = 3 then if 0 ≤ v11.attr.has then if (bAnd .i64 v11.attr.has 4) = 0 then some true
 else (xnd v11.attr.origin v1.1).bind fun v34 => if (!v34) = true then some true
 else (ix a0.tree (wr (a1.ino - 1))).bind fun v38 => some (!v38)
 else some true
 else some true
def xv := aI (aI (aI (aI (@EV) (@R3)) (aI (@R4) (@R9))) (aI (aI (@R23) (@R37)) (aI (@R42) (@R44)))) (aI (aI (aI (@R51) (@R82)) (aI (@R84) (@DOrigin))) (aI (aI (@DBranch) (@DStack)) (aI (@DNode) (aI (@DEntry) (@xqe)))))
set_option maxHeartbeats 2000000 in
theorem xyf (a0 : index_upper) (a1 : Entry) (r : Bool) (hm0 : xlc a0 a1 = some r) : Ok Tryd.prog 37 [xbb a0, xk a1] (bool r) := by
 unfold xlc at hm0
 refine okG x7h ?_
 unfold xkg
 obtain ⟨v1, h2, hm0⟩ := bsE hm0
 simp only [xv, ↓EVd, isCall, sevalprocAttr]
 refine qc (xoj _ _ h2) rfl ?_
 rcases itbE hm0 with ⟨e4, hm0⟩ | ⟨e4, hm0⟩
 · obtain rfl := Option.some.inj hm0
   simp only [e4, xv, ↓EVd, isCall, sevalprocAttr]
   all_goals first | done | rfl
 obtain ⟨v5, h6, hm0⟩ := bsE hm0
 simp only [e4, xv, ↓EVd, isCall, sevalprocAttr]
 refine qc (xvq _ _ _ h6) rfl ?_
 rcases itbE hm0 with ⟨e8, hm0⟩ | ⟨e8, hm0⟩
 · obtain rfl := Option.some.inj hm0
   simp only [e4, e8, xv, ↓EVd, isCall, sevalprocAttr]
   all_goals first | done | rfl
 rcases iteE hm0 with ⟨e10, hm0⟩ | ⟨e10, hm0⟩
 · obtain rfl := Option.some.inj hm0
   simp only [e4, e8, e10, xv, ↓EVd, isCall, sevalprocAttr]
   all_goals first | done | rfl
 obtain ⟨v11, h12, hm0⟩ := bsE hm0
 simp only [e4, e8, e10, xv, ↓EVd, isCall, sevalprocAttr]
 refine qc (xqh _ _ _ h12) rfl ?_
 rcases iteE hm0 with ⟨e14, hm0⟩ | ⟨e14, hm0⟩
 · obtain rfl := Option.some.inj hm0
   simp only [e4, e8, e10, e14, xv, ↓EVd, isCall, sevalprocAttr]
   all_goals first | done | rfl
 rcases iteE hm0 with ⟨e16, hm0⟩ | ⟨e16, hm0⟩
 · rcases iteE hm0 with ⟨e18, hm0⟩ | ⟨e18, hm0⟩
   · rcases iteE hm0 with ⟨e20, hm0⟩ | ⟨e20, hm0⟩
     · obtain rfl := Option.some.inj hm0
       simp only [e4, e8, e10, e14, e16, e18, e20, xv, ↓EVd, isCall, sevalprocAttr]
       all_goals first | done | rfl
     obtain ⟨v21, h22, hm0⟩ := bsE hm0
     simp only [e4, e8, e10, e14, e16, e18, e20, xv, ↓EVd, isCall, sevalprocAttr]
     refine qc (xfk _ _ _ h22) rfl ?_
     rcases itbE hm0 with ⟨e24, hm0⟩ | ⟨e24, hm0⟩
     · obtain rfl := Option.some.inj hm0
       simp only [e4, e8, e10, e14, e16, e18, e20, e24, xv, ↓EVd, isCall, sevalprocAttr]
       all_goals first | done | rfl
     obtain ⟨v25, e27, hm0⟩ := ixE bool hm0
     obtain rfl := Option.some.inj hm0
     simp only [e4, e8, e10, e14, e16, e18, e20, e24, e27, xv, ↓EVd, isCall, sevalprocAttr]
     all_goals first | done | rfl
   obtain rfl := Option.some.inj hm0
   simp only [e4, e8, e10, e14, e16, e18, xv, ↓EVd, isCall, sevalprocAttr]
   all_goals first | done | rfl
 rcases iteE hm0 with ⟨e29, hm0⟩ | ⟨e29, hm0⟩
 · rcases iteE hm0 with ⟨e31, hm0⟩ | ⟨e31, hm0⟩
   · rcases iteE hm0 with ⟨e33, hm0⟩ | ⟨e33, hm0⟩
     · obtain rfl := Option.some.inj hm0
       simp only [e4, e8, e10, e14, e16, e29, e31, e33, xv, ↓EVd, isCall, sevalprocAttr]
       all_goals first | done | rfl
     have g41 := And.intro (And.intro (And.intro ((e4)) ((e8))) (And.intro ((e10)) ((e14)))) (And.intro (And.intro ((e16)) ((e29))) (And.intro ((e31)) ((e33))))
     obtain ⟨v34, h35, hm0⟩ := bsE hm0
     simp only [g41, xv, ↓EVd, isCall, sevalprocAttr]
     refine qc (xfk _ _ _ h35) rfl ?_
     rcases itbE hm0 with ⟨e37, hm0⟩ | ⟨e37, hm0⟩
     · obtain rfl := Option.some.inj hm0
       simp only [g41, e37, xv, ↓EVd, isCall, sevalprocAttr]
       all_goals first | done | rfl
     obtain ⟨v38, e40, hm0⟩ := ixE bool hm0
     obtain rfl := Option.some.inj hm0
     simp only [g41, e37, e40, xv, ↓EVd, isCall, sevalprocAttr]
     all_goals first | done | rfl
   obtain rfl := Option.some.inj hm0
   simp only [e4, e8, e10, e14, e16, e29, e31, xv, ↓EVd, isCall, sevalprocAttr]
   all_goals first | done | rfl
 obtain rfl := Option.some.inj hm0
 simp only [e4, e8, e10, e14, e16, e29, xv, ↓EVd, isCall, sevalprocAttr]
 all_goals first | done | rfl
def xrg (a0 : Stack) (a1 : Entry) : Option (Bool) := (x2d a0).bind fun v1 => (xlc v1 a1).bind fun v3 => some v3
def x5j := aI (aI (aI (@EV) (@R37)) (aI (@R51) (aI (@R84) (@DOrigin)))) (aI (aI (@DBranch) (aI (@DStack) (@DNode))) (aI (@DEntry) (aI (@xqe) (@mixed))))
set_option maxHeartbeats 2000000 in
theorem xdu (a0 : Stack) (a1 : Entry) (r : Bool) (hm0 : xrg a0 a1 = some r) : Ok Tryd.prog 17 [xob a0, xk a1] (bool r) := by
 unfold xrg at hm0
 refine okG xhn ?_
 unfold x6j
 obtain ⟨v1, h2, hm0⟩ := bsE hm0
 simp only [x5j, ↓EVd, isCall, sevalprocAttr]
 refine qd (xgi _ _ h2) rfl ?_
 obtain ⟨v3, h4, hm0⟩ := bsE hm0
 simp only [x5j, ↓EVd, isCall, sevalprocAttr]
 refine qd (xyf _ _ _ h4) rfl ?_
 obtain rfl := Option.some.inj hm0
 simp only [x5j, ↓EVd, isCall, sevalprocAttr]
 all_goals first | done | rfl
def xlb (a0 : index_upper) (a1 : Int) : Option (List Entry) := (xsc a0 a1).bind fun v1 => if v1.kind = 1 then some v1.entries
 else some []
def xhe := aI (aI (aI (@EV) (aI (@R3) (@R40))) (aI (@R44) (aI (@R51) (@R84)))) (aI (aI (@DOrigin) (aI (@DBranch) (@DStack))) (aI (@DNode) (aI (@DEntry) (@xqe))))
set_option maxHeartbeats 2000000 in
theorem xbe (a0 : index_upper) (a1 : Int) (r : List Entry) (hm0 : xlb a0 a1 = some r) : Ok Tryd.prog 38 [xbb a0, int a1] (.sl 3 (r.map xk)) := by
 unfold xlb at hm0
 refine okG xog ?_
 unfold xle
 obtain ⟨v1, h2, hm0⟩ := bsE hm0
 simp only [xhe, ↓EVd, isCall, sevalprocAttr]
 refine qc (xqh _ _ _ h2) rfl ?_
 rcases iteE hm0 with ⟨e4, hm0⟩ | ⟨e4, hm0⟩
 · obtain rfl := Option.some.inj hm0
   simp only [e4, xhe, ↓EVd, isCall, sevalprocAttr]
   all_goals first | done | rfl | exact xn (by simp only [CLO])
 obtain rfl := Option.some.inj hm0
 simp only [e4, xhe, ↓EVd, isCall, sevalprocAttr]
 all_goals first | done | rfl | exact xgb (by simp only [CLO]) (Sub.nilS _)
def x5f (a1 : Int) (v1 : index_upper) (v3 : List Entry) : Int → Option (St (Int) ((Unit) ⊕ (Bool)))
 | v6 => if v6 < (v3.length : Int) then (ix v3 v6).bind fun v10 => if v10.ino = a1 then (xlc v1 v10).bind fun v15 => if (!v15) = true then some (.out (.inr true))
 else some (.nx (wr (v6 + 1)))
 else some (.nx (wr (v6 + 1)))
 else some (.out (.inl ()))
def xwc (a0 : Stack) (a1 : Int) : Option (Bool) := (x2d a0).bind fun v1 => (xlb v1 3).bind fun v3 => (iter (x5f a1 v1 v3) big 0).bind fun o => (match o with
 | (.inl _) => some false
 | (.inr r) => some r)
def xrb := aI (aI (aI (@EV) (aI (@R3) (@R37))) (aI (@R40) (aI (@R51) (@R84)))) (aI (aI (@DOrigin) (aI (@DBranch) (@DStack))) (aI (@DNode) (aI (@DEntry) (@xqe))))
set_option maxHeartbeats 2000000 in
theorem xmj (a0 : Stack) (a1 : Int) (r : Bool) (hm0 : xwc a0 a1 = some r) : Ok Tryd.prog 20 [xob a0, int a1] (bool r) := by
 unfold xwc at hm0
 refine okG x2i ?_
 unfold x8g
 obtain ⟨v1, h2, hm0⟩ := bsE hm0
 simp only [xrb, ↓EVd, isCall, sevalprocAttr]
 refine qc (xgi _ _ h2) rfl ?_
 obtain ⟨v3, h4, hm0⟩ := bsE hm0
 simp only [xrb, ↓EVd, isCall, sevalprocAttr]
 refine qc (xbe _ _ _ h4) rfl ?_
 obtain ⟨o0, ho0, hm0⟩ := bsE hm0
 simp only [xrb, ↓EVd, isCall, sevalprocAttr]
 refine cwp_cx 0 (fun s => (.inl ()) = o0) ?_ fun J0_0 hJ0_0 => ?_
 · rintro T0 H0 x7 rfl
   try dsimp only at hm0
   obtain rfl := Option.some.inj hm0
   simp only [xrb, ↓EVd, isCall, sevalprocAttr]
   all_goals first | done | rfl
 refine cwp_lp ho0 (fun v6 s => s.T 1 = int a1 ∧ s.T 5 = .loc 4 7 0 0 ∧ s.T 11 = .sl 3 (v3.map xk) ∧ s.T 12 = int (v3.length : Int) ∧ s.T 13 = int v6 ∧ s.H 4 = some (.row 84 7 [xbb v1]) ∧ Lq 4 s.nx) ?_ ?_
 · refine TI.here ⟨?_, ?_, ?_, ?_, ?_, ?_, ?_⟩
   all_goals try simp only [xrb, ↓EVd, isCall, sevalprocAttr]
   all_goals first | omega | exact lq (by omega) | exact nq (by omega) | rfl | (congr 1; omega)
 rintro I0 v6 T0 H0 x5 st0 kk0 hm1 hI0 hO0
 dsimp only [Lq, Nq] at kk0
 simp only [x5f] at hm1
 rcases iteE hm1 with ⟨e9, hm1⟩ | ⟨e9, hm1⟩
 · obtain ⟨v10, e12, hm1⟩ := ixE xk hm1
   rcases iteE hm1 with ⟨e14, hm1⟩ | ⟨e14, hm1⟩
   · obtain ⟨v15, h16, hm1⟩ := bsE hm1
     simp only [kk0, e9, e12, e14, xrb, ↓EVd, isCall, sevalprocAttr]
     refine qc (xyf _ _ _ h16) rfl ?_
     rcases itbE hm1 with ⟨e18, hm1⟩ | ⟨e18, hm1⟩
     · obtain rfl := Option.some.inj hm1
       obtain rfl := hO0 _ rfl
       try dsimp only at hm0
       obtain rfl := Option.some.inj hm0
       simp only [kk0, e9, e12, e14, e18, xrb, ↓EVd, isCall, sevalprocAttr]
       all_goals first | done | rfl
     obtain rfl := Option.some.inj hm1
     simp only [kk0, e9, e12, e14, e18, xrb, ↓EVd, isCall, sevalprocAttr]
     refine TI.here (hI0 _ rfl _ ⟨?_, ?_, ?_, ?_, ?_, ?_, ?_⟩)
     all_goals try simp only [kk0, e9, e12, e14, e18, xrb, ↓EVd, isCall, sevalprocAttr]
     all_goals first | omega | exact lq (by omega) | exact nq (by omega) | rfl | (congr 1; omega)
   obtain rfl := Option.some.inj hm1
   simp only [kk0, e9, e12, e14, xrb, ↓EVd, isCall, sevalprocAttr]
   refine TI.here (hI0 _ rfl _ ⟨?_, ?_, ?_, ?_, ?_, ?_, ?_⟩)
   all_goals try simp only [kk0, e9, e12, e14, xrb, ↓EVd, isCall, sevalprocAttr]
   all_goals first | omega | exact lq (by omega) | exact nq (by omega) | rfl | (congr 1; omega)
 obtain rfl := Option.some.inj hm1
 simp only [kk0, e9, xrb, ↓EVd, isCall, sevalprocAttr]
 refine TI.here (hJ0_0 _ (hO0 _ rfl))
def x4d (v1 : index_upper) (v3 : List Entry) : (List Finding × Int) → Option (St (List Finding × Int) (List Finding))
 | (v7, v8) => if v8 < (v3.length : Int) then (ix v3 v8).bind fun v14 => (xlc v1 v14).bind fun v17 => if v17 = true then (ap 32 v7 ([(⟨16, 0, 3, v14.slot⟩ : Finding)] : List Finding)).bind fun _ => some (.nx ((v7 ++ ([(⟨16, 0, 3, v14.slot⟩ : Finding)] : List Finding)), (wr (v8 + 1))))
 else some (.nx (v7, (wr (v8 + 1))))
 else some (.out v7)
def x3d (v26 : List Entry) : (List Finding × Int) → Option (St (List Finding × Int) (List Finding))
 | (v30, v31) => if v31 < (v26.length : Int) then (ix v26 v31).bind fun v37 => (ap 32 v30 ([(⟨17, 0, 2, v37.slot⟩ : Finding)] : List Finding)).bind fun _ => some (.nx ((v30 ++ ([(⟨17, 0, 2, v37.slot⟩ : Finding)] : List Finding)), (wr (v31 + 1))))
 else some (.out v30)
def xoc (a0 : Stack) : Option (List Finding) := (x2d a0).bind fun v1 => (xlb v1 3).bind fun v3 => (iter (x4d v1 v3) big ([], 0)).bind fun o => (match o with
 | v11 => (xlb v1 2).bind fun v26 => (iter (x3d v26) big (v11, 0)).bind fun o => (match o with
 | v34 => some v34))
def xq := aI (aI (aI (@EV) (aI (@R3) (@R37))) (aI (aI (@R40) (@R51)) (aI (@R54) (@R81)))) (aI (aI (aI (@R84) (@DOrigin)) (aI (@DBranch) (@DStack))) (aI (aI (@DNode) (@DEntry)) (aI (@DFinding) (@xqe))))
set_option maxHeartbeats 2000000 in
theorem xni (a0 : Stack) (r : List Finding) (hm0 : xoc a0 = some r) : Ok Tryd.prog 19 [xob a0] (.sl 4 (r.map x9b)) := by
 unfold xoc at hm0
 refine okG xoi ?_
 unfold xvg
 obtain ⟨v1, h2, hm0⟩ := bsE hm0
 simp only [xq, ↓EVd, isCall, sevalprocAttr]
 refine qc (xgi _ _ h2) rfl ?_
 obtain ⟨v3, h4, hm0⟩ := bsE hm0
 simp only [xq, ↓EVd, isCall, sevalprocAttr]
 refine qc (xbe _ _ _ h4) rfl ?_
 obtain ⟨o0, ho0, hm0⟩ := bsE hm0
 simp only [xq, ↓EVd, isCall, sevalprocAttr]
 refine cwp_cx 0 (fun s => ∃ v11 : List Finding, ∃ l10 : Nat, (s.T 3 = .loc 4 7 0 0 ∧ s.T 4 = .msl l10 v11.length ∧ s.H 4 = some (.row 84 7 [xbb v1]) ∧ s.H l10 = some (.row 81 4 (v11.map x9b)) ∧ Lq 4 s.nx ∧ Lq l10 s.nx ∧ Nq 4 l10) ∧ v11 = o0) ?_ fun J0_0 hJ0_0 => ?_
 · rintro T0 H0 x9 ⟨v11, l10, kk0_0, rfl⟩
   dsimp only [Lq, Nq] at kk0_0
   try dsimp only at hm0
   obtain ⟨v26, h27, hm0⟩ := bsE hm0
   simp only [kk0_0, xq, ↓EVd, isCall, sevalprocAttr]
   refine qc (xbe _ _ _ h27) rfl ?_
   obtain ⟨o1, ho1, hm0⟩ := bsE hm0
   simp only [kk0_0, xq, ↓EVd, isCall, sevalprocAttr]
   refine cwp_cx 2 (fun s => ∃ v34 : List Finding, ∃ l33 : Nat, (s.T 4 = .msl l33 v34.length ∧ s.H l33 = some (.row 81 4 (v34.map x9b)) ∧ Lq l33 s.nx) ∧ v34 = o1) ?_ fun J1_0 hJ1_0 => ?_
   · rintro T1 H1 x32 ⟨v34, l33, kk1_0, rfl⟩
     dsimp only [Lq, Nq] at kk1_0
     try dsimp only at hm0
     obtain rfl := Option.some.inj hm0
     simp only [kk1_0, xq, ↓EVd, isCall, sevalprocAttr]
     all_goals first | done | rfl | exact frzR_e (by simp only [kk1_0, FZ, CLO, xq, ↓EVd, isCall, sevalprocAttr])
   refine cwp_lp ho1 (fun (v30, v31) s => ∃ l29 : Nat, s.T 4 = .msl l29 v30.length ∧ s.T 29 = .sl 3 (v26.map xk) ∧ s.T 30 = int (v26.length : Int) ∧ s.T 31 = int v31 ∧ s.H l29 = some (.row 81 4 (v30.map x9b)) ∧ Lq l29 s.nx) ?_ ?_
   · refine TI.here ⟨l10, ?_, ?_, ?_, ?_, ?_, ?_⟩
     all_goals try simp only [kk0_0, xq, ↓EVd, isCall, sevalprocAttr]
     all_goals first | omega | exact lq (by omega) | exact nq (by omega) | rfl | (congr 1; omega)
   rintro I1 ⟨v30, v31⟩ T1 H1 x28 st1 ⟨l29, kk1⟩ hm1 hI1 hO1
   dsimp only [Lq, Nq] at kk1
   simp only [x3d] at hm1
   rcases iteE hm1 with ⟨e36, hm1⟩ | ⟨e36, hm1⟩
   · obtain ⟨v37, e39, hm1⟩ := ixE xk hm1
     have e40 : (.agg [int 17, int 0, int 2, int v37.slot] : AV) = x9b (⟨17, 0, 2, v37.slot⟩ : Finding) := _root_.id rfl
     obtain ⟨e43, hm1⟩ := apE hm1
     try simp only [ZL] at e43
     obtain rfl := Option.some.inj hm1
     simp only [kk1, e36, e39, e40, e43, xq, ↓EVd, isCall, sevalprocAttr]
     refine TI.here (hI1 _ rfl _ ⟨(x28 + 10), ?_, ?_, ?_, ?_, ?_, ?_⟩)
     all_goals try simp only [kk1, e36, e39, e40, e43, xq, ↓EVd, isCall, sevalprocAttr]
     all_goals first | omega | exact lq (by omega) | exact nq (by omega) | rfl | (congr 1; omega)
   obtain rfl := Option.some.inj hm1
   simp only [kk1, e36, xq, ↓EVd, isCall, sevalprocAttr]
   refine TI.here (hJ1_0 _ ⟨v30, l29, ⟨?_, ?_, ?_⟩, hO1 _ rfl⟩)
   all_goals try simp only [kk1, e36, xq, ↓EVd, isCall, sevalprocAttr]
   all_goals first | omega | exact lq (by omega) | exact nq (by omega) | rfl | (congr 1; omega)
 refine cwp_lp ho0 (fun (v7, v8) s => ∃ l6 : Nat, s.T 3 = .loc 4 7 0 0 ∧ s.T 4 = .msl l6 v7.length ∧ s.T 12 = .sl 3 (v3.map xk) ∧ s.T 13 = int (v3.length : Int) ∧ s.T 14 = int v8 ∧ s.H 4 = some (.row 84 7 [xbb v1]) ∧ s.H l6 = some (.row 81 4 (v7.map x9b)) ∧ Lq 4 s.nx ∧ Lq l6 s.nx ∧ Nq 4 l6) ?_ ?_
 · refine TI.by (Tn.adopt 4 81 4 (by simp only [xq, ↓EVd, isCall, sevalprocAttr])) ?_
   refine TI.here ⟨11, ?_, ?_, ?_, ?_, ?_, ?_, ?_, ?_, ?_, ?_⟩
   all_goals try simp only [xq, ↓EVd, isCall, sevalprocAttr]
   all_goals first | omega | exact lq (by omega) | exact nq (by omega) | rfl | (congr 1; omega)
 rintro I0 ⟨v7, v8⟩ T0 H0 x5 st0 ⟨l6, kk0⟩ hm1 hI0 hO0
 dsimp only [Lq, Nq] at kk0
 simp only [x4d] at hm1
 rcases iteE hm1 with ⟨e13, hm1⟩ | ⟨e13, hm1⟩
 · obtain ⟨v14, e16, hm1⟩ := ixE xk hm1
   obtain ⟨v17, h18, hm1⟩ := bsE hm1
   simp only [kk0, e13, e16, xq, ↓EVd, isCall, sevalprocAttr]
   refine qc (xyf _ _ _ h18) rfl ?_
   rcases itbE hm1 with ⟨e20, hm1⟩ | ⟨e20, hm1⟩
   · have e21 : (.agg [int 16, int 0, int 3, int v14.slot] : AV) = x9b (⟨16, 0, 3, v14.slot⟩ : Finding) := _root_.id rfl
     obtain ⟨e24, hm1⟩ := apE hm1
     try simp only [ZL] at e24
     obtain rfl := Option.some.inj hm1
     simp only [kk0, e13, e16, e20, e21, e24, xq, ↓EVd, isCall, sevalprocAttr]
     refine TI.here (hI0 _ rfl _ ⟨(x5 + 13), ?_, ?_, ?_, ?_, ?_, ?_, ?_, ?_, ?_, ?_⟩)
     all_goals try simp only [kk0, e13, e16, e20, e21, e24, xq, ↓EVd, isCall, sevalprocAttr]
     all_goals first | omega | exact lq (by omega) | exact nq (by omega) | rfl | (congr 1; omega)
   obtain rfl := Option.some.inj hm1
   simp only [kk0, e13, e16, e20, xq, ↓EVd, isCall, sevalprocAttr]
   refine TI.here (hI0 _ rfl _ ⟨l6, ?_, ?_, ?_, ?_, ?_, ?_, ?_, ?_, ?_, ?_⟩)
   all_goals try simp only [kk0, e13, e16, e20, xq, ↓EVd, isCall, sevalprocAttr]
   all_goals first | omega | exact lq (by omega) | exact nq (by omega) | rfl | (congr 1; omega)
 obtain rfl := Option.some.inj hm1
 simp only [kk0, e13, xq, ↓EVd, isCall, sevalprocAttr]
 refine TI.here (hJ0_0 _ ⟨v7, l6, ⟨?_, ?_, ?_, ?_, ?_, ?_, ?_⟩, hO0 _ rfl⟩)
 all_goals try simp only [kk0, e13, xq, ↓EVd, isCall, sevalprocAttr]
 all_goals first | omega | exact lq (by omega) | exact nq (by omega) | rfl | (congr 1; omega)
end Go.Proofs.YtefdlpandfhcgaaDoor.AL

/- Plain laws of chapter 23: the index; without entries nothing is found. -/
set_option linter.all false
namespace Go.Proofs.YtefdlpandfhcgaaDoor.AL
open Go Go.Proofs Go.Lib
theorem x4o {σ ρ : Type} {B : σ → Option (St σ ρ)} {s : σ} {r : ρ} (h : B s = some (.out r)) : iter B big s = some r := by
  rw [show big = 999999999999999999 + 1 from big_eq, x6b, h]
  rfl
theorem SB.pbu {s : Stack} (hs : SB s) : PB s.upper := ⟨hs.up.1, fun x hx => (hs.up.2 x hx).ents⟩
def openP (s : Stack) : index_upper := ⟨s, reachP s.upper [1]⟩
theorem xmq {s : Stack} (hs : SB s) : x2d s = some (openP s) := by
  unfold x2d
  rw [xnu hs.pbu (by simp)]
  rfl
theorem xtt {u : index_upper} (hb : PB u.stack.upper) (ino : Int) : xsc u ino = some (nodeP u.stack.upper ino) := by
  unfold xsc
  by_cases h1 : ino < 1
  · rw [if_pos h1, xvd (.inl h1)]; rfl
  · rw [if_neg h1]
    by_cases h2 : (u.stack.upper.nodes.length : Int) < ino
    · rw [if_pos h2, xvd (.inr h2)]; rfl
    · rw [if_neg h2, xth h1 h2 hb.len]; rfl
theorem xvo {u : index_upper} (hb : PB u.stack.upper) (ino : Int) : xlb u ino = some (if (nodeP u.stack.upper ino).kind = 1 then (nodeP u.stack.upper ino).entries else []) := by
  unfold xlb
  rw [xtt hb]
  simp only [Option.bind_some]
  split <;> rfl
theorem xw2 (o p : Origin) : xnd o p = some (decide (o = p)) := by
  unfold xnd
  by_cases h : o = p <;> simp [h]
def badN (s : Stack) (e : Entry) (o : Origin) (x : Node) : Bool :=
  if x.kind = 4 then false
  else if x.kind = 2 ∨ x.kind = 3 then
    if 0 ≤ x.attr.has then if bAnd .i64 x.attr.has 4 = 0 then true else if x.attr.origin = o then !((reachP s.upper [1])[(e.ino - 1).toNat]?.getD false) else true
    else true
  else true
def badP2 (s : Stack) (e : Entry) : Bool :=
  if (parseH e.name.data.toList).2 = false then true
  else if (findN s (parseH e.name.data.toList).1).2 = false then true
  else if (findN s (parseH e.name.data.toList).1).1.kind = 1 then true
  else badN s e (parseH e.name.data.toList).1 (nodeP s.upper e.ino)
theorem x6p {b : Branch} {ino : Int} (h : (nodeP b ino).kind ≠ 0) : 1 ≤ ino ∧ ino ≤ (b.nodes.length : Int) := by
  rcases Int.lt_or_le ino 1 with h1 | h1
  · rw [xvd (.inl h1)] at h; exact absurd rfl h
  · rcases Int.lt_or_le (b.nodes.length : Int) ino with h2 | h2
    · rw [xvd (.inr h2)] at h; exact absurd rfl h
    · exact ⟨h1, h2⟩
theorem xb4 {s : Stack} (hs : SB s) {ino : Int} (h : (nodeP s.upper ino).kind ≠ 0) : ix (openP s).tree (wr (ino - 1)) = some ((reachP s.upper [1])[(ino - 1).toNat]?.getD false) := by
  obtain ⟨h1, h2⟩ := x6p h
  have hn := hs.up.1
  have hl := x8w s.upper [1]
  rw [wr_in (n := ino - 1) (by omega) (by omega)]
  show ix (reachP s.upper [1]) (ino - 1) = _
  rw [ix_of (by omega) (by omega), List.getElem?_eq_getElem (by omega)]
  rfl
theorem bad_eq {s : Stack} (hs : SB s) (e : Entry) : xlc (openP s) e = some (badP2 s e) := by
  unfold xlc badP2
  obtain ⟨t, ht⟩ := bB_eq e.name
  have ht2 : e.name.data.toList = t := by rw [ht]; rfl
  rw [ht2]
  rw [ht, xgv]
  simp only [Option.bind_some]
  generalize parseH t = pr
  obtain ⟨o, pb⟩ := pr
  cases pb with
  | false => simp
  | true =>
    simp only [Bool.not_true, Bool.false_eq_true, if_false, Bool.true_eq_false]
    rw [show (openP s).stack = s from rfl, xb1 hs]
    simp only [Option.bind_some]
    generalize findN s o = fr
    obtain ⟨y, fb⟩ := fr
    cases fb with
    | false => simp
    | true =>
      simp only [Bool.not_true, Bool.false_eq_true, if_false, Bool.true_eq_false]
      by_cases hy : y.kind = 1
      · rw [if_pos hy, if_pos hy]
      · rw [if_neg hy, if_neg hy, xtt hs.pbu]
        simp only [Option.bind_some]
        rw [show (openP s).stack = s from rfl]
        unfold badN
        by_cases k4 : (nodeP s.upper e.ino).kind = 4
        · rw [if_pos k4, if_pos k4]
        · rw [if_neg k4, if_neg k4]
          have key : (nodeP s.upper e.ino).kind ≠ 0 → ∀ o' : Origin, ((xnd o' o).bind fun v21 => if (!v21) = true then some true else (ix (openP s).tree (wr (e.ino - 1))).bind fun v25 => some (!v25)) = some (if o' = o then !((reachP s.upper [1])[(e.ino - 1).toNat]?.getD false) else true) := by
            intro hk o'
            rw [xw2, xb4 hs hk]
            by_cases h : o' = o <;> simp [h]
          by_cases k2 : (nodeP s.upper e.ino).kind = 2
          · have hor : (nodeP s.upper e.ino).kind = 2 ∨ (nodeP s.upper e.ino).kind = 3 := Or.inl k2
            rw [if_pos k2, key (by omega)]
            by_cases a : 0 ≤ (nodeP s.upper e.ino).attr.has <;> by_cases c : bAnd .i64 (nodeP s.upper e.ino).attr.has 4 = 0 <;> simp only [a, c, hor, if_true, if_false]
          · rw [if_neg k2]
            by_cases k3 : (nodeP s.upper e.ino).kind = 3
            · have hor : (nodeP s.upper e.ino).kind = 2 ∨ (nodeP s.upper e.ino).kind = 3 := Or.inr k3
              rw [if_pos k3, key (by omega)]
              by_cases a : 0 ≤ (nodeP s.upper e.ino).attr.has <;> by_cases c : bAnd .i64 (nodeP s.upper e.ino).attr.has 4 = 0 <;> simp only [a, c, hor, if_true, if_false]
            · rw [if_neg k3, if_neg (by omega)]
theorem xr3 {s : Stack} {e : Entry} (h : badP2 s e = false) : 1 < (nodeP s.upper e.ino).kind := by
  unfold badP2 at h
  split at h
  · cases h
  · split at h
    · cases h
    · split at h
      · cases h
      · unfold badN at h
        split at h
        · omega
        · split at h
          · omega
          · cases h
theorem xjc {α β : Type} {x : Option α} {a : α} {f : α → Option β} {r : Option β} (h : x = some a) (k : f a = r) : x.bind f = r := by rw [h]; exact k
theorem xl6 (u : index_upper) : iter (x4d u []) big ([], 0) = some [] := x4o (by simp [x4d])
theorem xa5 : iter (x3d []) big ([], 0) = some [] := x4o (by simp [x3d])
theorem x3y {s : Stack} (hs : SB s) (h3 : (nodeP s.upper 3).entries = []) (h2 : (nodeP s.upper 2).entries = []) : xoc s = some [] := by
  have e3 : xlb (openP s) 3 = some [] := by
    rw [xvo (u := openP s) hs.pbu, show (openP s).stack = s from rfl, h3, ite_self]
  have e2 : xlb (openP s) 2 = some [] := by
    rw [xvo (u := openP s) hs.pbu, show (openP s).stack = s from rfl, h2, ite_self]
  unfold xoc
  exact xjc (xmq hs) (xjc e3 (xjc (xl6 _) (xjc e2 (xjc xa5 rfl))))
theorem xeu {s : Stack} (hs : SB s) (h3 : (nodeP s.upper 3).entries = []) (ino : Int) : xwc s ino = some false := by
  unfold xwc
  rw [xmq hs]
  simp only [Option.bind_some]
  rw [xvo (u := openP s) hs.pbu]
  rw [show (openP s).stack = s from rfl, h3]
  simp only [Option.bind_some, ite_self]
  rw [x4o (r := .inl ()) (by simp [x5f])]
  simp only [Option.bind_some]
def bare (x : Node) : Node := ⟨x.kind, x.impure, x.nlink, x.gen, x.data, [], x.attr⟩
def bareS (s : Stack) (x y : Node) : Stack := ⟨s.geo, ⟨(s.upper.nodes.set 1 (bare x)).set 2 (bare y)⟩, s.lowers⟩
theorem xv4 {s : Stack} (hs : SB s) {x y : Node} (hx : x ∈ s.upper.nodes) (hy : y ∈ s.upper.nodes) : SB (bareS s x y) := by
  have hb : ∀ z ∈ s.upper.nodes, NB (bare z) := fun z hz => ⟨by simp [bare], (hs.up.2 z hz).has0, (hs.up.2 z hz).has1⟩
  refine ⟨hs.low, ⟨by simpa [bareS] using hs.up.1, fun z hz => ?_⟩, hs.lows⟩
  have hz' : z ∈ (s.upper.nodes.set 1 (bare x)).set 2 (bare y) := hz
  rcases List.mem_or_eq_of_mem_set hz' with h | h
  · rcases List.mem_or_eq_of_mem_set h with h | h
    · exact hs.up.2 z h
    · rw [h]; exact hb x hx
  · rw [h]; exact hb y hy
theorem bare_3 {s : Stack} {x y : Node} (h : 3 ≤ s.upper.nodes.length) : (nodeP (bareS s x y).upper 3).entries = [] := by
  unfold nodeP
  have hl : (bareS s x y).upper.nodes.length = s.upper.nodes.length := by simp [bareS]
  rw [if_neg (by omega), if_neg (by rw [hl]; omega)]
  have : (bareS s x y).upper.nodes[((3 : Int) - 1).toNat]? = some (bare y) := by
    show ((s.upper.nodes.set 1 (bare x)).set 2 (bare y))[2]? = _
    rw [List.getElem?_set]
    simp
    omega
  rw [this]
  rfl
theorem bare_2 {s : Stack} {x y : Node} (h : 3 ≤ s.upper.nodes.length) : (nodeP (bareS s x y).upper 2).entries = [] := by
  unfold nodeP
  have hl : (bareS s x y).upper.nodes.length = s.upper.nodes.length := by simp [bareS]
  rw [if_neg (by omega), if_neg (by rw [hl]; omega)]
  have : (bareS s x y).upper.nodes[((2 : Int) - 1).toNat]? = some (bare x) := by
    show ((s.upper.nodes.set 1 (bare x)).set 2 (bare y))[1]? = _
    rw [List.getElem?_set, if_neg (by omega), List.getElem?_set]
    simp
    omega
  rw [this]
  rfl
end Go.Proofs.YtefdlpandfhcgaaDoor.AL

/- What closed runs are told: (*walk.trail).reach and handle.Parse by their contracts. -/
set_option linter.all false
namespace Go.Proofs.YtefdlpandfhcgaaDoor.AL
open Go Go.Proofs Go.RowKit
def dInt : AV → Option Int
  | .val (.int .i64 n) => some n
  | _ => none
def dStr : AV → Option ByteArray
  | .val (.string s) => some s
  | _ => none
def dU8 : AV → Option UInt8
  | .val (.int .u8 n) => if 0 ≤ n ∧ n < 256 then some (UInt8.ofNat n.toNat) else none
  | _ => none
def dList {α : Type} (d : AV → Option α) : List AV → Option (List α)
  | [] => some []
  | x :: xs => match d x, dList d xs with
    | some y, some ys => some (y :: ys)
    | _, _ => none
def dSl {α : Type} (k : Nat) (d : AV → Option α) : AV → Option (List α)
  | .sl s xs => bif Nat.beq s k then dList d xs else none
  | .val (.slice none 0 0) => some []
  | _ => none
def dEntry : AV → Option Entry
  | .agg [a, b, c] => match dInt a, dInt b, dStr c with
    | some a, some b, some c => some ⟨a, b, c⟩
    | _, _, _ => none
  | _ => none
def dWay : AV → Option Way
  | .agg [a, b, c] => match dInt a, dInt b, dStr c with
    | some a, some b, some c => some ⟨a, b, c⟩
    | _, _, _ => none
  | _ => none
def dNode : AV → Option Node
  | .agg [a0, a1, a2, a3, a4, a5, a6, a7, a8, a9, a10, a11, a12] => match dInt a0, dInt a1, dInt a2, dInt a3, dSl 1 dU8 a4, dSl 3 dEntry a5, dInt a6, dInt a7, dStr a8, dInt a9, dInt a10, dInt a11, dInt a12 with
    | some a0, some a1, some a2, some a3, some a4, some a5, some a6, some a7, some a8, some a9, some a10, some a11, some a12 => some ⟨a0, a1, a2, a3, a4, a5, ⟨a6, a7, a8, ⟨a9, a10, a11⟩, a12⟩⟩
    | _, _, _, _, _, _, _, _, _, _, _, _, _ => none
  | _ => none
theorem xkd {x : AV} {n : Int} (h : dInt x = some n) : x = int n := by
  unfold dInt at h
  split at h
  · injection h with h; subst h; rfl
  · cases h
theorem xnq {x : AV} {n : ByteArray} (h : dStr x = some n) : x = str n := by
  unfold dStr at h
  split at h
  · injection h with h; subst h; rfl
  · cases h
theorem dU8_eq {x : AV} {n : UInt8} (h : dU8 x = some n) : x = u8 n := by
  unfold dU8 at h
  split at h
  · rename_i m
    split at h
    · rename_i hm
      injection h with h
      subst h
      simp only [u8]
      congr 2
      simp
      omega
    · cases h
  · cases h
theorem x6r {α : Type} {d : AV → Option α} {f : α → AV} (h : ∀ x y, d x = some y → Sub x (f y)) : ∀ (xs : List AV) (ys : List α), dList d xs = some ys → Subs xs (ys.map f)
  | [], ys, e => by simp only [dList, Option.some.injEq] at e; subst e; exact Subs.nil
  | x :: xs, ys, e => by
    simp only [dList] at e
    split at e
    · rename_i y ys' h1 h2
      injection e with e
      subst e
      exact Subs.cons (h x y h1) (x6r h xs ys' h2)
    · cases e
theorem xkn {α : Type} {d : AV → Option α} {f : α → AV} {k : Nat} (h : ∀ x y, d x = some y → Sub x (f y)) {x : AV} {ys : List α} (e : dSl k d x = some ys) : Sub x (.sl k (ys.map f)) := by
  unfold dSl at e
  split at e
  · rename_i s xs
    cases hb : Nat.beq s k with
    | true =>
      rw [hb] at e
      obtain rfl := Nat.eq_of_beq_eq_true hb
      exact Sub.sl (x6r h _ _ e)
    | false => rw [hb] at e; cases e
  · injection e with e; subst e; exact Sub.nilS k
  · cases e
theorem xzw {x : AV} {y : Entry} (h : dEntry x = some y) : Sub x (xk y) := by
  unfold dEntry at h
  split at h
  · rename_i a b c
    split at h
    · rename_i a' b' c' h1 h2 h3
      injection h with h
      subst h
      rw [xkd h1, xkd h2, xnq h3]
      exact Sub.refl _
    · cases h
  · cases h
theorem xu3 {x : AV} {y : Way} (h : dWay x = some y) : Sub x (encWay y) := by
  unfold dWay at h
  split at h
  · rename_i a b c
    split at h
    · rename_i a' b' c' h1 h2 h3
      injection h with h
      subst h
      rw [xkd h1, xkd h2, xnq h3]
      exact Sub.refl _
    · cases h
  · cases h
theorem x53 {x : AV} {y : UInt8} (h : dU8 x = some y) : Sub x (u8 y) := by rw [dU8_eq h]; exact Sub.refl _
theorem xqz {x : AV} {y : Node} (h : dNode x = some y) : Sub x (xd y) := by
  unfold dNode at h
  split at h
  · split at h
    · rename_i h0 h1 h2 h3 h4 h5 h6 h7 h8 h9 h10 h11 h12
      injection h with h
      subst h
      rw [xkd h0, xkd h1, xkd h2, xkd h3, xkd h6, xkd h7, xnq h8, xkd h9, xkd h10, xkd h11, xkd h12]
      exact Sub.agg (.cons (.refl _) (.cons (.refl _) (.cons (.refl _) (.cons (.refl _) (.cons (xkn (fun x y h => x53 h) h4) (.cons (xkn (fun x y h => xzw h) h5) (Subs.refl _)))))))
    · cases h
  · cases h
def xem : List AV → Option AV
  | [.ptr (.agg [ns, ws, _, _]) 0] => match dSl 13 dNode ns, dSl 3 dWay ws with
    | some ns, some ws => match xtc ⟨ns⟩ ws with
      | some r => some (.sl 1 (r.map bool))
      | none => none
    | _, _ => none
  | _ => none
theorem Sub.ptr {x y : AV} {o : Nat} (h : Sub x y) : Sub (.ptr x o) (.ptr y o) := by
  intro E u hu
  rw [VRep] at hu ⊢
  obtain ⟨v, b, o', k1, k2⟩ := hu
  exact ⟨v, b, o', h E v k1, k2⟩
theorem Sub.junk {x : AV} : Sub x .junk := fun _ _ _ => by simp only [VRep]
theorem xut {ag : List AV} {r : AV} (h : xem ag = some r) : OkN Tryd.prog 76 ag r := by
  unfold xem at h
  split at h
  · rename_i ns ws x3 x4
    split at h
    · rename_i ns' ws' h1 h2
      split at h
      · rename_i r' h3
        injection h with h
        subst h
        exact OkN.sub (xph ⟨ns'⟩ ws' x4 r' h3) (.cons (Sub.ptr (Sub.agg (.cons (xkn (fun x y h => xqz h) h1) (.cons (xkn (fun x y h => xu3 h) h2) (.cons Sub.junk (Subs.refl _)))))) .nil)
      · cases h
    · cases h
  · cases h
def xum : List AV → Option AV
  | [.val (.string s)] => match x7c s with
    | some r => some (.tup [xo r.1, bool r.2])
    | none => none
  | _ => none
theorem xzo (s : ByteArray) (r : Origin × Bool) (h : x7c s = some r) : OkN Tryd.prog 9 [str s] (.tup [xo r.1, bool r.2]) := by
  have hk := xoj s r h
  refine ⟨hk.1, fun Z w vals hZ hv => (hk.2 Z w vals hZ hv).mono ?_⟩
  rintro e w' ⟨v, rfl, hb, hr⟩
  refine ⟨v, rfl, hb, ?_⟩
  unfold xo at hr ⊢
  simp only [VRep, VReps] at hr ⊢
  exact hr
theorem xxu {ag : List AV} {r : AV} (h : xum ag = some r) : OkN Tryd.prog 9 ag r := by
  unfold xum at h
  split at h
  · rename_i s
    split at h
    · rename_i r' h3
      injection h with h
      subst h
      exact xzo s r' h3
    · cases h
  · cases h
def told (f : FuncId) : Option (List AV → Option AV) := bif Nat.beq f 76 then some xem else bif Nat.beq f 9 then some xum else none
theorem x7q : ∀ f g, told f = some g → ∀ ag r, g ag = some r → OkN Tryd.prog f ag r := by
  intro f g h ag r hr
  unfold told at h
  cases hb : Nat.beq f 76 with
  | true =>
    rw [hb] at h
    obtain rfl := Nat.eq_of_beq_eq_true hb
    simp only [cond_true, Option.some.injEq] at h
    subst h
    exact xut hr
  | false =>
    rw [hb] at h
    cases hj : Nat.beq f 9 with
    | true =>
      rw [hj] at h
      obtain rfl := Nat.eq_of_beq_eq_true hj
      simp only [cond_true, cond_false, Option.some.injEq] at h
      subst h
      exact xxu hr
    | false => rw [hj] at h; cases h
end Go.Proofs.YtefdlpandfhcgaaDoor.AL

