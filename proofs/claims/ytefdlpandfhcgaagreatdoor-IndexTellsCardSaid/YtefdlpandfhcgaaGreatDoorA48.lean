/- A law of the given program is proved: part 48 of 50. -/
import Derived.Test.YtefdlpandfhcgaaGreatDoorA47
set_option linter.all false
/- Models of functions, and that the functions are as their models: written by gen.py. -/
set_option linter.all false
set_option maxRecDepth 100000
namespace Go.Proofs.YtefdlpandfhcgaaGreatDoor.AL
open Go Go.Proofs
def xxb (a0 : List Finding) (a1 : List Finding) : Int → Option (St (Int) ((Unit) ⊕ (Bool)))
 | v4 => if v4 < (a0.length : Int) then (ix a0 v4).bind fun v8 => (ix a1 v4).bind fun v11 => if (decide (v8 = v11)) = true then some (.nx (wr (v4 + 1)))
 else some (.out (.inr false))
 else some (.out (.inl ()))
def xsb (a0 : List Finding) (a1 : List Finding) : Option (Bool) := if (a0.length : Int) = (a1.length : Int) then (iter (xxb a0 a1) big 0).bind fun o => (match o with
 | (.inl _) => some true
 | (.inr r) => some r)
 else some false
def xy := aI (aI (@EV) (aI (@R3) (@R35))) (aI (aI (@R37) (@DFinding)) (aI (@eq37) (@mixed)))
set_option maxHeartbeats 2000000 in
theorem xeg (a0 : List Finding) (a1 : List Finding) (r : Bool) (hm0 : xsb a0 a1 = some r) : Ok Tryz.prog 6 [.sl 4 (a0.map xw), .sl 4 (a1.map xw)] (bool r) := by
 unfold xsb at hm0
 refine okG xkd ?_
 unfold xic
 rcases iteE hm0 with ⟨e2, hm0⟩ | ⟨e2, hm0⟩
 · obtain ⟨o0, ho0, hm0⟩ := bsE hm0
   simp only [e2, xy, ↓EVd, isCall, sevalprocAttr]
   refine cwp_cx 0 (fun s => (.inl ()) = o0) ?_ fun J0_0 hJ0_0 => ?_
   · rintro T0 H0 x5 rfl
     try dsimp only at hm0
     obtain rfl := Option.some.inj hm0
     simp only [e2, xy, ↓EVd, isCall, sevalprocAttr]
     all_goals first | done | rfl
   refine cwp_lp ho0 (fun v4 s => s.T 0 = .sl 4 (a0.map xw) ∧ s.T 1 = .sl 4 (a1.map xw) ∧ s.T 12 = int (a0.length : Int) ∧ s.T 13 = int v4) ?_ ?_
   · refine TI.here ⟨?_, ?_, ?_, ?_⟩
     all_goals try simp only [e2, xy, ↓EVd, isCall, sevalprocAttr]
     all_goals first | omega | exact lq (by omega) | exact nq (by omega) | rfl | (congr 1; omega)
   rintro I0 v4 T0 H0 x3 st0 kk0 hm1 hI0 hO0
   dsimp only [Lq, Nq] at kk0
   simp only [xxb] at hm1
   rcases iteE hm1 with ⟨e7, hm1⟩ | ⟨e7, hm1⟩
   · obtain ⟨v8, e10, hm1⟩ := ixE xw hm1
     obtain ⟨v11, e13, hm1⟩ := ixE xw hm1
     rcases itbE hm1 with ⟨e15, hm1⟩ | ⟨e15, hm1⟩
     · obtain rfl := Option.some.inj hm1
       simp only [kk0, e2, e7, e10, e13, e15, xy, ↓EVd, isCall, sevalprocAttr]
       refine TI.here (hI0 _ rfl _ ⟨?_, ?_, ?_, ?_⟩)
       all_goals try simp only [kk0, e2, e7, e10, e13, e15, xy, ↓EVd, isCall, sevalprocAttr]
       all_goals first | omega | exact lq (by omega) | exact nq (by omega) | rfl | (congr 1; omega)
     obtain rfl := Option.some.inj hm1
     obtain rfl := hO0 _ rfl
     try dsimp only at hm0
     obtain rfl := Option.some.inj hm0
     simp only [kk0, e2, e7, e10, e13, e15, xy, ↓EVd, isCall, sevalprocAttr]
     all_goals first | done | rfl
   obtain rfl := Option.some.inj hm1
   simp only [kk0, e2, e7, xy, ↓EVd, isCall, sevalprocAttr]
   refine TI.here (hJ0_0 _ (hO0 _ rfl))
 obtain rfl := Option.some.inj hm0
 simp only [e2, xy, ↓EVd, isCall, sevalprocAttr]
 all_goals first | done | rfl
def x3c (a0 : index_upper) (a1 : Int) : Option (Node) := if a1 < 1 then some (⟨0, 0, 0, 0, [], [], (⟨0, 0, xq, (⟨0, 0, 0⟩ : Origin), 0⟩ : Attr)⟩ : Node)
 else if (a0.stack.upper.nodes.length : Int) < a1 then some (⟨0, 0, 0, 0, [], [], (⟨0, 0, xq, (⟨0, 0, 0⟩ : Origin), 0⟩ : Attr)⟩ : Node)
 else (ix a0.stack.upper.nodes (wr (a1 - 1))).bind fun v5 => some v5
def xdh := aI (aI (aI (@EV) (aI (@R3) (@R24))) (aI (aI (@R26) (@R29)) (aI (@R52) (@R55)))) (aI (aI (@DBranch) (aI (@DStack) (@DEntry))) (aI (aI (@DOrigin) (@DAttr)) (aI (@DNode) (@xsf))))
set_option maxHeartbeats 2000000 in
theorem xxi (a0 : index_upper) (a1 : Int) (r : Node) (hm0 : x3c a0 a1 = some r) : Ok Tryz.prog 32 [xhb a0, int a1] (xj r) := by
 unfold x3c at hm0
 refine okG x0i ?_
 unfold xbh
 rcases iteE hm0 with ⟨e2, hm0⟩ | ⟨e2, hm0⟩
 · obtain rfl := Option.some.inj hm0
   simp only [e2, xdh, ↓EVd, isCall, sevalprocAttr]
   all_goals first | done | rfl | exact xc (by simp only [CLO]) | exact xn (by simp only [CLO]) (Sub.agg (Subs.cons (Sub.refl _) (Subs.cons (Sub.refl _) (Subs.cons (Sub.refl _) (Subs.cons (Sub.refl _) (Subs.cons (Sub.nilS _) (Subs.cons (Sub.nilS _) (Subs.cons (Sub.refl _) (Subs.cons (Sub.refl _) (Subs.cons (Sub.refl _) (Subs.cons (Sub.refl _) (Subs.cons (Sub.refl _) (Subs.cons (Sub.refl _) (Subs.cons (Sub.refl _) (Subs.nil)))))))))))))))
 rcases iteE hm0 with ⟨e4, hm0⟩ | ⟨e4, hm0⟩
 · obtain rfl := Option.some.inj hm0
   simp only [e2, e4, xdh, ↓EVd, isCall, sevalprocAttr]
   all_goals first | done | rfl | exact xc (by simp only [CLO]) | exact xn (by simp only [CLO]) (Sub.agg (Subs.cons (Sub.refl _) (Subs.cons (Sub.refl _) (Subs.cons (Sub.refl _) (Subs.cons (Sub.refl _) (Subs.cons (Sub.nilS _) (Subs.cons (Sub.nilS _) (Subs.cons (Sub.refl _) (Subs.cons (Sub.refl _) (Subs.cons (Sub.refl _) (Subs.cons (Sub.refl _) (Subs.cons (Sub.refl _) (Subs.cons (Sub.refl _) (Subs.cons (Sub.refl _) (Subs.nil)))))))))))))))
 obtain ⟨v5, e7, hm0⟩ := ixE xj hm0
 obtain rfl := Option.some.inj hm0
 simp only [e2, e4, e7, xdh, ↓EVd, isCall, sevalprocAttr]
 all_goals first | done | rfl | exact xc (by simp only [CLO])
def xtc (a0 : index_upper) (a1 : Entry) : Option (Bool) := (xtd a1.name).bind fun v1 => if (!v1.2) = true then some true
 else (xbg a0.stack v1.1).bind fun v5 => if (!v5.2) = true then some true
 else if v5.1.kind = 1 then some true
 else (x3c a0 a1.ino).bind fun v11 => if v11.kind = 4 then some false
 else if v11.kind = 2 then if 0 ≤ v11.attr.has then if (bAnd .i64 v11.attr.has 4) = 0 then some true
 else (xde v11.attr.origin v1.1).bind fun v21 => if (!v21) = true then some true
 else (ix a0.tree (wr (a1.ino - 1))).bind fun v25 => some (!v25)
 else some true
 else if v11.kind = 3 then if 0 ≤ v11.attr.has then if (bAnd .i64 v11.attr.has 4) = 0 then some true
 else (xde v11.attr.origin v1.1).bind fun v34 => if (!v34) = true then some true
 else (ix a0.tree (wr (a1.ino - 1))).bind fun v38 => some (!v38)
 else some true
 else some true
def xbb := aI (aI (aI (aI (@EV) (@R3)) (aI (@R4) (@R9))) (aI (aI (@R29) (@R31)) (aI (@R48) (aI (@R50) (@R52))))) (aI (aI (aI (@R53) (@R55)) (aI (@DBranch) (@DStack))) (aI (aI (@DEntry) (@DOrigin)) (aI (@DAttr) (aI (@DNode) (@xsf)))))
set_option maxHeartbeats 2000000 in
theorem xyg (a0 : index_upper) (a1 : Entry) (r : Bool) (hm0 : xtc a0 a1 = some r) : Ok Tryz.prog 19 [xhb a0, xd a1] (bool r) := by
 unfold xtc at hm0
 refine okG xjj ?_
 unfold xsh
 obtain ⟨v1, h2, hm0⟩ := bsE hm0
 simp only [xbb, ↓EVd, isCall, sevalprocAttr]
 refine qc (x3k _ _ h2) rfl ?_
 rcases itbE hm0 with ⟨e4, hm0⟩ | ⟨e4, hm0⟩
 · obtain rfl := Option.some.inj hm0
   simp only [e4, xbb, ↓EVd, isCall, sevalprocAttr]
   all_goals first | done | rfl
 obtain ⟨v5, h6, hm0⟩ := bsE hm0
 simp only [e4, xbb, ↓EVd, isCall, sevalprocAttr]
 refine qc (xyt _ _ _ h6) rfl ?_
 rcases itbE hm0 with ⟨e8, hm0⟩ | ⟨e8, hm0⟩
 · obtain rfl := Option.some.inj hm0
   simp only [e4, e8, xbb, ↓EVd, isCall, sevalprocAttr]
   all_goals first | done | rfl
 rcases iteE hm0 with ⟨e10, hm0⟩ | ⟨e10, hm0⟩
 · obtain rfl := Option.some.inj hm0
   simp only [e4, e8, e10, xbb, ↓EVd, isCall, sevalprocAttr]
   all_goals first | done | rfl
 obtain ⟨v11, h12, hm0⟩ := bsE hm0
 simp only [e4, e8, e10, xbb, ↓EVd, isCall, sevalprocAttr]
 refine qc (xxi _ _ _ h12) rfl ?_
 rcases iteE hm0 with ⟨e14, hm0⟩ | ⟨e14, hm0⟩
 · obtain rfl := Option.some.inj hm0
   simp only [e4, e8, e10, e14, xbb, ↓EVd, isCall, sevalprocAttr]
   all_goals first | done | rfl
 rcases iteE hm0 with ⟨e16, hm0⟩ | ⟨e16, hm0⟩
 · rcases iteE hm0 with ⟨e18, hm0⟩ | ⟨e18, hm0⟩
   · rcases iteE hm0 with ⟨e20, hm0⟩ | ⟨e20, hm0⟩
     · obtain rfl := Option.some.inj hm0
       simp only [e4, e8, e10, e14, e16, e18, e20, xbb, ↓EVd, isCall, sevalprocAttr]
       all_goals first | done | rfl
     obtain ⟨v21, h22, hm0⟩ := bsE hm0
     simp only [e4, e8, e10, e14, e16, e18, e20, xbb, ↓EVd, isCall, sevalprocAttr]
     refine qc (x5l _ _ _ h22) rfl ?_
     rcases itbE hm0 with ⟨e24, hm0⟩ | ⟨e24, hm0⟩
     · obtain rfl := Option.some.inj hm0
       simp only [e4, e8, e10, e14, e16, e18, e20, e24, xbb, ↓EVd, isCall, sevalprocAttr]
       all_goals first | done | rfl
     obtain ⟨v25, e27, hm0⟩ := ixE bool hm0
     obtain rfl := Option.some.inj hm0
     simp only [e4, e8, e10, e14, e16, e18, e20, e24, e27, xbb, ↓EVd, isCall, sevalprocAttr]
     all_goals first | done | rfl
   obtain rfl := Option.some.inj hm0
   simp only [e4, e8, e10, e14, e16, e18, xbb, ↓EVd, isCall, sevalprocAttr]
   all_goals first | done | rfl
 rcases iteE hm0 with ⟨e29, hm0⟩ | ⟨e29, hm0⟩
 · rcases iteE hm0 with ⟨e31, hm0⟩ | ⟨e31, hm0⟩
   · rcases iteE hm0 with ⟨e33, hm0⟩ | ⟨e33, hm0⟩
     · obtain rfl := Option.some.inj hm0
       simp only [e4, e8, e10, e14, e16, e29, e31, e33, xbb, ↓EVd, isCall, sevalprocAttr]
       all_goals first | done | rfl
     have g41 := And.intro (And.intro (And.intro ((e4)) ((e8))) (And.intro ((e10)) ((e14)))) (And.intro (And.intro ((e16)) ((e29))) (And.intro ((e31)) ((e33))))
     obtain ⟨v34, h35, hm0⟩ := bsE hm0
     simp only [g41, xbb, ↓EVd, isCall, sevalprocAttr]
     refine qc (x5l _ _ _ h35) rfl ?_
     rcases itbE hm0 with ⟨e37, hm0⟩ | ⟨e37, hm0⟩
     · obtain rfl := Option.some.inj hm0
       simp only [g41, e37, xbb, ↓EVd, isCall, sevalprocAttr]
       all_goals first | done | rfl
     obtain ⟨v38, e40, hm0⟩ := ixE bool hm0
     obtain rfl := Option.some.inj hm0
     simp only [g41, e37, e40, xbb, ↓EVd, isCall, sevalprocAttr]
     all_goals first | done | rfl
   obtain rfl := Option.some.inj hm0
   simp only [e4, e8, e10, e14, e16, e29, e31, xbb, ↓EVd, isCall, sevalprocAttr]
   all_goals first | done | rfl
 obtain rfl := Option.some.inj hm0
 simp only [e4, e8, e10, e14, e16, e29, xbb, ↓EVd, isCall, sevalprocAttr]
 all_goals first | done | rfl
def xxh (a0 : Stack) (a1 : Entry) : Option (Bool) := (xve a0).bind fun v1 => (xtc v1 a1).bind fun v3 => some v3
def xsl := aI (aI (aI (@EV) (aI (@R29) (@R31))) (aI (@R55) (aI (@DBranch) (@DStack)))) (aI (aI (@DEntry) (aI (@DOrigin) (@DAttr))) (aI (@DNode) (aI (@xsf) (@mixed))))
set_option maxHeartbeats 2000000 in
theorem xyw (a0 : Stack) (a1 : Entry) (r : Bool) (hm0 : xxh a0 a1 = some r) : Ok Tryz.prog 9 [xnb a0, xd a1] (bool r) := by
 unfold xxh at hm0
 refine okG xeo ?_
 unfold xul
 obtain ⟨v1, h2, hm0⟩ := bsE hm0
 simp only [xsl, ↓EVd, isCall, sevalprocAttr]
 refine qd (xqj _ _ h2) rfl ?_
 obtain ⟨v3, h4, hm0⟩ := bsE hm0
 simp only [xsl, ↓EVd, isCall, sevalprocAttr]
 refine qd (xyg _ _ _ h4) rfl ?_
 obtain rfl := Option.some.inj hm0
 simp only [xsl, ↓EVd, isCall, sevalprocAttr]
 all_goals first | done | rfl
def x3b (a0 : index_upper) (a1 : Int) : Option (List Entry) := (x3c a0 a1).bind fun v1 => if v1.kind = 1 then some v1.entries
 else some []
def xof := aI (aI (aI (@EV) (aI (@R3) (@R31))) (aI (@R45) (aI (@R52) (@R55)))) (aI (aI (@DBranch) (aI (@DStack) (@DEntry))) (aI (aI (@DOrigin) (@DAttr)) (aI (@DNode) (@xsf))))
set_option maxHeartbeats 2000000 in
theorem x7e (a0 : index_upper) (a1 : Int) (r : List Entry) (hm0 : x3b a0 a1 = some r) : Ok Tryz.prog 18 [xhb a0, int a1] (.sl 3 (r.map xd)) := by
 unfold x3b at hm0
 refine okG xuh ?_
 unfold xqf
 obtain ⟨v1, h2, hm0⟩ := bsE hm0
 simp only [xof, ↓EVd, isCall, sevalprocAttr]
 refine qc (xxi _ _ _ h2) rfl ?_
 rcases iteE hm0 with ⟨e4, hm0⟩ | ⟨e4, hm0⟩
 · obtain rfl := Option.some.inj hm0
   simp only [e4, xof, ↓EVd, isCall, sevalprocAttr]
   all_goals first | done | rfl | exact xc (by simp only [CLO])
 obtain rfl := Option.some.inj hm0
 simp only [e4, xof, ↓EVd, isCall, sevalprocAttr]
 all_goals first | done | rfl | exact xn (by simp only [CLO]) (Sub.nilS _)
def x5e (a1 : Int) (v1 : index_upper) (v3 : List Entry) : Int → Option (St (Int) ((Unit) ⊕ (Bool)))
 | v6 => if v6 < (v3.length : Int) then (ix v3 v6).bind fun v10 => if v10.ino = a1 then (xtc v1 v10).bind fun v15 => if (!v15) = true then some (.out (.inr true))
 else some (.nx (wr (v6 + 1)))
 else some (.nx (wr (v6 + 1)))
 else some (.out (.inl ()))
def x9c (a0 : Stack) (a1 : Int) : Option (Bool) := (xve a0).bind fun v1 => (x3b v1 3).bind fun v3 => (iter (x5e a1 v1 v3) big 0).bind fun o => (match o with
 | (.inl _) => some false
 | (.inr r) => some r)
def x1b := aI (aI (aI (@EV) (aI (@R3) (@R29))) (aI (@R31) (aI (@R45) (@R55)))) (aI (aI (@DBranch) (aI (@DStack) (@DEntry))) (aI (aI (@DOrigin) (@DAttr)) (aI (@DNode) (@xsf))))
set_option maxHeartbeats 2000000 in
theorem x7j (a0 : Stack) (a1 : Int) (r : Bool) (hm0 : x9c a0 a1 = some r) : Ok Tryz.prog 11 [xnb a0, int a1] (bool r) := by
 unfold x9c at hm0
 refine okG xrk ?_
 unfold xhi
 obtain ⟨v1, h2, hm0⟩ := bsE hm0
 simp only [x1b, ↓EVd, isCall, sevalprocAttr]
 refine qc (xqj _ _ h2) rfl ?_
 obtain ⟨v3, h4, hm0⟩ := bsE hm0
 simp only [x1b, ↓EVd, isCall, sevalprocAttr]
 refine qc (x7e _ _ _ h4) rfl ?_
 obtain ⟨o0, ho0, hm0⟩ := bsE hm0
 simp only [x1b, ↓EVd, isCall, sevalprocAttr]
 refine cwp_cx 0 (fun s => (.inl ()) = o0) ?_ fun J0_0 hJ0_0 => ?_
 · rintro T0 H0 x7 rfl
   try dsimp only at hm0
   obtain rfl := Option.some.inj hm0
   simp only [x1b, ↓EVd, isCall, sevalprocAttr]
   all_goals first | done | rfl
 refine cwp_lp ho0 (fun v6 s => s.T 1 = int a1 ∧ s.T 5 = .loc 4 7 0 0 ∧ s.T 11 = .sl 3 (v3.map xd) ∧ s.T 12 = int (v3.length : Int) ∧ s.T 13 = int v6 ∧ s.H 4 = some (.row 55 7 [xhb v1]) ∧ Lq 4 s.nx) ?_ ?_
 · refine TI.here ⟨?_, ?_, ?_, ?_, ?_, ?_, ?_⟩
   all_goals try simp only [x1b, ↓EVd, isCall, sevalprocAttr]
   all_goals first | omega | exact lq (by omega) | exact nq (by omega) | rfl | (congr 1; omega)
 rintro I0 v6 T0 H0 x5 st0 kk0 hm1 hI0 hO0
 dsimp only [Lq, Nq] at kk0
 simp only [x5e] at hm1
 rcases iteE hm1 with ⟨e9, hm1⟩ | ⟨e9, hm1⟩
 · obtain ⟨v10, e12, hm1⟩ := ixE xd hm1
   rcases iteE hm1 with ⟨e14, hm1⟩ | ⟨e14, hm1⟩
   · obtain ⟨v15, h16, hm1⟩ := bsE hm1
     simp only [kk0, e9, e12, e14, x1b, ↓EVd, isCall, sevalprocAttr]
     refine qc (xyg _ _ _ h16) rfl ?_
     rcases itbE hm1 with ⟨e18, hm1⟩ | ⟨e18, hm1⟩
     · obtain rfl := Option.some.inj hm1
       obtain rfl := hO0 _ rfl
       try dsimp only at hm0
       obtain rfl := Option.some.inj hm0
       simp only [kk0, e9, e12, e14, e18, x1b, ↓EVd, isCall, sevalprocAttr]
       all_goals first | done | rfl
     obtain rfl := Option.some.inj hm1
     simp only [kk0, e9, e12, e14, e18, x1b, ↓EVd, isCall, sevalprocAttr]
     refine TI.here (hI0 _ rfl _ ⟨?_, ?_, ?_, ?_, ?_, ?_, ?_⟩)
     all_goals try simp only [kk0, e9, e12, e14, e18, x1b, ↓EVd, isCall, sevalprocAttr]
     all_goals first | omega | exact lq (by omega) | exact nq (by omega) | rfl | (congr 1; omega)
   obtain rfl := Option.some.inj hm1
   simp only [kk0, e9, e12, e14, x1b, ↓EVd, isCall, sevalprocAttr]
   refine TI.here (hI0 _ rfl _ ⟨?_, ?_, ?_, ?_, ?_, ?_, ?_⟩)
   all_goals try simp only [kk0, e9, e12, e14, x1b, ↓EVd, isCall, sevalprocAttr]
   all_goals first | omega | exact lq (by omega) | exact nq (by omega) | rfl | (congr 1; omega)
 obtain rfl := Option.some.inj hm1
 simp only [kk0, e9, x1b, ↓EVd, isCall, sevalprocAttr]
 refine TI.here (hJ0_0 _ (hO0 _ rfl))
def xxe (v1 : index_upper) (v3 : List Entry) : (List Finding × Int) → Option (St (List Finding × Int) (List Finding))
 | (v7, v8) => if v8 < (v3.length : Int) then (ix v3 v8).bind fun v14 => (xtc v1 v14).bind fun v17 => if v17 = true then (ap 32 v7 ([(⟨16, 0, 3, v14.slot⟩ : Finding)] : List Finding)).bind fun _ => some (.nx ((v7 ++ ([(⟨16, 0, 3, v14.slot⟩ : Finding)] : List Finding)), (wr (v8 + 1))))
 else some (.nx (v7, (wr (v8 + 1))))
 else some (.out v7)
def xyi (v26 : List Entry) : (List Finding × Int) → Option (St (List Finding × Int) (List Finding))
 | (v30, v31) => if v31 < (v26.length : Int) then (ix v26 v31).bind fun v37 => (ap 32 v30 ([(⟨17, 0, 2, v37.slot⟩ : Finding)] : List Finding)).bind fun _ => some (.nx ((v30 ++ ([(⟨17, 0, 2, v37.slot⟩ : Finding)] : List Finding)), (wr (v31 + 1))))
 else some (.out v30)
def xqe (a0 : Stack) : Option (List Finding) := (xve a0).bind fun v1 => (x3b v1 3).bind fun v3 => (iter (xxe v1 v3) big ([], 0)).bind fun o => (match o with
 | v11 => (x3b v1 2).bind fun v26 => (iter (xyi v26) big (v11, 0)).bind fun o => (match o with
 | v34 => some v34))
def xx := aI (aI (aI (aI (@EV) (@R3)) (aI (@R29) (@R31))) (aI (aI (@R35) (@R37)) (aI (@R45) (@R55)))) (aI (aI (aI (@DBranch) (@DStack)) (aI (@DEntry) (@DFinding))) (aI (aI (@DOrigin) (@DAttr)) (aI (@DNode) (@xsf))))
set_option maxHeartbeats 2000000 in
theorem x4p (a0 : Stack) (r : List Finding) (hm0 : xqe a0 = some r) : Ok Tryz.prog 7 [xnb a0] (.sl 4 (r.map xw)) := by
 unfold xqe at hm0
 refine okG xrj ?_
 unfold x1h
 obtain ⟨v1, h2, hm0⟩ := bsE hm0
 simp only [xx, ↓EVd, isCall, sevalprocAttr]
 refine qc (xqj _ _ h2) rfl ?_
 obtain ⟨v3, h4, hm0⟩ := bsE hm0
 simp only [xx, ↓EVd, isCall, sevalprocAttr]
 refine qc (x7e _ _ _ h4) rfl ?_
 obtain ⟨o0, ho0, hm0⟩ := bsE hm0
 simp only [xx, ↓EVd, isCall, sevalprocAttr]
 refine cwp_cx 0 (fun s => ∃ v11 : List Finding, ∃ l10 : Nat, (s.T 3 = .loc 4 7 0 0 ∧ s.T 4 = .msl l10 v11.length ∧ s.H 4 = some (.row 55 7 [xhb v1]) ∧ s.H l10 = some (.row 37 4 (v11.map xw)) ∧ Lq 4 s.nx ∧ Lq l10 s.nx ∧ Nq 4 l10) ∧ v11 = o0) ?_ fun J0_0 hJ0_0 => ?_
 · rintro T0 H0 x9 ⟨v11, l10, kk0_0, rfl⟩
   dsimp only [Lq, Nq] at kk0_0
   try dsimp only at hm0
   obtain ⟨v26, h27, hm0⟩ := bsE hm0
   simp only [kk0_0, xx, ↓EVd, isCall, sevalprocAttr]
   refine qc (x7e _ _ _ h27) rfl ?_
   obtain ⟨o1, ho1, hm0⟩ := bsE hm0
   simp only [kk0_0, xx, ↓EVd, isCall, sevalprocAttr]
   refine cwp_cx 2 (fun s => ∃ v34 : List Finding, ∃ l33 : Nat, (s.T 4 = .msl l33 v34.length ∧ s.H l33 = some (.row 37 4 (v34.map xw)) ∧ Lq l33 s.nx) ∧ v34 = o1) ?_ fun J1_0 hJ1_0 => ?_
   · rintro T1 H1 x32 ⟨v34, l33, kk1_0, rfl⟩
     dsimp only [Lq, Nq] at kk1_0
     try dsimp only at hm0
     obtain rfl := Option.some.inj hm0
     simp only [kk1_0, xx, ↓EVd, isCall, sevalprocAttr]
     all_goals first | done | rfl | exact frzR_e (by simp only [kk1_0, FZ, CLO, xx, ↓EVd, isCall, sevalprocAttr])
   refine cwp_lp ho1 (fun (v30, v31) s => ∃ l29 : Nat, s.T 4 = .msl l29 v30.length ∧ s.T 29 = .sl 3 (v26.map xd) ∧ s.T 30 = int (v26.length : Int) ∧ s.T 31 = int v31 ∧ s.H l29 = some (.row 37 4 (v30.map xw)) ∧ Lq l29 s.nx) ?_ ?_
   · refine TI.here ⟨l10, ?_, ?_, ?_, ?_, ?_, ?_⟩
     all_goals try simp only [kk0_0, xx, ↓EVd, isCall, sevalprocAttr]
     all_goals first | omega | exact lq (by omega) | exact nq (by omega) | rfl | (congr 1; omega)
   rintro I1 ⟨v30, v31⟩ T1 H1 x28 st1 ⟨l29, kk1⟩ hm1 hI1 hO1
   dsimp only [Lq, Nq] at kk1
   simp only [xyi] at hm1
   rcases iteE hm1 with ⟨e36, hm1⟩ | ⟨e36, hm1⟩
   · obtain ⟨v37, e39, hm1⟩ := ixE xd hm1
     have e40 : (.agg [int 17, int 0, int 2, int v37.slot] : AV) = xw (⟨17, 0, 2, v37.slot⟩ : Finding) := _root_.id rfl
     obtain ⟨e43, hm1⟩ := apE hm1
     try simp only [ZL] at e43
     obtain rfl := Option.some.inj hm1
     simp only [kk1, e36, e39, e40, e43, xx, ↓EVd, isCall, sevalprocAttr]
     refine TI.here (hI1 _ rfl _ ⟨(x28 + 10), ?_, ?_, ?_, ?_, ?_, ?_⟩)
     all_goals try simp only [kk1, e36, e39, e40, e43, xx, ↓EVd, isCall, sevalprocAttr]
     all_goals first | omega | exact lq (by omega) | exact nq (by omega) | rfl | (congr 1; omega)
   obtain rfl := Option.some.inj hm1
   simp only [kk1, e36, xx, ↓EVd, isCall, sevalprocAttr]
   refine TI.here (hJ1_0 _ ⟨v30, l29, ⟨?_, ?_, ?_⟩, hO1 _ rfl⟩)
   all_goals try simp only [kk1, e36, xx, ↓EVd, isCall, sevalprocAttr]
   all_goals first | omega | exact lq (by omega) | exact nq (by omega) | rfl | (congr 1; omega)
 refine cwp_lp ho0 (fun (v7, v8) s => ∃ l6 : Nat, s.T 3 = .loc 4 7 0 0 ∧ s.T 4 = .msl l6 v7.length ∧ s.T 12 = .sl 3 (v3.map xd) ∧ s.T 13 = int (v3.length : Int) ∧ s.T 14 = int v8 ∧ s.H 4 = some (.row 55 7 [xhb v1]) ∧ s.H l6 = some (.row 37 4 (v7.map xw)) ∧ Lq 4 s.nx ∧ Lq l6 s.nx ∧ Nq 4 l6) ?_ ?_
 · refine TI.by (Tn.adopt 4 37 4 (by simp only [xx, ↓EVd, isCall, sevalprocAttr])) ?_
   refine TI.here ⟨11, ?_, ?_, ?_, ?_, ?_, ?_, ?_, ?_, ?_, ?_⟩
   all_goals try simp only [xx, ↓EVd, isCall, sevalprocAttr]
   all_goals first | omega | exact lq (by omega) | exact nq (by omega) | rfl | (congr 1; omega)
 rintro I0 ⟨v7, v8⟩ T0 H0 x5 st0 ⟨l6, kk0⟩ hm1 hI0 hO0
 dsimp only [Lq, Nq] at kk0
 simp only [xxe] at hm1
 rcases iteE hm1 with ⟨e13, hm1⟩ | ⟨e13, hm1⟩
 · obtain ⟨v14, e16, hm1⟩ := ixE xd hm1
   obtain ⟨v17, h18, hm1⟩ := bsE hm1
   simp only [kk0, e13, e16, xx, ↓EVd, isCall, sevalprocAttr]
   refine qc (xyg _ _ _ h18) rfl ?_
   rcases itbE hm1 with ⟨e20, hm1⟩ | ⟨e20, hm1⟩
   · have e21 : (.agg [int 16, int 0, int 3, int v14.slot] : AV) = xw (⟨16, 0, 3, v14.slot⟩ : Finding) := _root_.id rfl
     obtain ⟨e24, hm1⟩ := apE hm1
     try simp only [ZL] at e24
     obtain rfl := Option.some.inj hm1
     simp only [kk0, e13, e16, e20, e21, e24, xx, ↓EVd, isCall, sevalprocAttr]
     refine TI.here (hI0 _ rfl _ ⟨(x5 + 13), ?_, ?_, ?_, ?_, ?_, ?_, ?_, ?_, ?_, ?_⟩)
     all_goals try simp only [kk0, e13, e16, e20, e21, e24, xx, ↓EVd, isCall, sevalprocAttr]
     all_goals first | omega | exact lq (by omega) | exact nq (by omega) | rfl | (congr 1; omega)
   obtain rfl := Option.some.inj hm1
   simp only [kk0, e13, e16, e20, xx, ↓EVd, isCall, sevalprocAttr]
   refine TI.here (hI0 _ rfl _ ⟨l6, ?_, ?_, ?_, ?_, ?_, ?_, ?_, ?_, ?_, ?_⟩)
   all_goals try simp only [kk0, e13, e16, e20, xx, ↓EVd, isCall, sevalprocAttr]
   all_goals first | omega | exact lq (by omega) | exact nq (by omega) | rfl | (congr 1; omega)
 obtain rfl := Option.some.inj hm1
 simp only [kk0, e13, xx, ↓EVd, isCall, sevalprocAttr]
 refine TI.here (hJ0_0 _ ⟨v7, l6, ⟨?_, ?_, ?_, ?_, ?_, ?_, ?_⟩, hO0 _ rfl⟩)
 all_goals try simp only [kk0, e13, xx, ↓EVd, isCall, sevalprocAttr]
 all_goals first | omega | exact lq (by omega) | exact nq (by omega) | rfl | (congr 1; omega)
end Go.Proofs.YtefdlpandfhcgaaGreatDoor.AL

/- Plain laws of chapter 23: the index; without entries nothing is found. -/
set_option linter.all false
namespace Go.Proofs.YtefdlpandfhcgaaGreatDoor.AL
open Go Go.Proofs Go.Lib
theorem SB.pbu {s : Stack} (hs : SB s) : PB s.upper := ⟨hs.up.1, fun x hx => (hs.up.2 x hx).ents⟩
def openP (s : Stack) : index_upper := ⟨s, reachP s.upper [1]⟩
theorem xdt {s : Stack} (hs : SB s) : xve s = some (openP s) := by
  unfold xve
  rw [xaw hs.pbu (by simp)]
  rfl
theorem xpx {u : index_upper} (hb : PB u.stack.upper) (ino : Int) : x3c u ino = some (nodeP u.stack.upper ino) := by
  unfold x3c
  by_cases h1 : ino < 1
  · rw [if_pos h1, xhe (.inl h1)]; rfl
  · rw [if_neg h1]
    by_cases h2 : (u.stack.upper.nodes.length : Int) < ino
    · rw [if_pos h2, xhe (.inr h2)]; rfl
    · rw [if_neg h2, xwk h1 h2 hb.len]; rfl
theorem x65 {u : index_upper} (hb : PB u.stack.upper) (ino : Int) : x3b u ino = some (if (nodeP u.stack.upper ino).kind = 1 then (nodeP u.stack.upper ino).entries else []) := by
  unfold x3b
  rw [xpx hb]
  simp only [Option.bind_some]
  split <;> rfl
theorem xt5 (o p : Origin) : xde o p = some (decide (o = p)) := by
  unfold xde
  by_cases h : o = p <;> simp [h]
def badN (s : Stack) (e : Entry) (o : Origin) (x : Node) : Bool :=
  if x.kind = 4 then false
  else if x.kind = 2 ∨ x.kind = 3 then
    if 0 ≤ x.attr.has then if bAnd .i64 x.attr.has 4 = 0 then true else if x.attr.origin = o then !((reachP s.upper [1])[(e.ino - 1).toNat]?.getD false) else true
    else true
  else true
def badP2 (s : Stack) (e : Entry) : Bool :=
  if (parseH e.name.data.toList).2 = false then true
  else if (findN s (parseH e.name.data.toList).1).2 = false then true
  else if (findN s (parseH e.name.data.toList).1).1.kind = 1 then true
  else badN s e (parseH e.name.data.toList).1 (nodeP s.upper e.ino)
theorem xs0 {b : Branch} {ino : Int} (h : (nodeP b ino).kind ≠ 0) : 1 ≤ ino ∧ ino ≤ (b.nodes.length : Int) := by
  rcases Int.lt_or_le ino 1 with h1 | h1
  · rw [xhe (.inl h1)] at h; exact absurd rfl h
  · rcases Int.lt_or_le (b.nodes.length : Int) ino with h2 | h2
    · rw [xhe (.inr h2)] at h; exact absurd rfl h
    · exact ⟨h1, h2⟩
theorem xdz {s : Stack} (hs : SB s) {ino : Int} (h : (nodeP s.upper ino).kind ≠ 0) : ix (openP s).tree (wr (ino - 1)) = some ((reachP s.upper [1])[(ino - 1).toNat]?.getD false) := by
  obtain ⟨h1, h2⟩ := xs0 h
  have hn := hs.up.1
  have hl := x70 s.upper [1]
  rw [wr_in (n := ino - 1) (by omega) (by omega)]
  show ix (reachP s.upper [1]) (ino - 1) = _
  rw [ix_of (by omega) (by omega), List.getElem?_eq_getElem (by omega)]
  rfl
theorem bad_eq {s : Stack} (hs : SB s) (e : Entry) : xtc (openP s) e = some (badP2 s e) := by
  unfold xtc badP2
  obtain ⟨t, ht⟩ := bB_eq e.name
  have ht2 : e.name.data.toList = t := by rw [ht]; rfl
  rw [ht2]
  rw [ht, x9x]
  simp only [Option.bind_some]
  generalize parseH t = pr
  obtain ⟨o, pb⟩ := pr
  cases pb with
  | false => simp
  | true =>
    simp only [Bool.not_true, Bool.false_eq_true, if_false, Bool.true_eq_false]
    rw [show (openP s).stack = s from rfl, x34 hs]
    simp only [Option.bind_some]
    generalize findN s o = fr
    obtain ⟨y, fb⟩ := fr
    cases fb with
    | false => simp
    | true =>
      simp only [Bool.not_true, Bool.false_eq_true, if_false, Bool.true_eq_false]
      by_cases hy : y.kind = 1
      · rw [if_pos hy, if_pos hy]
      · rw [if_neg hy, if_neg hy, xpx hs.pbu]
        simp only [Option.bind_some]
        rw [show (openP s).stack = s from rfl]
        unfold badN
        by_cases k4 : (nodeP s.upper e.ino).kind = 4
        · rw [if_pos k4, if_pos k4]
        · rw [if_neg k4, if_neg k4]
          have key : (nodeP s.upper e.ino).kind ≠ 0 → ∀ o' : Origin, ((xde o' o).bind fun v21 => if (!v21) = true then some true else (ix (openP s).tree (wr (e.ino - 1))).bind fun v25 => some (!v25)) = some (if o' = o then !((reachP s.upper [1])[(e.ino - 1).toNat]?.getD false) else true) := by
            intro hk o'
            rw [xt5, xdz hs hk]
            by_cases h : o' = o <;> simp [h]
          by_cases k2 : (nodeP s.upper e.ino).kind = 2
          · have hor : (nodeP s.upper e.ino).kind = 2 ∨ (nodeP s.upper e.ino).kind = 3 := Or.inl k2
            rw [if_pos k2, key (by omega)]
            by_cases a : 0 ≤ (nodeP s.upper e.ino).attr.has <;> by_cases c : bAnd .i64 (nodeP s.upper e.ino).attr.has 4 = 0 <;> simp only [a, c, hor, if_true, if_false]
          · rw [if_neg k2]
            by_cases k3 : (nodeP s.upper e.ino).kind = 3
            · have hor : (nodeP s.upper e.ino).kind = 2 ∨ (nodeP s.upper e.ino).kind = 3 := Or.inr k3
              rw [if_pos k3, key (by omega)]
              by_cases a : 0 ≤ (nodeP s.upper e.ino).attr.has <;> by_cases c : bAnd .i64 (nodeP s.upper e.ino).attr.has 4 = 0 <;> simp only [a, c, hor, if_true, if_false]
            · rw [if_neg k3, if_neg (by omega)]
theorem xzb {α β : Type} {x : Option α} {a : α} {f : α → Option β} {r : Option β} (h : x = some a) (k : f a = r) : x.bind f = r := by rw [h]; exact k
end Go.Proofs.YtefdlpandfhcgaaGreatDoor.AL

/- Cells told place by place, as they may have been set. -/
set_option linter.all false
namespace Go.Proofs.YtefdlpandfhcgaaGreatDoor.AL
open Go Go.Proofs Go.RowKit
def PW (xs ys : List AV) : Prop := xs.length = ys.length ∧ ∀ (j : Nat) (x y : AV), xs[j]? = some x → ys[j]? = some y → Sub x y
theorem PW.refl (xs : List AV) : PW xs xs := ⟨rfl, fun j x y hx hy => by
  rw [hx] at hy; injection hy with hy; subst hy; exact Sub.refl _⟩
theorem PW.mset {α : Type} (f : α → AV) (i : Nat) {xs : List AV} {l : List α} {a : AV} {m : α} (h : PW xs (l.map f)) (ha : Sub a (f m)) : PW (xs.set i a) ((l.set i m).map f) := by
  rw [← x4y]
  refine ⟨by simpa using h.1, fun j x y hx hy => ?_⟩
  rw [List.getElem?_set] at hx hy
  split at hx
  · rename_i hij
    rw [if_pos hij] at hy
    split at hx
    · split at hy
      · injection hx with hx; injection hy with hy
        subst hx; subst hy; exact ha
      · cases hy
    · cases hx
  · rename_i hij
    rw [if_neg hij] at hy
    exact h.2 j x y hx hy
theorem xf3 {P : Program} {n : Nat} {Q : Exit → AS → Prop} {s : AS} {rd : List Bool} (hm : P.follows .mixedOrders = true) {l : List O1} {B : List Nat} (VW : List (List Nat × List Nat)) (hlen : VW.length = l.length) (hmeet : meetA s.nx 0 B [] VW) (h : wpsV1 P s.nx 0 l VW ⟨s.T, s.H, s.nx + l.length⟩ (Q .normal)) : cwp P n (.draw l B rd) Q s := by
  intro c hc
  obtain ⟨id, ops, rfl, h1, h2, _, h3, _, hBx⟩ := xyk hc
  have hl : ∀ (l : List Oper) (xs : List O1), xz ops l = some xs → xs.length = l.length := by
    intro l
    induction l with
    | nil => intro xs h; simp only [xz] at h; injection h with h; subst h; rfl
    | cons o l ih =>
      intro xs h
      simp only [xz] at h
      split at h
      · rename_i x xs' g1 g2
        injection h with h
        subst h
        simp [ih _ g2]
      · cases h
  have hlo := hl _ _ h2
  rw [hlo] at h
  obtain ⟨s', g1, g2⟩ := xkg (VW := VW) ops.toList l VW 0 _ h2 (fun k => by simp) (fun k => by simp) h
  refine xpp hm h1 h3 _ _ ?_ ⟨s', by simpa [List.range_eq_range'] using g1, g2⟩
  intro i j hji hi hb
  have hsz : VW.length = ops.size := by rw [hlen, hlo]; simp
  have hi' : i < VW.length := by omega
  have hj' : j < VW.length := by omega
  have hpi : VW[i]? = some VW[i] := List.getElem?_eq_getElem hi'
  have hpj : VW[j]? = some VW[j] := List.getElem?_eq_getElem hj'
  rcases hBx i j hb with hb | hb
  rotate_left
  · exact .inr hb
  refine .inl ?_
  obtain ⟨k1, k2⟩ := xxj hmeet rfl i VW[i] j VW[j] hpi (by simpa using hpj) (by omega) hb
  have ei : VW.getD i ([], []) = VW[i] := by simp [List.getD_eq_getElem?_getD, hpi]
  have ej : VW.getD j ([], []) = VW[j] := by simp [List.getD_eq_getElem?_getD, hpj]
  have a1 : ∀ l, l ∈ (VW.getD i ([], [])).2 ∨ l = s.nx + i → ¬ (l ∈ (VW.getD j ([], [])).1 ∨ l ∈ (VW.getD j ([], [])).2) := by
    rw [ei, ej]; exact fun l hl => k1 l (by simpa using hl)
  have a2 : ∀ l, l ∈ (VW.getD j ([], [])).2 ∨ l = s.nx + j → ¬ (l ∈ (VW.getD i ([], [])).1 ∨ l ∈ (VW.getD i ([], [])).2) := by
    rw [ei, ej]; exact fun l hl => k2 l hl
  exact ⟨a1, a2, fun l hl => .inr hl, fun l hl => .inr hl⟩
def dstH : List O1 → Nat
  | ⟨_, some t, _⟩ :: _ => t
  | _ => 0
def cwT (P : Program) (d n : Nat) : AC → (Exit → AS → Prop) → AS → Prop
  | .skip, Q, s => Q .normal s
  | .ret, Q, s => Q .ret s
  | .exit id, Q, s => Q (.exit id) s
  | .label _, Q, s => Q .normal s
  | .goto l, Q, s => Q (.goto l) s
  | .region l, Q, s => (dstH l = d → cwp P n (.region l) Q s) ∧ (dstH l ≠ d → cw P n (.region l) Q s)
  | .draw l B rd, Q, s => (dstH l = d → P.follows .mixedOrders = true ∧ fineD P s.nx l B ⟨s.T, s.H, s.nx + l.length⟩ (Q .normal)) ∧ (dstH l ≠ d → cw P n (.draw l B rd) Q s)
  | .seq a b, Q, s => cwT P d n a (seqQ (cwT P d n b Q) Q) s
  | .cond c a b, Q, s => condV (ev s.T c) (cwT P d n a Q s) (cwT P d n b Q s)
  | .block id c, Q, s => cwT P d n c (blockQ id Q) s
  | .loop c, Q, s => cwp P n (.loop c) Q s
  | .scope c, Q, s => cwp P n (.scope c) Q s
theorem x0j {P : Program} {d n : Nat} : ∀ (c : AC) {Q : Exit → AS → Prop} {s : AS}, cwT P d n c Q s → cwp P n c Q s
  | .skip, _, _, h => xjm h
  | .ret, _, _, h => x9s h
  | .exit _, _, _, h => xdr h
  | .label _, _, _, h => xgj h
  | .goto _, _, _, h => x7q h
  | .region l, _, _, h => by
      by_cases e : dstH l = d
      · exact h.1 e
      · exact cw_cwp _ (h.2 e)
  | .draw l _ _, _, _, h => by
      by_cases e : dstH l = d
      · obtain ⟨hm, VW, h1, h2, h3⟩ := h.1 e
        exact xf3 hm VW h1 h2 h3
      · exact cw_cwp _ (h.2 e)
  | .seq a b, Q, s, h => x4i fun K hK => xcc (x0j a h) fun e s' g => by
      cases e with
      | normal => exact hK s' (x0j b g)
      | _ => exact g
  | .cond c a b, Q, s, h => by
      unfold cwT condV at h
      split at h
      · rename_i e; exact x8q e (x0j a h)
      · rename_i e; exact x1o e (x0j b h)
      · exact h.elim
  | .block id c, _, _, h => xdj (x0j c h)
  | .loop _, _, _, h => h
  | .scope _, _, _, h => h
section
variable {P : Program} {d n : Nat} {Q : Exit → AS → Prop} {s : AS} {T : Nat → AV} {H : Nat → Option AO} {nx : Nat}
theorem xj8 : cwT P d n .skip Q s = Q .normal s := rfl
theorem CT_ret : cwT P d n .ret Q s = Q .ret s := rfl
theorem xz7 (id : Nat) : cwT P d n (.exit id) Q s = Q (.exit id) s := rfl
theorem xs2 (l : List O1) (h : (dstH l = d) = False) : cwT P d n (.region l) Q s = cw P n (.region l) Q s := by
  have h' : ¬ dstH l = d := by rw [h]; exact _root_.id
  exact propext ⟨fun k => k.2 h', fun k => ⟨fun e => (h' e).elim, fun _ => k⟩⟩
theorem x38 (l : List O1) (h : (dstH l = d) = True) : cwT P d n (.region l) Q s = cwp P n (.region l) Q s := by
  have h' : dstH l = d := by rw [h]; trivial
  exact propext ⟨fun k => k.1 h', fun k => ⟨fun _ => k, fun e => (e h').elim⟩⟩
theorem xv8 (l : List O1) (B : List Nat) (rd : List Bool) (h : (dstH l = d) = False) : cwT P d n (.draw l B rd) Q s = cw P n (.draw l B rd) Q s := by
  have h' : ¬ dstH l = d := by rw [h]; exact _root_.id
  exact propext ⟨fun k => k.2 h', fun k => ⟨fun e => (h' e).elim, fun _ => k⟩⟩
theorem xy9 (l : List O1) (B : List Nat) (rd : List Bool) (h : (dstH l = d) = True) : cwT P d n (.draw l B rd) Q ⟨T, H, nx⟩ = (P.follows .mixedOrders = true ∧ fineD P nx l B ⟨T, H, nx + l.length⟩ (Q .normal)) := by
  have h' : dstH l = d := by rw [h]; trivial
  exact propext ⟨fun k => k.1 h', fun k => ⟨fun _ => k, fun e => (e h').elim⟩⟩
theorem CT_seq (a b : AC) : cwT P d n (.seq a b) Q s = cwT P d n a (seqQ (cwT P d n b Q) Q) s := rfl
def condT (P : Program) (d n : Nat) (Q : Exit → AS → Prop) (s : AS) (a b : AC) (v : AV) : Prop := condV v (cwT P d n a Q s) (cwT P d n b Q s)
theorem xa9 (c : Operand) (a b : AC) : cwT P d n (.cond c a b) Q ⟨T, H, nx⟩ = condT P d n Q ⟨T, H, nx⟩ a b (ev T c) := rfl
theorem xu9 (a b : AC) : condT P d n Q s a b (bool true) = cwT P d n a Q s := rfl
theorem xh9 (a b : AC) : condT P d n Q s a b (bool false) = cwT P d n b Q s := rfl
theorem xu6 (id : Nat) (c : AC) : cwT P d n (.block id c) Q s = cwT P d n c (blockQ id Q) s := rfl
theorem dstH_c (o : Op) (t : Nat) (g : Option (Nat × Bool)) (l : List O1) : dstH (⟨o, some t, g⟩ :: l) = t := rfl
theorem dstH_n (o : Op) (g : Option (Nat × Bool)) (l : List O1) : dstH (⟨o, none, g⟩ :: l) = 0 := rfl
end
theorem okH {P : Program} {f : FuncId} {n : Nat} {rs : List ResultVar} {ac : AC} (d : Nat) (hf : FnC P f n rs ac) {args : List AV} {r : AV} (h : cwT P d n ac (finQ P rs (frzR r)) ⟨argT args, fun _ => none, 0⟩) (hn : args.length ≤ n := by simp) : Ok P f args r :=
  xrp (acall hf hn fun Q h1 h2 => xcc (x0j ac h) fun e s hs => by
    cases e with
    | normal => exact h2 s hs
    | ret => exact h1 s hs
    | _ => exact hs.elim)
def EVH := aI (aI (aI (@xj8) (aI (@CT_ret) (@xz7))) (aI (@xs2) (aI (@x38) (aI (@xv8) (@xy9))))) (aI (aI (@CT_seq) (aI (@xa9) (@xu9))) (aI (aI (@xh9) (@xu6)) (aI (@dstH_c) (@dstH_n))))
end Go.Proofs.YtefdlpandfhcgaaGreatDoor.AL

/- Models of functions, and that the functions are as their models: written by gen.py. -/
set_option linter.all false
set_option maxRecDepth 100000
namespace Go.Proofs.YtefdlpandfhcgaaGreatDoor.AL
open Go Go.Proofs
def x6c (a0 : Stack) (a1 : Int) : Option (List Entry) := (x7c a0.upper a1).bind fun v1 => if v1.kind = 1 then some v1.entries
 else some []
def xii := aI (aI (aI (@EV) (aI (@R3) (@R26))) (aI (@R29) (aI (@R31) (@R45)))) (aI (aI (@R52) (aI (@DBranch) (@DStack))) (aI (aI (@DEntry) (@DOrigin)) (aI (@DAttr) (@DNode))))
set_option maxHeartbeats 2000000 in
theorem x3h (a0 : Stack) (a1 : Int) (r : List Entry) (hm0 : x6c a0 a1 = some r) : Ok Tryz.prog 20 [xnb a0, int a1] (.sl 3 (r.map xd)) := by
 unfold x6c at hm0
 refine okG x9q ?_
 unfold x5k
 obtain ⟨v1, h2, hm0⟩ := bsE hm0
 simp only [xii, ↓EVd, isCall, sevalprocAttr]
 refine qc (x6e _ _ _ h2) rfl ?_
 rcases iteE hm0 with ⟨e4, hm0⟩ | ⟨e4, hm0⟩
 · obtain rfl := Option.some.inj hm0
   simp only [e4, xii, ↓EVd, isCall, sevalprocAttr]
   all_goals first | done | rfl | exact xc (by simp only [CLO])
 obtain rfl := Option.some.inj hm0
 simp only [e4, xii, ↓EVd, isCall, sevalprocAttr]
 all_goals first | done | rfl | exact xn (by simp only [CLO]) (Sub.nilS _)
def xdf (a0 : Stack) (a1 : Entry) : Option (Bool) := (xfg a1.name).bind fun v1 => if (!v1.2) = true then some true
 else (x5g a0 v1.1).bind fun v5 => if (!v5.2) = true then some true
 else if v5.1.kind = 1 then some true
 else (x7c a0.upper a1.ino).bind fun v11 => if v11.kind = 4 then some false
 else if v11.kind = 2 then (xbf v11.attr 4).bind fun v17 => if (!v17) = true then some true
 else if (decide (v11.attr.origin = v1.1)) = true then (xae a0.upper ([1] : List Int)).bind fun v23 => (ix v23 (wr (a1.ino - 1))).bind fun v25 => some (!v25)
 else some true
 else if v11.kind = 3 then (xbf v11.attr 4).bind fun v30 => if (!v30) = true then some true
 else if (decide (v11.attr.origin = v1.1)) = true then (xae a0.upper ([1] : List Int)).bind fun v36 => (ix v36 (wr (a1.ino - 1))).bind fun v38 => some (!v38)
 else some true
 else some true
def xgb := aI (aI (aI (aI (@EV) (@R3)) (aI (@R4) (aI (@R9) (@R26)))) (aI (aI (@R29) (@R31)) (aI (@R48) (aI (@R50) (@R52))))) (aI (aI (aI (@R53) (@R67)) (aI (@DBranch) (aI (@DStack) (@DEntry)))) (aI (aI (@DOrigin) (@DAttr)) (aI (@DNode) (aI (@eq48) (@mixed)))))
set_option maxHeartbeats 2000000 in
theorem xhk (a0 : Stack) (a1 : Entry) (r : Bool) (hm0 : xdf a0 a1 = some r) : Ok Tryz.prog 10 [xnb a0, xd a1] (bool r) := by
 unfold xdf at hm0
 refine okH 60 xiw ?_
 unfold xdq
 obtain ⟨v1, h2, hm0⟩ := bsE hm0
 simp only [xgb, EVH, ↓EVd, isCall, sevalprocAttr]
 refine qc (xvt _ _ h2) rfl ?_
 rcases itbE hm0 with ⟨e4, hm0⟩ | ⟨e4, hm0⟩
 · obtain rfl := Option.some.inj hm0
   simp only [e4, xgb, EVH, ↓EVd, isCall, sevalprocAttr]
   all_goals first | done | rfl
 obtain ⟨v5, h6, hm0⟩ := bsE hm0
 simp only [e4, xgb, EVH, ↓EVd, isCall, sevalprocAttr]
 refine qc (xov _ _ _ h6) rfl ?_
 rcases itbE hm0 with ⟨e8, hm0⟩ | ⟨e8, hm0⟩
 · obtain rfl := Option.some.inj hm0
   simp only [e4, e8, xgb, EVH, ↓EVd, isCall, sevalprocAttr]
   all_goals first | done | rfl
 rcases iteE hm0 with ⟨e10, hm0⟩ | ⟨e10, hm0⟩
 · obtain rfl := Option.some.inj hm0
   simp only [e4, e8, e10, xgb, EVH, ↓EVd, isCall, sevalprocAttr]
   all_goals first | done | rfl
 obtain ⟨v11, h12, hm0⟩ := bsE hm0
 simp only [e4, e8, e10, xgb, EVH, ↓EVd, isCall, sevalprocAttr]
 refine qc (x6e _ _ _ h12) rfl ?_
 rcases iteE hm0 with ⟨e14, hm0⟩ | ⟨e14, hm0⟩
 · obtain rfl := Option.some.inj hm0
   simp only [e4, e8, e10, e14, xgb, EVH, ↓EVd, isCall, sevalprocAttr]
   all_goals first | done | rfl
 rcases iteE hm0 with ⟨e16, hm0⟩ | ⟨e16, hm0⟩
 · obtain ⟨v17, h18, hm0⟩ := bsE hm0
   simp only [e4, e8, e10, e14, e16, xgb, EVH, ↓EVd, isCall, sevalprocAttr]
   refine qc (xco _ _ _ h18) rfl ?_
   rcases itbE hm0 with ⟨e20, hm0⟩ | ⟨e20, hm0⟩
   · obtain rfl := Option.some.inj hm0
     simp only [e4, e8, e10, e14, e16, e20, xgb, EVH, ↓EVd, isCall, sevalprocAttr]
     all_goals first | done | rfl
   rcases itbE hm0 with ⟨e22, hm0⟩ | ⟨e22, hm0⟩
   · simp only [e4, e8, e10, e14, e16, e20, e22, xgb, EVH, ↓EVd, isCall, sevalprocAttr]
     refine fineI [([], []), ([0], []), ([], []), ([], [63]), ([], []), ([1], []), ([], []), ([], []), ([], []), ([], []), ([], [])] rfl (by simp only [MT, sevalprocAttr]; first | done | omega) ?_
     obtain ⟨v23, h24, hm0⟩ := bsE hm0
     simp only [e4, e8, e10, e14, e16, e20, e22, xgb, EVH, ↓EVd, isCall, sevalprocAttr]
     refine qvk (x8l _ _ _ h24) rfl (by simp only [e4, e8, e10, e14, e16, e20, e22, FK, CLO, xgb, EVH, ↓EVd, isCall, sevalprocAttr]; first | done | rfl) (by simp only [e4, e8, e10, e14, e16, e20, e22, FU, CLO, xgb, EVH, ↓EVd, isCall, sevalprocAttr]; first | done | rfl) ?_
     try simp only [e4, e8, e10, e14, e16, e20, e22, FU, CLO, xgb, EVH, ↓EVd, isCall, sevalprocAttr]
     obtain ⟨v25, e27, hm0⟩ := ixE bool hm0
     obtain rfl := Option.some.inj hm0
     try simp only [e4, e8, e10, e14, e16, e20, e22, e27, xgb, EVH, ↓EVd, isCall, sevalprocAttr]
     all_goals first | done | rfl
   obtain rfl := Option.some.inj hm0
   simp only [e4, e8, e10, e14, e16, e20, e22, xgb, EVH, ↓EVd, isCall, sevalprocAttr]
   all_goals first | done | rfl
 rcases iteE hm0 with ⟨e29, hm0⟩ | ⟨e29, hm0⟩
 · obtain ⟨v30, h31, hm0⟩ := bsE hm0
   simp only [e4, e8, e10, e14, e16, e29, xgb, EVH, ↓EVd, isCall, sevalprocAttr]
   refine qc (xco _ _ _ h31) rfl ?_
   rcases itbE hm0 with ⟨e33, hm0⟩ | ⟨e33, hm0⟩
   · obtain rfl := Option.some.inj hm0
     simp only [e4, e8, e10, e14, e16, e29, e33, xgb, EVH, ↓EVd, isCall, sevalprocAttr]
     all_goals first | done | rfl
   rcases itbE hm0 with ⟨e35, hm0⟩ | ⟨e35, hm0⟩
   · have g41 := And.intro (And.intro (And.intro ((e4)) ((e8))) (And.intro ((e10)) ((e14)))) (And.intro (And.intro ((e16)) ((e29))) (And.intro ((e33)) ((e35))))
     simp only [g41, xgb, EVH, ↓EVd, isCall, sevalprocAttr]
     refine fineI [([], []), ([0], []), ([], []), ([], [63]), ([], []), ([1], []), ([], []), ([], []), ([], []), ([], []), ([], [])] rfl (by simp only [MT, sevalprocAttr]; first | done | omega) ?_
     obtain ⟨v36, h37, hm0⟩ := bsE hm0
     simp only [g41, xgb, EVH, ↓EVd, isCall, sevalprocAttr]
     refine qvk (x8l _ _ _ h37) rfl (by simp only [g41, FK, CLO, xgb, EVH, ↓EVd, isCall, sevalprocAttr]; first | done | rfl) (by simp only [g41, FU, CLO, xgb, EVH, ↓EVd, isCall, sevalprocAttr]; first | done | rfl) ?_
     try simp only [g41, FU, CLO, xgb, EVH, ↓EVd, isCall, sevalprocAttr]
     obtain ⟨v38, e40, hm0⟩ := ixE bool hm0
     obtain rfl := Option.some.inj hm0
     try simp only [g41, e40, xgb, EVH, ↓EVd, isCall, sevalprocAttr]
     all_goals first | done | rfl
   obtain rfl := Option.some.inj hm0
   simp only [e4, e8, e10, e14, e16, e29, e33, e35, xgb, EVH, ↓EVd, isCall, sevalprocAttr]
   all_goals first | done | rfl
 obtain rfl := Option.some.inj hm0
 simp only [e4, e8, e10, e14, e16, e29, xgb, EVH, ↓EVd, isCall, sevalprocAttr]
 all_goals first | done | rfl
def xoc (a0 : Stack) (a1 : Int) (v1 : List Entry) : Int → Option (St (Int) ((Unit) ⊕ (Bool)))
 | v4 => if v4 < (v1.length : Int) then (ix v1 v4).bind fun v8 => if v8.ino = a1 then (xdf a0 v8).bind fun v13 => if (!v13) = true then some (.out (.inr true))
 else some (.nx (wr (v4 + 1)))
 else some (.nx (wr (v4 + 1)))
 else some (.out (.inl ()))
def x5c (a0 : Stack) (a1 : Int) : Option (Bool) := (x6c a0 3).bind fun v1 => (iter (xoc a0 a1 v1) big 0).bind fun o => (match o with
 | (.inl _) => some false
 | (.inr r) => some r)
def x7b := aI (aI (aI (@EV) (aI (@R3) (@R29))) (aI (@R31) (aI (@R45) (@DBranch)))) (aI (aI (@DStack) (aI (@DEntry) (@DOrigin))) (aI (@DAttr) (aI (@DNode) (@mixed))))
set_option maxHeartbeats 2000000 in
theorem xik (a0 : Stack) (a1 : Int) (r : Bool) (hm0 : x5c a0 a1 = some r) : Ok Tryz.prog 12 [xnb a0, int a1] (bool r) := by
 unfold x5c at hm0
 refine okG x6q ?_
 unfold x7k
 obtain ⟨v1, h2, hm0⟩ := bsE hm0
 simp only [x7b, ↓EVd, isCall, sevalprocAttr]
 refine qc (x3h _ _ _ h2) rfl ?_
 obtain ⟨o0, ho0, hm0⟩ := bsE hm0
 simp only [x7b, ↓EVd, isCall, sevalprocAttr]
 refine cwp_cx 0 (fun s => (.inl ()) = o0) ?_ fun J0_0 hJ0_0 => ?_
 · rintro T0 H0 x5 rfl
   try dsimp only at hm0
   obtain rfl := Option.some.inj hm0
   simp only [x7b, ↓EVd, isCall, sevalprocAttr]
   all_goals first | done | rfl
 refine cwp_lp ho0 (fun v4 s => s.T 1 = int a1 ∧ s.T 2 = .loc 0 6 0 0 ∧ s.T 5 = .sl 3 (v1.map xd) ∧ s.T 6 = int v4 ∧ s.H 0 = some (.row 29 6 [xnb a0]) ∧ Lq 0 s.nx) ?_ ?_
 · refine TI.here ⟨?_, ?_, ?_, ?_, ?_, ?_⟩
   all_goals try simp only [x7b, ↓EVd, isCall, sevalprocAttr]
   all_goals first | omega | exact lq (by omega) | exact nq (by omega) | rfl | (congr 1; omega)
 rintro I0 v4 T0 H0 x3 st0 kk0 hm1 hI0 hO0
 dsimp only [Lq, Nq] at kk0
 simp only [xoc] at hm1
 rcases iteE hm1 with ⟨e7, hm1⟩ | ⟨e7, hm1⟩
 · obtain ⟨v8, e10, hm1⟩ := ixE xd hm1
   rcases iteE hm1 with ⟨e12, hm1⟩ | ⟨e12, hm1⟩
   · obtain ⟨v13, h14, hm1⟩ := bsE hm1
     simp only [kk0, e7, e10, e12, x7b, ↓EVd, isCall, sevalprocAttr]
     refine qd (xhk _ _ _ h14) rfl ?_
     rcases itbE hm1 with ⟨e16, hm1⟩ | ⟨e16, hm1⟩
     · obtain rfl := Option.some.inj hm1
       obtain rfl := hO0 _ rfl
       try dsimp only at hm0
       obtain rfl := Option.some.inj hm0
       simp only [kk0, e7, e10, e12, e16, x7b, ↓EVd, isCall, sevalprocAttr]
       all_goals first | done | rfl
     obtain rfl := Option.some.inj hm1
     simp only [kk0, e7, e10, e12, e16, x7b, ↓EVd, isCall, sevalprocAttr]
     refine TI.here (hI0 _ rfl _ ⟨?_, ?_, ?_, ?_, ?_, ?_⟩)
     all_goals try simp only [kk0, e7, e10, e12, e16, x7b, ↓EVd, isCall, sevalprocAttr]
     all_goals first | omega | exact lq (by omega) | exact nq (by omega) | rfl | (congr 1; omega)
   obtain rfl := Option.some.inj hm1
   simp only [kk0, e7, e10, e12, x7b, ↓EVd, isCall, sevalprocAttr]
   refine TI.here (hI0 _ rfl _ ⟨?_, ?_, ?_, ?_, ?_, ?_⟩)
   all_goals try simp only [kk0, e7, e10, e12, x7b, ↓EVd, isCall, sevalprocAttr]
   all_goals first | omega | exact lq (by omega) | exact nq (by omega) | rfl | (congr 1; omega)
 obtain rfl := Option.some.inj hm1
 simp only [kk0, e7, x7b, ↓EVd, isCall, sevalprocAttr]
 refine TI.here (hJ0_0 _ (hO0 _ rfl))
def xkc (a0 : Stack) (v1 : List Entry) : (List Finding × Int) → Option (St (List Finding × Int) (List Finding))
 | (v5, v6) => if v6 < (v1.length : Int) then (ix v1 v6).bind fun v12 => (xdf a0 v12).bind fun v15 => if v15 = true then (ap 32 v5 ([(⟨16, 0, 3, v12.slot⟩ : Finding)] : List Finding)).bind fun _ => some (.nx ((v5 ++ ([(⟨16, 0, 3, v12.slot⟩ : Finding)] : List Finding)), (wr (v6 + 1))))
 else some (.nx (v5, (wr (v6 + 1))))
 else some (.out v5)
def xnd (v24 : List Entry) : (List Finding × Int) → Option (St (List Finding × Int) (List Finding))
 | (v28, v29) => if v29 < (v24.length : Int) then (ix v24 v29).bind fun v35 => (ap 32 v28 ([(⟨17, 0, 2, v35.slot⟩ : Finding)] : List Finding)).bind fun _ => some (.nx ((v28 ++ ([(⟨17, 0, 2, v35.slot⟩ : Finding)] : List Finding)), (wr (v29 + 1))))
 else some (.out v28)
def xse (a0 : Stack) : Option (List Finding) := (x6c a0 3).bind fun v1 => (iter (xkc a0 v1) big (([] : List Finding), 0)).bind fun o => (match o with
 | v9 => (x6c a0 2).bind fun v24 => (iter (xnd v24) big (v9, 0)).bind fun o => (match o with
 | v32 => some v32))
def xdb := aI (aI (aI (@EV) (aI (@R3) (@R29))) (aI (aI (@R31) (@R35)) (aI (@R37) (@R45)))) (aI (aI (aI (@DBranch) (@DStack)) (aI (@DEntry) (@DFinding))) (aI (aI (@DOrigin) (@DAttr)) (aI (@DNode) (@mixed))))
set_option maxHeartbeats 2000000 in
theorem x9p (a0 : Stack) (r : List Finding) (hm0 : xse a0 = some r) : Ok Tryz.prog 8 [xnb a0] (.sl 4 (r.map xw)) := by
 unfold xse at hm0
 refine okG x8p ?_
 unfold xek
 obtain ⟨v1, h2, hm0⟩ := bsE hm0
 simp only [xdb, ↓EVd, isCall, sevalprocAttr]
 refine qc (x3h _ _ _ h2) rfl ?_
 obtain ⟨o0, ho0, hm0⟩ := bsE hm0
 simp only [xdb, ↓EVd, isCall, sevalprocAttr]
 refine cwp_cx 0 (fun s => ∃ v9 : List Finding, ∃ l8 : Nat, (s.T 1 = .loc 0 6 0 0 ∧ s.T 3 = .msl l8 v9.length ∧ s.H 0 = some (.row 29 6 [xnb a0]) ∧ s.H l8 = some (.row 37 4 (v9.map xw)) ∧ Lq 0 s.nx ∧ Lq l8 s.nx ∧ Nq 0 l8) ∧ v9 = o0) ?_ fun J0_0 hJ0_0 => ?_
 · rintro T0 H0 x7 ⟨v9, l8, kk0_0, rfl⟩
   dsimp only [Lq, Nq] at kk0_0
   try dsimp only at hm0
   obtain ⟨v24, h25, hm0⟩ := bsE hm0
   simp only [kk0_0, xdb, ↓EVd, isCall, sevalprocAttr]
   refine qc (x3h _ _ _ h25) rfl ?_
   obtain ⟨o1, ho1, hm0⟩ := bsE hm0
   simp only [kk0_0, xdb, ↓EVd, isCall, sevalprocAttr]
   refine cwp_cx 2 (fun s => ∃ v32 : List Finding, ∃ l31 : Nat, (s.T 3 = .msl l31 v32.length ∧ s.H l31 = some (.row 37 4 (v32.map xw)) ∧ Lq l31 s.nx) ∧ v32 = o1) ?_ fun J1_0 hJ1_0 => ?_
   · rintro T1 H1 x30 ⟨v32, l31, kk1_0, rfl⟩
     dsimp only [Lq, Nq] at kk1_0
     try dsimp only at hm0
     obtain rfl := Option.some.inj hm0
     simp only [kk1_0, xdb, ↓EVd, isCall, sevalprocAttr]
     all_goals first | done | rfl | exact frzR_e (by simp only [kk1_0, FZ, CLO, xdb, ↓EVd, isCall, sevalprocAttr])
   refine cwp_lp ho1 (fun (v28, v29) s => ∃ l27 : Nat, s.T 3 = .msl l27 v28.length ∧ s.T 4 = .sl 3 (v24.map xd) ∧ s.T 6 = int v29 ∧ s.H l27 = some (.row 37 4 (v28.map xw)) ∧ Lq l27 s.nx) ?_ ?_
   · refine TI.here ⟨l8, ?_, ?_, ?_, ?_, ?_⟩
     all_goals try simp only [kk0_0, xdb, ↓EVd, isCall, sevalprocAttr]
     all_goals first | omega | exact lq (by omega) | exact nq (by omega) | rfl | (congr 1; omega)
   rintro I1 ⟨v28, v29⟩ T1 H1 x26 st1 ⟨l27, kk1⟩ hm1 hI1 hO1
   dsimp only [Lq, Nq] at kk1
   simp only [xnd] at hm1
   rcases iteE hm1 with ⟨e34, hm1⟩ | ⟨e34, hm1⟩
   · obtain ⟨v35, e37, hm1⟩ := ixE xd hm1
     have e38 : (.agg [int 17, int 0, int 2, int v35.slot] : AV) = xw (⟨17, 0, 2, v35.slot⟩ : Finding) := _root_.id rfl
     obtain ⟨e41, hm1⟩ := apE hm1
     try simp only [ZL] at e41
     obtain rfl := Option.some.inj hm1
     simp only [kk1, e34, e37, e38, e41, xdb, ↓EVd, isCall, sevalprocAttr]
     refine TI.here (hI1 _ rfl _ ⟨(x26 + 12), ?_, ?_, ?_, ?_, ?_⟩)
     all_goals try simp only [kk1, e34, e37, e38, e41, xdb, ↓EVd, isCall, sevalprocAttr]
     all_goals first | omega | exact lq (by omega) | exact nq (by omega) | rfl | (congr 1; omega)
   obtain rfl := Option.some.inj hm1
   simp only [kk1, e34, xdb, ↓EVd, isCall, sevalprocAttr]
   refine TI.here (hJ1_0 _ ⟨v28, l27, ⟨?_, ?_, ?_⟩, hO1 _ rfl⟩)
   all_goals try simp only [kk1, e34, xdb, ↓EVd, isCall, sevalprocAttr]
   all_goals first | omega | exact lq (by omega) | exact nq (by omega) | rfl | (congr 1; omega)
 refine cwp_lp ho0 (fun (v5, v6) s => ∃ l4 : Nat, s.T 1 = .loc 0 6 0 0 ∧ s.T 3 = .msl l4 v5.length ∧ s.T 4 = .sl 3 (v1.map xd) ∧ s.T 5 = int v6 ∧ s.H 0 = some (.row 29 6 [xnb a0]) ∧ s.H l4 = some (.row 37 4 (v5.map xw)) ∧ Lq 0 s.nx ∧ Lq l4 s.nx ∧ Nq 0 l4) ?_ ?_
 · refine TI.here ⟨2, ?_, ?_, ?_, ?_, ?_, ?_, ?_, ?_, ?_⟩
   all_goals try simp only [xdb, ↓EVd, isCall, sevalprocAttr]
   all_goals first | omega | exact lq (by omega) | exact nq (by omega) | rfl | (congr 1; omega)
 rintro I0 ⟨v5, v6⟩ T0 H0 x3 st0 ⟨l4, kk0⟩ hm1 hI0 hO0
 dsimp only [Lq, Nq] at kk0
 simp only [xkc] at hm1
 rcases iteE hm1 with ⟨e11, hm1⟩ | ⟨e11, hm1⟩
 · obtain ⟨v12, e14, hm1⟩ := ixE xd hm1
   obtain ⟨v15, h16, hm1⟩ := bsE hm1
   simp only [kk0, e11, e14, xdb, ↓EVd, isCall, sevalprocAttr]
   refine qd (xhk _ _ _ h16) rfl ?_
   rcases itbE hm1 with ⟨e18, hm1⟩ | ⟨e18, hm1⟩
   · have e19 : (.agg [int 16, int 0, int 3, int v12.slot] : AV) = xw (⟨16, 0, 3, v12.slot⟩ : Finding) := _root_.id rfl
     obtain ⟨e22, hm1⟩ := apE hm1
     try simp only [ZL] at e22
     obtain rfl := Option.some.inj hm1
     simp only [kk0, e11, e14, e18, e19, e22, xdb, ↓EVd, isCall, sevalprocAttr]
     refine TI.here (hI0 _ rfl _ ⟨(x3 + 18), ?_, ?_, ?_, ?_, ?_, ?_, ?_, ?_, ?_⟩)
     all_goals try simp only [kk0, e11, e14, e18, e19, e22, xdb, ↓EVd, isCall, sevalprocAttr]
     all_goals first | omega | exact lq (by omega) | exact nq (by omega) | rfl | (congr 1; omega)
   obtain rfl := Option.some.inj hm1
   simp only [kk0, e11, e14, e18, xdb, ↓EVd, isCall, sevalprocAttr]
   refine TI.here (hI0 _ rfl _ ⟨l4, ?_, ?_, ?_, ?_, ?_, ?_, ?_, ?_, ?_⟩)
   all_goals try simp only [kk0, e11, e14, e18, xdb, ↓EVd, isCall, sevalprocAttr]
   all_goals first | omega | exact lq (by omega) | exact nq (by omega) | rfl | (congr 1; omega)
 obtain rfl := Option.some.inj hm1
 simp only [kk0, e11, xdb, ↓EVd, isCall, sevalprocAttr]
 refine TI.here (hJ0_0 _ ⟨v5, l4, ⟨?_, ?_, ?_, ?_, ?_, ?_, ?_⟩, hO0 _ rfl⟩)
 all_goals try simp only [kk0, e11, xdb, ↓EVd, isCall, sevalprocAttr]
 all_goals first | omega | exact lq (by omega) | exact nq (by omega) | rfl | (congr 1; omega)
end Go.Proofs.YtefdlpandfhcgaaGreatDoor.AL

/- What closed runs are told: (*walk.trail).reach and handle.Parse by their contracts. -/
set_option linter.all false
namespace Go.Proofs.YtefdlpandfhcgaaGreatDoor.AL
open Go Go.Proofs Go.RowKit
def dInt : AV → Option Int
  | .val (.int .i64 n) => some n
  | _ => none
def dStr : AV → Option ByteArray
  | .val (.string s) => some s
  | _ => none
def dU8 : AV → Option UInt8
  | .val (.int .u8 n) => if 0 ≤ n ∧ n < 256 then some (UInt8.ofNat n.toNat) else none
  | _ => none
def dList {α : Type} (d : AV → Option α) : List AV → Option (List α)
  | [] => some []
  | x :: xs => match d x, dList d xs with
    | some y, some ys => some (y :: ys)
    | _, _ => none
def dSl {α : Type} (k : Nat) (d : AV → Option α) : AV → Option (List α)
  | .sl s xs => bif Nat.beq s k then dList d xs else none
  | .val (.slice none 0 0) => some []
  | _ => none
def dEntry : AV → Option Entry
  | .agg [a, b, c] => match dInt a, dInt b, dStr c with
    | some a, some b, some c => some ⟨a, b, c⟩
    | _, _, _ => none
  | _ => none
def dWay : AV → Option Way
  | .agg [a, b, c] => match dInt a, dInt b, dStr c with
    | some a, some b, some c => some ⟨a, b, c⟩
    | _, _, _ => none
  | _ => none
def dNode : AV → Option Node
  | .agg [a0, a1, a2, a3, a4, a5, a6, a7, a8, a9, a10, a11, a12] => match dInt a0, dInt a1, dInt a2, dInt a3, dSl 1 dU8 a4, dSl 3 dEntry a5, dInt a6, dInt a7, dStr a8, dInt a9, dInt a10, dInt a11, dInt a12 with
    | some a0, some a1, some a2, some a3, some a4, some a5, some a6, some a7, some a8, some a9, some a10, some a11, some a12 => some ⟨a0, a1, a2, a3, a4, a5, ⟨a6, a7, a8, ⟨a9, a10, a11⟩, a12⟩⟩
    | _, _, _, _, _, _, _, _, _, _, _, _, _ => none
  | _ => none
theorem x6d {x : AV} {n : Int} (h : dInt x = some n) : x = int n := by
  unfold dInt at h
  split at h
  · injection h with h; subst h; rfl
  · cases h
theorem x3s {x : AV} {n : ByteArray} (h : dStr x = some n) : x = str n := by
  unfold dStr at h
  split at h
  · injection h with h; subst h; rfl
  · cases h
theorem dU8_eq {x : AV} {n : UInt8} (h : dU8 x = some n) : x = u8 n := by
  unfold dU8 at h
  split at h
  · rename_i m
    split at h
    · rename_i hm
      injection h with h
      subst h
      simp only [u8]
      congr 2
      simp
      omega
    · cases h
  · cases h
theorem xdu {α : Type} {d : AV → Option α} {f : α → AV} (h : ∀ x y, d x = some y → Sub x (f y)) : ∀ (xs : List AV) (ys : List α), dList d xs = some ys → Subs xs (ys.map f)
  | [], ys, e => by simp only [dList, Option.some.injEq] at e; subst e; exact Subs.nil
  | x :: xs, ys, e => by
    simp only [dList] at e
    split at e
    · rename_i y ys' h1 h2
      injection e with e
      subst e
      exact Subs.cons (h x y h1) (xdu h xs ys' h2)
    · cases e
theorem xsp {α : Type} {d : AV → Option α} {f : α → AV} {k : Nat} (h : ∀ x y, d x = some y → Sub x (f y)) {x : AV} {ys : List α} (e : dSl k d x = some ys) : Sub x (.sl k (ys.map f)) := by
  unfold dSl at e
  split at e
  · rename_i s xs
    cases hb : Nat.beq s k with
    | true =>
      rw [hb] at e
      obtain rfl := Nat.eq_of_beq_eq_true hb
      exact Sub.sl (xdu h _ _ e)
    | false => rw [hb] at e; cases e
  · injection e with e; subst e; exact Sub.nilS k
  · cases e
theorem xlz {x : AV} {y : Entry} (h : dEntry x = some y) : Sub x (xd y) := by
  unfold dEntry at h
  split at h
  · rename_i a b c
    split at h
    · rename_i a' b' c' h1 h2 h3
      injection h with h
      subst h
      rw [x6d h1, x6d h2, x3s h3]
      exact Sub.refl _
    · cases h
  · cases h
theorem x74 {x : AV} {y : Way} (h : dWay x = some y) : Sub x (encWay y) := by
  unfold dWay at h
  split at h
  · rename_i a b c
    split at h
    · rename_i a' b' c' h1 h2 h3
      injection h with h
      subst h
      rw [x6d h1, x6d h2, x3s h3]
      exact Sub.refl _
    · cases h
  · cases h
theorem x09 {x : AV} {y : UInt8} (h : dU8 x = some y) : Sub x (u8 y) := by rw [dU8_eq h]; exact Sub.refl _
theorem x41 {x : AV} {y : Node} (h : dNode x = some y) : Sub x (xj y) := by
  unfold dNode at h
  split at h
  · split at h
    · rename_i h0 h1 h2 h3 h4 h5 h6 h7 h8 h9 h10 h11 h12
      injection h with h
      subst h
      rw [x6d h0, x6d h1, x6d h2, x6d h3, x6d h6, x6d h7, x3s h8, x6d h9, x6d h10, x6d h11, x6d h12]
      exact Sub.agg (.cons (.refl _) (.cons (.refl _) (.cons (.refl _) (.cons (.refl _) (.cons (xsp (fun x y h => x09 h) h4) (.cons (xsp (fun x y h => xlz h) h5) (Subs.refl _)))))))
    · cases h
  · cases h
def xio : List AV → Option AV
  | [.ptr (.agg [ns, ws, _, _]) 0] => match dSl 13 dNode ns, dSl 3 dWay ws with
    | some ns, some ws => match x2c ⟨ns⟩ ws with
      | some r => some (.sl 1 (r.map bool))
      | none => none
    | _, _ => none
  | _ => none
theorem Sub.ptr {x y : AV} {o : Nat} (h : Sub x y) : Sub (.ptr x o) (.ptr y o) := by
  intro E u hu
  rw [VRep] at hu ⊢
  obtain ⟨v, b, o', k1, k2⟩ := hu
  exact ⟨v, b, o', h E v k1, k2⟩
theorem Sub.junk {x : AV} : Sub x .junk := fun _ _ _ => by simp only [VRep]
theorem xfx {ag : List AV} {r : AV} (h : xio ag = some r) : OkN Tryz.prog 46 ag r := by
  unfold xio at h
  split at h
  · rename_i ns ws x3 x4
    split at h
    · rename_i ns' ws' h1 h2
      split at h
      · rename_i r' h3
        injection h with h
        subst h
        exact OkN.sub (xni ⟨ns'⟩ ws' x4 r' h3) (.cons (Sub.ptr (Sub.agg (.cons (xsp (fun x y h => x41 h) h1) (.cons (xsp (fun x y h => x74 h) h2) (.cons Sub.junk (Subs.refl _)))))) .nil)
      · cases h
    · cases h
  · cases h
def x5n : List AV → Option AV
  | [.val (.string s)] => match xtd s with
    | some r => some (.tup [xm r.1, bool r.2])
    | none => none
  | _ => none
theorem xar (s : ByteArray) (r : Origin × Bool) (h : xtd s = some r) : OkN Tryz.prog 33 [str s] (.tup [xm r.1, bool r.2]) := by
  have hk := x3k s r h
  refine ⟨hk.1, fun Z w vals hZ hv => (hk.2 Z w vals hZ hv).mono ?_⟩
  rintro e w' ⟨v, rfl, hb, hr⟩
  refine ⟨v, rfl, hb, ?_⟩
  unfold xm at hr ⊢
  simp only [VRep, VReps] at hr ⊢
  exact hr
theorem xlw {ag : List AV} {r : AV} (h : x5n ag = some r) : OkN Tryz.prog 33 ag r := by
  unfold x5n at h
  split at h
  · rename_i s
    split at h
    · rename_i r' h3
      injection h with h
      subst h
      exact xar s r' h3
    · cases h
  · cases h
def told (f : FuncId) : Option (List AV → Option AV) := bif Nat.beq f 46 then some xio else bif Nat.beq f 33 then some x5n else none
theorem xtt : ∀ f g, told f = some g → ∀ ag r, g ag = some r → OkN Tryz.prog f ag r := by
  intro f g h ag r hr
  unfold told at h
  cases hb : Nat.beq f 46 with
  | true =>
    rw [hb] at h
    obtain rfl := Nat.eq_of_beq_eq_true hb
    simp only [cond_true, Option.some.injEq] at h
    subst h
    exact xfx hr
  | false =>
    rw [hb] at h
    cases hj : Nat.beq f 33 with
    | true =>
      rw [hj] at h
      obtain rfl := Nat.eq_of_beq_eq_true hj
      simp only [cond_true, cond_false, Option.some.injEq] at h
      subst h
      exact xlw hr
    | false => rw [hj] at h; cases h
end Go.Proofs.YtefdlpandfhcgaaGreatDoor.AL

