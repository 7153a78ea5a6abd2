/- A law of the given program is proved: part 37 of 49. -/
import Derived.Test.YtmacnoajlofdbaaDoorA36
set_option linter.all false
/- Models of functions, and that the functions are as their models: written by gen.py. -/
set_option linter.all false
set_option maxRecDepth 100000
namespace Go.Proofs.YtmacnoajlofdbaaDoor.AL
open Go Go.Proofs
def xsf (a0 : Branch) (a1 : Int) : Option (Node) := if a1 < 1 then some (⟨0, 0, 0, 0, [], [], (⟨0, 0, xl, (⟨0, 0, 0⟩ : Origin), 0⟩ : Attr)⟩ : Node)
 else if (a0.nodes.length : Int) < a1 then some (⟨0, 0, 0, 0, [], [], (⟨0, 0, xl, (⟨0, 0, 0⟩ : Origin), 0⟩ : Attr)⟩ : Node)
 else (ix a0.nodes (wr (a1 - 1))).bind fun v5 => some v5
def xfo := aI (aI (aI (@EV) (@R3)) (aI (@R24) (aI (@R26) (@R47)))) (aI (aI (@DBranch) (@DOrigin)) (aI (@DAttr) (aI (@DNode) (@DEntry))))
set_option maxHeartbeats 2000000 in
theorem xkk (a0 : Branch) (a1 : Int) (r : Node) (hm0 : xsf a0 a1 = some r) : Ok Tryd.prog 24 [xk a0, int a1] (xe r) := by
 unfold xsf at hm0
 refine okG xu1 ?_
 unfold x3t
 rcases iteE hm0 with ⟨e2, hm0⟩ | ⟨e2, hm0⟩
 · obtain rfl := Option.some.inj hm0
   simp only [e2, xfo, ↓EVd, isCall, sevalprocAttr]
   all_goals first | done | rfl | exact xg (by simp only [CLO]) | exact xgb (by simp only [CLO]) (Sub.agg (Subs.cons (Sub.refl _) (Subs.cons (Sub.refl _) (Subs.cons (Sub.refl _) (Subs.cons (Sub.refl _) (Subs.cons (Sub.nilS _) (Subs.cons (Sub.nilS _) (Subs.cons (Sub.refl _) (Subs.cons (Sub.refl _) (Subs.cons (Sub.refl _) (Subs.cons (Sub.refl _) (Subs.cons (Sub.refl _) (Subs.cons (Sub.refl _) (Subs.cons (Sub.refl _) (Subs.nil)))))))))))))))
 rcases iteE hm0 with ⟨e4, hm0⟩ | ⟨e4, hm0⟩
 · obtain rfl := Option.some.inj hm0
   simp only [e2, e4, xfo, ↓EVd, isCall, sevalprocAttr]
   all_goals first | done | rfl | exact xg (by simp only [CLO]) | exact xgb (by simp only [CLO]) (Sub.agg (Subs.cons (Sub.refl _) (Subs.cons (Sub.refl _) (Subs.cons (Sub.refl _) (Subs.cons (Sub.refl _) (Subs.cons (Sub.nilS _) (Subs.cons (Sub.nilS _) (Subs.cons (Sub.refl _) (Subs.cons (Sub.refl _) (Subs.cons (Sub.refl _) (Subs.cons (Sub.refl _) (Subs.cons (Sub.refl _) (Subs.cons (Sub.refl _) (Subs.cons (Sub.refl _) (Subs.nil)))))))))))))))
 obtain ⟨v5, e7, hm0⟩ := ixE xe hm0
 obtain rfl := Option.some.inj hm0
 simp only [e2, e4, e7, xfo, ↓EVd, isCall, sevalprocAttr]
 all_goals first | done | rfl | exact xg (by simp only [CLO])
def xff (a0 : List Way) (a1 : Int) : Int → Option (St (Int) ((Unit) ⊕ (Int)))
 | v2 => if v2 < (a0.length : Int) then (ix a0 v2).bind fun v6 => if v6.ino = a1 then some (.out (.inr v2))
 else some (.nx (wr (v2 + 1)))
 else some (.out (.inl ()))
def xmf (a0 : List Way) (a1 : Int) : Option (Int) := (iter (xff a0 a1) big 0).bind fun o => (match o with
 | (.inl _) => some (-1)
 | (.inr r) => some r)
def xse := aI (aI (@EV) (@R3)) (aI (@R68) (aI (@R71) (@DWay)))
set_option maxHeartbeats 2000000 in
theorem xfn (a0 : List Way) (a1 : Int) (r : Int) (hm0 : xmf a0 a1 = some r) : Ok Tryd.prog 52 [.sl 3 (a0.map encWay), int a1] (int r) := by
 unfold xmf at hm0
 refine okG xcw ?_
 unfold x0o
 obtain ⟨o0, ho0, hm0⟩ := bsE hm0
 simp only [xse, ↓EVd, isCall, sevalprocAttr]
 refine cwp_cx 0 (fun s => (.inl ()) = o0) ?_ fun J0_0 hJ0_0 => ?_
 · rintro T0 H0 x3 rfl
   try dsimp only at hm0
   obtain rfl := Option.some.inj hm0
   simp only [xse, ↓EVd, isCall, sevalprocAttr]
   all_goals first | done | rfl
 refine cwp_lp ho0 (fun v2 s => s.T 0 = .sl 3 (a0.map encWay) ∧ s.T 1 = int a1 ∧ s.T 5 = int v2) ?_ ?_
 · refine TI.here ⟨?_, ?_, ?_⟩
   all_goals try simp only [xse, ↓EVd, isCall, sevalprocAttr]
   all_goals first | omega | exact lq (by omega) | exact nq (by omega) | rfl | (congr 1; omega)
 rintro I0 v2 T0 H0 x1 st0 kk0 hm1 hI0 hO0
 dsimp only [Lq, Nq] at kk0
 simp only [xff] at hm1
 rcases iteE hm1 with ⟨e5, hm1⟩ | ⟨e5, hm1⟩
 · obtain ⟨v6, e8, hm1⟩ := ixE encWay hm1
   rcases iteE hm1 with ⟨e10, hm1⟩ | ⟨e10, hm1⟩
   · obtain rfl := Option.some.inj hm1
     obtain rfl := hO0 _ rfl
     try dsimp only at hm0
     obtain rfl := Option.some.inj hm0
     simp only [kk0, e5, e8, e10, xse, ↓EVd, isCall, sevalprocAttr]
     all_goals first | done | rfl
   obtain rfl := Option.some.inj hm1
   simp only [kk0, e5, e8, e10, xse, ↓EVd, isCall, sevalprocAttr]
   refine TI.here (hI0 _ rfl _ ⟨?_, ?_, ?_⟩)
   all_goals try simp only [kk0, e5, e8, e10, xse, ↓EVd, isCall, sevalprocAttr]
   all_goals first | omega | exact lq (by omega) | exact nq (by omega) | rfl | (congr 1; omega)
 obtain rfl := Option.some.inj hm1
 simp only [kk0, e5, xse, ↓EVd, isCall, sevalprocAttr]
 refine TI.here (hJ0_0 _ (hO0 _ rfl))
def xke (a0 : Branch) (v36 : Int) (v48 : Node) : (List Way × List Ar2_Int × Int) → Option (St (List Way × List Ar2_Int × Int) (List Way × List Ar2_Int))
 | (v52, v54, v55) => if v55 < (v48.entries.length : Int) then (ix v48.entries v55).bind fun v63 => (xsf a0 v63.ino).bind fun v66 => if v66.kind = 1 then (xmf v52 v63.ino).bind fun v70 => if 0 ≤ v70 then (ix v52 v36).bind fun v74 => (ap 16 v54 ([(⟨v74.ino, v63.slot⟩ : Ar2_Int)] : List Ar2_Int)).bind fun _ => some (.nx (v52, (v54 ++ ([(⟨v74.ino, v63.slot⟩ : Ar2_Int)] : List Ar2_Int)), (wr (v55 + 1))))
 else (ap 32 v52 ([(⟨v63.ino, v36, v63.name⟩ : Way)] : List Way)).bind fun _ => some (.nx ((v52 ++ ([(⟨v63.ino, v36, v63.name⟩ : Way)] : List Way)), v54, (wr (v55 + 1))))
 else some (.nx (v52, v54, (wr (v55 + 1))))
 else some (.out (v52, v54))
def xje (a0 : Branch) : (List Way × List Ar2_Int × Int) → Option (St (List Way × List Ar2_Int × Int) (List Way × List Ar2_Int × Int))
 | (v33, v35, v36) => if v36 < (v33.length : Int) then (ix v33 v36).bind fun v45 => (xsf a0 v45.ino).bind fun v48 => (iter (xke a0 v36 v48) big (v33, v35, 0)).bind fun o => (match o with
 | (v58, v60) => some (.nx (v58, v60, (wr (v36 + 1)))))
 else some (.out (v33, v35, v36))
def xrf (a0 : Branch) (a1 : List Int) : (List Way × List Ar2_Int × Int × Int) → Option (St (List Way × List Ar2_Int × Int × Int) (List Way × List Ar2_Int))
 | (v3, v5, v6, v7) => if v7 < (a1.length : Int) then (ix a1 v7).bind fun v15 => (xsf a0 v15).bind fun v18 => if v18.kind = 1 then (xmf v3 v15).bind fun v22 => if 0 ≤ v22 then some (.nx (v3, v5, v6, (wr (v7 + 1))))
 else (ap 32 v3 ([(⟨v15, (-1), xl⟩ : Way)] : List Way)).bind fun _ => (iter (xje a0) big ((v3 ++ ([(⟨v15, (-1), xl⟩ : Way)] : List Way)), v5, v6)).bind fun o => (match o with
 | (v39, v41, v42) => some (.nx (v39, v41, v42, (wr (v7 + 1)))))
 else some (.nx (v3, v5, v6, (wr (v7 + 1))))
 else some (.out (v3, v5))
def xsh (a0 : Branch) (a1 : List Int) : Option (List Way × List Ar2_Int) := (iter (xrf a0 a1) big (([] : List Way), ([] : List Ar2_Int), 0, 0)).bind fun o => (match o with
 | (v10, v12) => some (v10, v12))
def xn := aI (aI (aI (aI (@EV) (@R3)) (aI (@R9) (aI (@R26) (@R34)))) (aI (aI (@R41) (@R47)) (aI (@R68) (aI (@R71) (@R74))))) (aI (aI (aI (@R94) (@R114)) (aI (@DBranch) (aI (@DOrigin) (@DAttr)))) (aI (aI (@DNode) (@DWay)) (aI (@DEntry) (aI (@xet) (@mixed)))))
set_option maxHeartbeats 2000000 in
theorem xty (a0 : Branch) (a1 : List Int) (r : List Way × List Ar2_Int) (hm0 : xsh a0 a1 = some r) : Ok Tryd.prog 41 [xk a0, .sl 1 (a1.map int)] (.tup [.sl 3 (r.1.map encWay), .sl 2 (r.2.map xw)]) := by
 unfold xsh at hm0
 refine okG xyy ?_
 unfold xpr
 obtain ⟨o0, ho0, hm0⟩ := bsE hm0
 simp only [xn, ↓EVd, isCall, sevalprocAttr]
 refine cwp_cx 0 (fun s => ∃ v10 : List Way, ∃ v12 : List Ar2_Int, ∃ l9 : Nat, ∃ l11 : Nat, (s.T 6 = .msl l9 v10.length ∧ s.T 7 = .msl l11 v12.length ∧ s.H l9 = some (.row 71 3 (v10.map encWay)) ∧ s.H l11 = some (.row 114 2 (v12.map xw)) ∧ Lq l9 s.nx ∧ Lq l11 s.nx ∧ Nq l9 l11) ∧ (v10, v12) = o0) ?_ fun J0_0 hJ0_0 => ?_
 · rintro T0 H0 x8 ⟨v10, v12, l9, l11, kk0_0, rfl⟩
   dsimp only [Lq, Nq] at kk0_0
   try dsimp only at hm0
   obtain rfl := Option.some.inj hm0
   simp only [kk0_0, xn, ↓EVd, isCall, sevalprocAttr]
   all_goals first | done | rfl | exact xik 9 (by simp only [kk0_0, FZ, CLO, xn, ↓EVd, isCall, sevalprocAttr]) (Sub.tup (Subs.cons (Sub.refl _) (Subs.cons (Sub.refl _) (Subs.nil))))
 refine cwp_lp ho0 (fun (v3, v5, v6, v7) s => ∃ l2 : Nat, ∃ l4 : Nat, s.T 1 = .sl 1 (a1.map int) ∧ s.T 2 = .loc 0 1 0 0 ∧ s.T 6 = .msl l2 v3.length ∧ s.T 7 = .msl l4 v5.length ∧ s.T 8 = int v6 ∧ s.T 9 = int v7 ∧ s.H 0 = some (.row 26 1 [xk a0]) ∧ s.H l2 = some (.row 71 3 (v3.map encWay)) ∧ s.H l4 = some (.row 114 2 (v5.map xw)) ∧ Lq 0 s.nx ∧ Lq l2 s.nx ∧ Lq l4 s.nx ∧ Nq 0 l2 ∧ Nq 0 l4 ∧ Nq l2 l4) ?_ ?_
 · refine TI.here ⟨3, 4, ?_, ?_, ?_, ?_, ?_, ?_, ?_, ?_, ?_, ?_, ?_, ?_, ?_, ?_, ?_⟩
   all_goals try simp only [xn, ↓EVd, isCall, sevalprocAttr]
   all_goals first | omega | exact lq (by omega) | exact nq (by omega) | rfl | (congr 1; omega)
 rintro I0 ⟨v3, v5, v6, v7⟩ T0 H0 x1 st0 ⟨l2, l4, kk0⟩ hm1 hI0 hO0
 dsimp only [Lq, Nq] at kk0
 simp only [xrf] at hm1
 rcases iteE hm1 with ⟨e14, hm1⟩ | ⟨e14, hm1⟩
 · obtain ⟨v15, e17, hm1⟩ := ixE int hm1
   obtain ⟨v18, h19, hm1⟩ := bsE hm1
   simp only [kk0, e14, e17, xn, ↓EVd, isCall, sevalprocAttr]
   refine qd (xkk _ _ _ h19) rfl ?_
   rcases iteE hm1 with ⟨e21, hm1⟩ | ⟨e21, hm1⟩
   · obtain ⟨v22, h23, hm1⟩ := bsE hm1
     simp only [kk0, e14, e17, e21, xn, ↓EVd, isCall, sevalprocAttr]
     refine qdb (xfn _ _ _ h23) rfl (by simp only [kk0, e14, e17, e21, FZ, CLO, xn, ↓EVd, isCall, sevalprocAttr]) ?_
     rcases iteE hm1 with ⟨e25, hm1⟩ | ⟨e25, hm1⟩
     · obtain rfl := Option.some.inj hm1
       simp only [kk0, e14, e17, e21, e25, xn, ↓EVd, isCall, sevalprocAttr]
       refine TI.here (hI0 _ rfl _ ⟨l2, l4, ?_, ?_, ?_, ?_, ?_, ?_, ?_, ?_, ?_, ?_, ?_, ?_, ?_, ?_, ?_⟩)
       all_goals try simp only [kk0, e14, e17, e21, e25, xn, ↓EVd, isCall, sevalprocAttr]
       all_goals first | omega | exact lq (by omega) | exact nq (by omega) | rfl | (congr 1; omega)
     have e26 : (.agg [int v15, int (-1), str xl] : AV) = encWay (⟨v15, (-1), xl⟩ : Way) := _root_.id rfl
     obtain ⟨e29, hm1⟩ := apE hm1
     try simp only [ZL] at e29
     obtain ⟨o1, ho1, hm1⟩ := bsE hm1
     simp only [kk0, e14, e17, e21, e25, e26, e29, xn, ↓EVd, isCall, sevalprocAttr]
     refine cwp_cx 2 (fun s => ∃ v39 : List Way, ∃ v41 : List Ar2_Int, ∃ v42 : Int, ∃ l38 : Nat, ∃ l40 : Nat, (s.T 1 = .sl 1 (a1.map int) ∧ s.T 2 = .loc 0 1 0 0 ∧ s.T 6 = .msl l38 v39.length ∧ s.T 7 = .msl l40 v41.length ∧ s.T 8 = int v42 ∧ s.T 9 = int v7 ∧ s.H 0 = some (.row 26 1 [xk a0]) ∧ s.H l38 = some (.row 71 3 (v39.map encWay)) ∧ s.H l40 = some (.row 114 2 (v41.map xw)) ∧ Lq 0 s.nx ∧ Lq l38 s.nx ∧ Lq l40 s.nx ∧ Nq 0 l38 ∧ Nq 0 l40 ∧ Nq l38 l40) ∧ (v39, v41, v42) = o1) ?_ fun J1_0 hJ1_0 => ?_
     · rintro T1 H1 x37 ⟨v39, v41, v42, l38, l40, kk1_0, rfl⟩
       dsimp only [Lq, Nq] at kk1_0
       try dsimp only at hm1
       obtain rfl := Option.some.inj hm1
       simp only [kk1_0, e14, e17, e21, e25, e26, e29, xn, ↓EVd, isCall, sevalprocAttr]
       refine TI.here (hI0 _ rfl _ ⟨l38, l40, ?_, ?_, ?_, ?_, ?_, ?_, ?_, ?_, ?_, ?_, ?_, ?_, ?_, ?_, ?_⟩)
       all_goals try simp only [kk1_0, e14, e17, e21, e25, e26, e29, xn, ↓EVd, isCall, sevalprocAttr]
       all_goals first | omega | exact lq (by omega) | exact nq (by omega) | rfl | (congr 1; omega)
     refine cwp_lp ho1 (fun (v33, v35, v36) s => ∃ l32 : Nat, ∃ l34 : Nat, s.T 1 = .sl 1 (a1.map int) ∧ s.T 2 = .loc 0 1 0 0 ∧ s.T 6 = .msl l32 v33.length ∧ s.T 7 = .msl l34 v35.length ∧ s.T 8 = int v36 ∧ s.T 9 = int v7 ∧ s.H 0 = some (.row 26 1 [xk a0]) ∧ s.H l32 = some (.row 71 3 (v33.map encWay)) ∧ s.H l34 = some (.row 114 2 (v35.map xw)) ∧ Lq 0 s.nx ∧ Lq l32 s.nx ∧ Lq l34 s.nx ∧ Nq 0 l32 ∧ Nq 0 l34 ∧ Nq l32 l34) ?_ ?_
     · refine TI.here ⟨(x1 + 28), l4, ?_, ?_, ?_, ?_, ?_, ?_, ?_, ?_, ?_, ?_, ?_, ?_, ?_, ?_, ?_⟩
       all_goals try simp only [kk0, e14, e17, e21, e25, e26, e29, xn, ↓EVd, isCall, sevalprocAttr]
       all_goals first | omega | exact lq (by omega) | exact nq (by omega) | rfl | (congr 1; omega)
     rintro I1 ⟨v33, v35, v36⟩ T1 H1 x31 st1 ⟨l32, l34, kk1⟩ hm2 hI1 hO1
     dsimp only [Lq, Nq] at kk1
     simp only [xje] at hm2
     rcases iteE hm2 with ⟨e44, hm2⟩ | ⟨e44, hm2⟩
     · obtain ⟨v45, e47, hm2⟩ := ixE encWay hm2
       have g87 := And.intro (And.intro (And.intro ((e14)) ((e17))) (And.intro ((e21)) ((e25)))) (And.intro (And.intro ((e26)) ((e29))) (And.intro ((e44)) ((e47))))
       obtain ⟨v48, h49, hm2⟩ := bsE hm2
       simp only [kk1, g87, xn, ↓EVd, isCall, sevalprocAttr]
       refine qd (xkk _ _ _ h49) rfl ?_
       obtain ⟨o2, ho2, hm2⟩ := bsE hm2
       simp only [kk1, g87, xn, ↓EVd, isCall, sevalprocAttr]
       refine cwp_cx 4 (fun s => ∃ v58 : List Way, ∃ v60 : List Ar2_Int, ∃ l57 : Nat, ∃ l59 : Nat, (s.T 1 = .sl 1 (a1.map int) ∧ s.T 2 = .loc 0 1 0 0 ∧ s.T 6 = .msl l57 v58.length ∧ s.T 7 = .msl l59 v60.length ∧ s.T 8 = int v36 ∧ s.T 9 = int v7 ∧ s.H 0 = some (.row 26 1 [xk a0]) ∧ s.H l57 = some (.row 71 3 (v58.map encWay)) ∧ s.H l59 = some (.row 114 2 (v60.map xw)) ∧ Lq 0 s.nx ∧ Lq l57 s.nx ∧ Lq l59 s.nx ∧ Nq 0 l57 ∧ Nq 0 l59 ∧ Nq l57 l59) ∧ (v58, v60) = o2) ?_ fun J2_0 hJ2_0 => ?_
       · rintro T2 H2 x56 ⟨v58, v60, l57, l59, kk2_0, rfl⟩
         dsimp only [Lq, Nq] at kk2_0
         try dsimp only at hm2
         obtain rfl := Option.some.inj hm2
         simp only [kk2_0, g87, xn, ↓EVd, isCall, sevalprocAttr]
         refine TI.here (hI1 _ rfl _ ⟨l57, l59, ?_, ?_, ?_, ?_, ?_, ?_, ?_, ?_, ?_, ?_, ?_, ?_, ?_, ?_, ?_⟩)
         all_goals try simp only [kk2_0, g87, xn, ↓EVd, isCall, sevalprocAttr]
         all_goals first | omega | exact lq (by omega) | exact nq (by omega) | rfl | (congr 1; omega)
       refine cwp_lp ho2 (fun (v52, v54, v55) s => ∃ l51 : Nat, ∃ l53 : Nat, s.T 1 = .sl 1 (a1.map int) ∧ s.T 2 = .loc 0 1 0 0 ∧ s.T 6 = .msl l51 v52.length ∧ s.T 7 = .msl l53 v54.length ∧ s.T 8 = int v36 ∧ s.T 9 = int v7 ∧ s.T 10 = .sl 3 (v48.entries.map xp) ∧ s.T 11 = int v55 ∧ s.H 0 = some (.row 26 1 [xk a0]) ∧ s.H l51 = some (.row 71 3 (v52.map encWay)) ∧ s.H l53 = some (.row 114 2 (v54.map xw)) ∧ Lq 0 s.nx ∧ Lq l51 s.nx ∧ Lq l53 s.nx ∧ Nq 0 l51 ∧ Nq 0 l53 ∧ Nq l51 l53) ?_ ?_
       · refine TI.here ⟨l32, l34, ?_, ?_, ?_, ?_, ?_, ?_, ?_, ?_, ?_, ?_, ?_, ?_, ?_, ?_, ?_, ?_, ?_⟩
         all_goals try simp only [kk1, g87, xn, ↓EVd, isCall, sevalprocAttr]
         all_goals first | omega | exact lq (by omega) | exact nq (by omega) | rfl | (congr 1; omega)
       rintro I2 ⟨v52, v54, v55⟩ T2 H2 x50 st2 ⟨l51, l53, kk2⟩ hm3 hI2 hO2
       dsimp only [Lq, Nq] at kk2
       simp only [xke] at hm3
       rcases iteE hm3 with ⟨e62, hm3⟩ | ⟨e62, hm3⟩
       · obtain ⟨v63, e65, hm3⟩ := ixE xp hm3
         obtain ⟨v66, h67, hm3⟩ := bsE hm3
         simp only [kk2, g87, e62, e65, xn, ↓EVd, isCall, sevalprocAttr]
         refine qd (xkk _ _ _ h67) rfl ?_
         rcases iteE hm3 with ⟨e69, hm3⟩ | ⟨e69, hm3⟩
         · obtain ⟨v70, h71, hm3⟩ := bsE hm3
           simp only [kk2, g87, e62, e65, e69, xn, ↓EVd, isCall, sevalprocAttr]
           refine qcb (xfn _ _ _ h71) rfl (by simp only [kk2, g87, e62, e65, e69, FZ, CLO, xn, ↓EVd, isCall, sevalprocAttr]) ?_
           rcases iteE hm3 with ⟨e73, hm3⟩ | ⟨e73, hm3⟩
           · obtain ⟨v74, e76, hm3⟩ := ixE encWay hm3
             have e77 : (.agg [int v74.ino, int v63.slot] : AV) = xw (⟨v74.ino, v63.slot⟩ : Ar2_Int) := _root_.id rfl
             obtain ⟨e80, hm3⟩ := apE hm3
             try simp only [ZL] at e80
             obtain rfl := Option.some.inj hm3
             simp only [kk2, g87, e62, e65, e69, e73, e76, e77, e80, xn, ↓EVd, isCall, sevalprocAttr]
             refine TI.here (hI2 _ rfl _ ⟨l51, (x50 + 34), ?_, ?_, ?_, ?_, ?_, ?_, ?_, ?_, ?_, ?_, ?_, ?_, ?_, ?_, ?_, ?_, ?_⟩)
             all_goals try simp only [kk2, g87, e62, e65, e69, e73, e76, e77, e80, xn, ↓EVd, isCall, sevalprocAttr]
             all_goals first | omega | exact lq (by omega) | exact nq (by omega) | rfl | (congr 1; omega)
           have e82 : (.agg [int v63.ino, int v36, str v63.name] : AV) = encWay (⟨v63.ino, v36, v63.name⟩ : Way) := _root_.id rfl
           obtain ⟨e85, hm3⟩ := apE hm3
           try simp only [ZL] at e85
           obtain rfl := Option.some.inj hm3
           simp only [kk2, g87, e62, e65, e69, e73, e82, e85, xn, ↓EVd, isCall, sevalprocAttr]
           refine TI.here (hI2 _ rfl _ ⟨(x50 + 35), l53, ?_, ?_, ?_, ?_, ?_, ?_, ?_, ?_, ?_, ?_, ?_, ?_, ?_, ?_, ?_, ?_, ?_⟩)
           all_goals try simp only [kk2, g87, e62, e65, e69, e73, e82, e85, xn, ↓EVd, isCall, sevalprocAttr]
           all_goals first | omega | exact lq (by omega) | exact nq (by omega) | rfl | (congr 1; omega)
         obtain rfl := Option.some.inj hm3
         simp only [kk2, g87, e62, e65, e69, xn, ↓EVd, isCall, sevalprocAttr]
         refine TI.here (hI2 _ rfl _ ⟨l51, l53, ?_, ?_, ?_, ?_, ?_, ?_, ?_, ?_, ?_, ?_, ?_, ?_, ?_, ?_, ?_, ?_, ?_⟩)
         all_goals try simp only [kk2, g87, e62, e65, e69, xn, ↓EVd, isCall, sevalprocAttr]
         all_goals first | omega | exact lq (by omega) | exact nq (by omega) | rfl | (congr 1; omega)
       obtain rfl := Option.some.inj hm3
       simp only [kk2, g87, e62, xn, ↓EVd, isCall, sevalprocAttr]
       refine TI.here (hJ2_0 _ ⟨v52, v54, l51, l53, ⟨?_, ?_, ?_, ?_, ?_, ?_, ?_, ?_, ?_, ?_, ?_, ?_, ?_, ?_, ?_⟩, hO2 _ rfl⟩)
       all_goals try simp only [kk2, g87, e62, xn, ↓EVd, isCall, sevalprocAttr]
       all_goals first | omega | exact lq (by omega) | exact nq (by omega) | rfl | (congr 1; omega)
     obtain rfl := Option.some.inj hm2
     simp only [kk1, e14, e17, e21, e25, e26, e29, e44, xn, ↓EVd, isCall, sevalprocAttr]
     refine TI.here (hJ1_0 _ ⟨v33, v35, v36, l32, l34, ⟨?_, ?_, ?_, ?_, ?_, ?_, ?_, ?_, ?_, ?_, ?_, ?_, ?_, ?_, ?_⟩, hO1 _ rfl⟩)
     all_goals try simp only [kk1, e14, e17, e21, e25, e26, e29, e44, xn, ↓EVd, isCall, sevalprocAttr]
     all_goals first | omega | exact lq (by omega) | exact nq (by omega) | rfl | (congr 1; omega)
   obtain rfl := Option.some.inj hm1
   simp only [kk0, e14, e17, e21, xn, ↓EVd, isCall, sevalprocAttr]
   refine TI.here (hI0 _ rfl _ ⟨l2, l4, ?_, ?_, ?_, ?_, ?_, ?_, ?_, ?_, ?_, ?_, ?_, ?_, ?_, ?_, ?_⟩)
   all_goals try simp only [kk0, e14, e17, e21, xn, ↓EVd, isCall, sevalprocAttr]
   all_goals first | omega | exact lq (by omega) | exact nq (by omega) | rfl | (congr 1; omega)
 obtain rfl := Option.some.inj hm1
 simp only [kk0, e14, xn, ↓EVd, isCall, sevalprocAttr]
 refine TI.here (hJ0_0 _ ⟨v3, v5, l2, l4, ⟨?_, ?_, ?_, ?_, ?_, ?_, ?_⟩, hO0 _ rfl⟩)
 all_goals try simp only [kk0, e14, xn, ↓EVd, isCall, sevalprocAttr]
 all_goals first | omega | exact lq (by omega) | exact nq (by omega) | rfl | (congr 1; omega)
def xxj (a0 : Branch) (a1 : List Int) : Option (List Way) := (xsh a0 a1).bind fun v1 => some v1.1
def xpp := aI (aI (aI (@EV) (@R3)) (aI (@R26) (aI (@R34) (@DBranch)))) (aI (aI (@DOrigin) (@DAttr)) (aI (@DNode) (aI (@DWay) (@DEntry))))
set_option maxHeartbeats 2000000 in
theorem xqy (a0 : Branch) (a1 : List Int) (r : List Way) (hm0 : xxj a0 a1 = some r) : Ok Tryd.prog 23 [xk a0, .sl 1 (a1.map int)] (.sl 3 (r.map encWay)) := by
 unfold xxj at hm0
 refine okG x3x ?_
 unfold xsr
 obtain ⟨v1, h2, hm0⟩ := bsE hm0
 simp only [xpp, ↓EVd, isCall, sevalprocAttr]
 refine qc (xty _ _ _ h2) rfl ?_
 obtain rfl := Option.some.inj hm0
 simp only [xpp, ↓EVd, isCall, sevalprocAttr]
 all_goals first | done | rfl | exact xg (by simp only [CLO])
def x5d (v19 : Node) : (Int × List Bool) → Option (St (Int × List Bool) (List Bool))
 | (v22, v23) => if v22 < (v19.entries.length : Int) then (ix v19.entries v22).bind fun v28 => if 1 ≤ v28.ino then if v28.ino ≤ (v23.length : Int) then (ix v23 (wr (v28.ino - 1))).bind fun v35 => some (.nx ((wr (v22 + 1)), (v23.set ((wr (v28.ino - 1))).toNat true)))
 else some (.nx ((wr (v22 + 1)), v23))
 else some (.nx ((wr (v22 + 1)), v23))
 else some (.out v23)
def xgf (a0 : Branch) (v4 : List Way) : (Int × List Bool) → Option (St (Int × List Bool) (List Bool))
 | (v7, v8) => if v7 < (v4.length : Int) then (ix v4 v7).bind fun v13 => (ix v8 (wr (v13.ino - 1))).bind fun v16 => (xsf a0 v13.ino).bind fun v19 => (iter (x5d v19) big (0, (v8.set ((wr (v13.ino - 1))).toNat true))).bind fun o => (match o with
 | v25 => some (.nx ((wr (v7 + 1)), v25)))
 else some (.out v8)
def x0g (a0 : Branch) (a1 : List Int) : Option (List Bool) := (ck (0 ≤ (a0.nodes.length : Int) ∧ (a0.nodes.length : Int) ≤ (a0.nodes.length : Int) ∧ (1 : Int) * (a0.nodes.length : Int) ≤ 281474976710656 ∧ (a0.nodes.length : Int) ≤ 9223372036854775807)).bind fun _ => (xxj a0 a1).bind fun v4 => (iter (xgf a0 v4) big (0, (List.replicate (a0.nodes.length : Int).toNat false))).bind fun o => (match o with
 | v10 => some v10)
def xjb := aI (aI (aI (aI (@EV) (@R3)) (aI (@R4) (@R24))) (aI (aI (@R26) (@R32)) (aI (@R34) (aI (@R41) (@R47))))) (aI (aI (aI (@R68) (@R71)) (aI (@R74) (aI (@DBranch) (@DOrigin)))) (aI (aI (@DAttr) (@DNode)) (aI (@DWay) (aI (@DEntry) (@mixed)))))
set_option maxHeartbeats 2000000 in
theorem xxv (a0 : Branch) (a1 : List Int) (r : List Bool) (hm0 : x0g a0 a1 = some r) : Ok Tryd.prog 6 [xk a0, .sl 1 (a1.map int)] (.sl 1 (r.map bool)) := by
 unfold x0g at hm0
 refine okG xrv ?_
 unfold xxo
 obtain ⟨e2, hm0⟩ := ckE hm0
 have e3 : List.replicate ((a0.nodes.length : Int).toNat) (bool false) = (List.replicate ((a0.nodes.length : Int).toNat) false).map bool := (by simp only [List.map_replicate]; first | done | rfl)
 obtain ⟨v4, h5, hm0⟩ := bsE hm0
 simp only [e2, e3, xjb, ↓EVd, isCall, sevalprocAttr]
 refine qc (xqy _ _ _ h5) rfl ?_
 obtain ⟨o0, ho0, hm0⟩ := bsE hm0
 simp only [e2, e3, xjb, ↓EVd, isCall, sevalprocAttr]
 refine cwp_cx 0 (fun s => ∃ v10 : List Bool, (s.T 5 = .msl 5 v10.length ∧ s.H 5 = some (.row 4 1 (v10.map bool)) ∧ Lq 5 s.nx) ∧ v10 = o0) ?_ fun J0_0 hJ0_0 => ?_
 · rintro T0 H0 x9 ⟨v10, kk0_0, rfl⟩
   dsimp only [Lq, Nq] at kk0_0
   try dsimp only at hm0
   obtain rfl := Option.some.inj hm0
   simp only [kk0_0, e2, e3, xjb, ↓EVd, isCall, sevalprocAttr]
   all_goals first | done | rfl | exact frzR_e (by simp only [kk0_0, e2, e3, FZ, CLO, xjb, ↓EVd, isCall, sevalprocAttr])
 refine cwp_lp ho0 (fun (v7, v8) s => s.T 2 = .loc 0 1 0 0 ∧ s.T 5 = .msl 5 v8.length ∧ s.T 6 = .sl 3 (v4.map encWay) ∧ s.T 7 = int v7 ∧ s.H 0 = some (.row 26 1 [xk a0]) ∧ s.H 5 = some (.row 4 1 (v8.map bool)) ∧ Lq 0 s.nx ∧ Lq 5 s.nx) ?_ ?_
 · refine TI.here ⟨?_, ?_, ?_, ?_, ?_, ?_, ?_, ?_⟩
   all_goals try simp only [e2, e3, xjb, ↓EVd, isCall, sevalprocAttr]
   all_goals first | omega | exact lq (by omega) | exact nq (by omega) | rfl | (congr 1; omega)
 rintro I0 ⟨v7, v8⟩ T0 H0 x6 st0 kk0 hm1 hI0 hO0
 dsimp only [Lq, Nq] at kk0
 simp only [xgf] at hm1
 rcases iteE hm1 with ⟨e12, hm1⟩ | ⟨e12, hm1⟩
 · obtain ⟨v13, e15, hm1⟩ := ixE encWay hm1
   obtain ⟨v16, e18, hm1⟩ := ixE bool hm1
   obtain ⟨v19, h20, hm1⟩ := bsE hm1
   simp only [kk0, e2, e3, e12, e15, e18, xjb, ↓EVd, isCall, sevalprocAttr]
   refine qd (xkk _ _ _ h20) rfl ?_
   obtain ⟨o1, ho1, hm1⟩ := bsE hm1
   simp only [kk0, e2, e3, e12, e15, e18, xjb, ↓EVd, isCall, sevalprocAttr]
   refine cwp_cx 2 (fun s => ∃ v25 : List Bool, (s.T 2 = .loc 0 1 0 0 ∧ s.T 5 = .msl 5 v25.length ∧ s.T 6 = .sl 3 (v4.map encWay) ∧ s.T 7 = int v7 ∧ s.H 0 = some (.row 26 1 [xk a0]) ∧ s.H 5 = some (.row 4 1 (v25.map bool)) ∧ Lq 0 s.nx ∧ Lq 5 s.nx) ∧ v25 = o1) ?_ fun J1_0 hJ1_0 => ?_
   · rintro T1 H1 x24 ⟨v25, kk1_0, rfl⟩
     dsimp only [Lq, Nq] at kk1_0
     try dsimp only at hm1
     obtain rfl := Option.some.inj hm1
     simp only [kk1_0, e2, e3, e12, e15, e18, xjb, ↓EVd, isCall, sevalprocAttr]
     refine TI.here (hI0 _ rfl _ ⟨?_, ?_, ?_, ?_, ?_, ?_, ?_, ?_⟩)
     all_goals try simp only [kk1_0, e2, e3, e12, e15, e18, xjb, ↓EVd, isCall, sevalprocAttr]
     all_goals first | omega | exact lq (by omega) | exact nq (by omega) | rfl | (congr 1; omega)
   refine cwp_lp ho1 (fun (v22, v23) s => s.T 2 = .loc 0 1 0 0 ∧ s.T 5 = .msl 5 v23.length ∧ s.T 6 = .sl 3 (v4.map encWay) ∧ s.T 7 = int v7 ∧ s.T 8 = .sl 3 (v19.entries.map xp) ∧ s.T 9 = int v22 ∧ s.H 0 = some (.row 26 1 [xk a0]) ∧ s.H 5 = some (.row 4 1 (v23.map bool)) ∧ Lq 0 s.nx ∧ Lq 5 s.nx) ?_ ?_
   · refine TI.here ⟨?_, ?_, ?_, ?_, ?_, ?_, ?_, ?_, ?_, ?_⟩
     all_goals try simp only [kk0, e2, e3, e12, e15, e18, xjb, ↓EVd, isCall, sevalprocAttr]
     all_goals first | omega | exact lq (by omega) | exact nq (by omega) | rfl | (congr 1; omega)
   rintro I1 ⟨v22, v23⟩ T1 H1 x21 st1 kk1 hm2 hI1 hO1
   dsimp only [Lq, Nq] at kk1
   simp only [x5d] at hm2
   rcases iteE hm2 with ⟨e27, hm2⟩ | ⟨e27, hm2⟩
   · obtain ⟨v28, e30, hm2⟩ := ixE xp hm2
     rcases iteE hm2 with ⟨e32, hm2⟩ | ⟨e32, hm2⟩
     · have g38 := And.intro (And.intro (And.intro ((e2)) ((e3))) (And.intro ((e12)) ((e15)))) (And.intro (And.intro ((e18)) ((e27))) (And.intro ((e30)) ((e32))))
       rcases iteE hm2 with ⟨e34, hm2⟩ | ⟨e34, hm2⟩
       · obtain ⟨v35, e37, hm2⟩ := ixE bool hm2
         obtain rfl := Option.some.inj hm2
         simp only [kk1, g38, e34, e37, xjb, ↓EVd, isCall, sevalprocAttr]
         refine TI.here (hI1 _ rfl _ ⟨?_, ?_, ?_, ?_, ?_, ?_, ?_, ?_, ?_, ?_⟩)
         all_goals try simp only [kk1, g38, e34, e37, xjb, ↓EVd, isCall, sevalprocAttr]
         all_goals first | omega | exact lq (by omega) | exact nq (by omega) | rfl | (congr 1; omega)
       obtain rfl := Option.some.inj hm2
       simp only [kk1, g38, e34, xjb, ↓EVd, isCall, sevalprocAttr]
       refine TI.here (hI1 _ rfl _ ⟨?_, ?_, ?_, ?_, ?_, ?_, ?_, ?_, ?_, ?_⟩)
       all_goals try simp only [kk1, g38, e34, xjb, ↓EVd, isCall, sevalprocAttr]
       all_goals first | omega | exact lq (by omega) | exact nq (by omega) | rfl | (congr 1; omega)
     obtain rfl := Option.some.inj hm2
     simp only [kk1, e2, e3, e12, e15, e18, e27, e30, e32, xjb, ↓EVd, isCall, sevalprocAttr]
     refine TI.here (hI1 _ rfl _ ⟨?_, ?_, ?_, ?_, ?_, ?_, ?_, ?_, ?_, ?_⟩)
     all_goals try simp only [kk1, e2, e3, e12, e15, e18, e27, e30, e32, xjb, ↓EVd, isCall, sevalprocAttr]
     all_goals first | omega | exact lq (by omega) | exact nq (by omega) | rfl | (congr 1; omega)
   obtain rfl := Option.some.inj hm2
   simp only [kk1, e2, e3, e12, e15, e18, e27, xjb, ↓EVd, isCall, sevalprocAttr]
   refine TI.here (hJ1_0 _ ⟨v23, ⟨?_, ?_, ?_, ?_, ?_, ?_, ?_, ?_⟩, hO1 _ rfl⟩)
   all_goals try simp only [kk1, e2, e3, e12, e15, e18, e27, xjb, ↓EVd, isCall, sevalprocAttr]
   all_goals first | omega | exact lq (by omega) | exact nq (by omega) | rfl | (congr 1; omega)
 obtain rfl := Option.some.inj hm1
 simp only [kk0, e2, e3, e12, xjb, ↓EVd, isCall, sevalprocAttr]
 refine TI.here (hJ0_0 _ ⟨v8, ⟨?_, ?_, ?_⟩, hO0 _ rfl⟩)
 all_goals try simp only [kk0, e2, e3, e12, xjb, ↓EVd, isCall, sevalprocAttr]
 all_goals first | omega | exact lq (by omega) | exact nq (by omega) | rfl | (congr 1; omega)
end Go.Proofs.YtmacnoajlofdbaaDoor.AL

