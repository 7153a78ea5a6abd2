/- A law of the given program is proved: part 37 of 51. -/
import Derived.Test.YtfkgckbdknpcnaaGreatDoorA36
set_option linter.all false
/- Models of functions, and that the functions are as their models: written by gen.py. -/
set_option linter.all false
set_option maxRecDepth 100000
namespace Go.Proofs.YtfkgckbdknpcnaaGreatDoor.AL
open Go Go.Proofs
def xwc (a0 : Branch) (a1 : Int) : Option (Node) := if a1 < 1 then some (⟨0, 0, 0, 0, [], [], (⟨0, 0, xk, (⟨0, 0, 0⟩ : Origin), 0⟩ : Attr)⟩ : Node)
 else if (a0.nodes.length : Int) < a1 then some (⟨0, 0, 0, 0, [], [], (⟨0, 0, xk, (⟨0, 0, 0⟩ : Origin), 0⟩ : Attr)⟩ : Node)
 else (ix a0.nodes (wr (a1 - 1))).bind fun v5 => some v5
def xsq := aI (aI (aI (@EV) (@R3)) (aI (@R24) (@R26))) (aI (aI (@R68) (@DBranch)) (aI (@DAttr) (aI (@DNode) (@DEntry))))
set_option maxHeartbeats 2000000 in
theorem x4e (a0 : Branch) (a1 : Int) (r : Node) (hm0 : xwc a0 a1 = some r) : Ok Tryz.prog 49 [xi a0, int a1] (xf r) := by
 unfold xwc at hm0
 refine okG xs5 ?_
 unfold xdy
 rcases iteE hm0 with ⟨e2, hm0⟩ | ⟨e2, hm0⟩
 · obtain rfl := Option.some.inj hm0
   simp only [e2, xsq, ↓EVd, isCall, sevalprocAttr]
   all_goals first | done | rfl | exact xd (by simp only [CLO]) | exact xn (by simp only [CLO]) (Sub.agg (Subs.cons (Sub.refl _) (Subs.cons (Sub.refl _) (Subs.cons (Sub.refl _) (Subs.cons (Sub.refl _) (Subs.cons (Sub.nilS _) (Subs.cons (Sub.nilS _) (Subs.cons (Sub.refl _) (Subs.cons (Sub.refl _) (Subs.cons (Sub.refl _) (Subs.cons (Sub.refl _) (Subs.cons (Sub.refl _) (Subs.cons (Sub.refl _) (Subs.cons (Sub.refl _) (Subs.nil)))))))))))))))
 rcases iteE hm0 with ⟨e4, hm0⟩ | ⟨e4, hm0⟩
 · obtain rfl := Option.some.inj hm0
   simp only [e2, e4, xsq, ↓EVd, isCall, sevalprocAttr]
   all_goals first | done | rfl | exact xd (by simp only [CLO]) | exact xn (by simp only [CLO]) (Sub.agg (Subs.cons (Sub.refl _) (Subs.cons (Sub.refl _) (Subs.cons (Sub.refl _) (Subs.cons (Sub.refl _) (Subs.cons (Sub.nilS _) (Subs.cons (Sub.nilS _) (Subs.cons (Sub.refl _) (Subs.cons (Sub.refl _) (Subs.cons (Sub.refl _) (Subs.cons (Sub.refl _) (Subs.cons (Sub.refl _) (Subs.cons (Sub.refl _) (Subs.cons (Sub.refl _) (Subs.nil)))))))))))))))
 obtain ⟨v5, e7, hm0⟩ := ixE xf hm0
 obtain rfl := Option.some.inj hm0
 simp only [e2, e4, e7, xsq, ↓EVd, isCall, sevalprocAttr]
 all_goals first | done | rfl | exact xd (by simp only [CLO])
def xjg (a0 : List Way) (a1 : Int) : Int → Option (St (Int) ((Unit) ⊕ (Int)))
 | v2 => if v2 < (a0.length : Int) then (ix a0 v2).bind fun v6 => if v6.ino = a1 then some (.out (.inr v2))
 else some (.nx (wr (v2 + 1)))
 else some (.out (.inl ()))
def xsg (a0 : List Way) (a1 : Int) : Option (Int) := (iter (xjg a0 a1) big 0).bind fun o => (match o with
 | (.inl _) => some (-1)
 | (.inr r) => some r)
def xsf := aI (aI (@EV) (@R3)) (aI (@R51) (aI (@R77) (@DWay)))
set_option maxHeartbeats 2000000 in
theorem xpp (a0 : List Way) (a1 : Int) (r : Int) (hm0 : xsg a0 a1 = some r) : Ok Tryz.prog 91 [.sl 3 (a0.map encWay), int a1] (int r) := by
 unfold xsg at hm0
 refine okG xdz ?_
 unfold xrr
 obtain ⟨o0, ho0, hm0⟩ := bsE hm0
 simp only [xsf, ↓EVd, isCall, sevalprocAttr]
 refine cwp_cx 0 (fun s => (.inl ()) = o0) ?_ fun J0_0 hJ0_0 => ?_
 · rintro T0 H0 x3 rfl
   try dsimp only at hm0
   obtain rfl := Option.some.inj hm0
   simp only [xsf, ↓EVd, isCall, sevalprocAttr]
   all_goals first | done | rfl
 refine cwp_lp ho0 (fun v2 s => s.T 0 = .sl 3 (a0.map encWay) ∧ s.T 1 = int a1 ∧ s.T 5 = int v2) ?_ ?_
 · refine TI.here ⟨?_, ?_, ?_⟩
   all_goals try simp only [xsf, ↓EVd, isCall, sevalprocAttr]
   all_goals first | omega | exact lq (by omega) | exact nq (by omega) | rfl | (congr 1; omega)
 rintro I0 v2 T0 H0 x1 st0 kk0 hm1 hI0 hO0
 dsimp only [Lq, Nq] at kk0
 simp only [xjg] at hm1
 rcases iteE hm1 with ⟨e5, hm1⟩ | ⟨e5, hm1⟩
 · obtain ⟨v6, e8, hm1⟩ := ixE encWay hm1
   rcases iteE hm1 with ⟨e10, hm1⟩ | ⟨e10, hm1⟩
   · obtain rfl := Option.some.inj hm1
     obtain rfl := hO0 _ rfl
     try dsimp only at hm0
     obtain rfl := Option.some.inj hm0
     simp only [kk0, e5, e8, e10, xsf, ↓EVd, isCall, sevalprocAttr]
     all_goals first | done | rfl
   obtain rfl := Option.some.inj hm1
   simp only [kk0, e5, e8, e10, xsf, ↓EVd, isCall, sevalprocAttr]
   refine TI.here (hI0 _ rfl _ ⟨?_, ?_, ?_⟩)
   all_goals try simp only [kk0, e5, e8, e10, xsf, ↓EVd, isCall, sevalprocAttr]
   all_goals first | omega | exact lq (by omega) | exact nq (by omega) | rfl | (congr 1; omega)
 obtain rfl := Option.some.inj hm1
 simp only [kk0, e5, xsf, ↓EVd, isCall, sevalprocAttr]
 refine TI.here (hJ0_0 _ (hO0 _ rfl))
def xjf (a0 : Branch) (v36 : Int) (v48 : Node) : (List Way × List Ar2_Int × Int) → Option (St (List Way × List Ar2_Int × Int) (List Way × List Ar2_Int))
 | (v52, v54, v55) => if v55 < (v48.entries.length : Int) then (ix v48.entries v55).bind fun v63 => (xwc a0 v63.ino).bind fun v66 => if v66.kind = 1 then (xsg v52 v63.ino).bind fun v70 => if 0 ≤ v70 then (ix v52 v36).bind fun v74 => (ap 16 v54 ([(⟨v74.ino, v63.slot⟩ : Ar2_Int)] : List Ar2_Int)).bind fun _ => some (.nx (v52, (v54 ++ ([(⟨v74.ino, v63.slot⟩ : Ar2_Int)] : List Ar2_Int)), (wr (v55 + 1))))
 else (ap 32 v52 ([(⟨v63.ino, v36, v63.name⟩ : Way)] : List Way)).bind fun _ => some (.nx ((v52 ++ ([(⟨v63.ino, v36, v63.name⟩ : Way)] : List Way)), v54, (wr (v55 + 1))))
 else some (.nx (v52, v54, (wr (v55 + 1))))
 else some (.out (v52, v54))
def xlf (a0 : Branch) : (List Way × List Ar2_Int × Int) → Option (St (List Way × List Ar2_Int × Int) (List Way × List Ar2_Int × Int))
 | (v33, v35, v36) => if v36 < (v33.length : Int) then (ix v33 v36).bind fun v45 => (xwc a0 v45.ino).bind fun v48 => (iter (xjf a0 v36 v48) big (v33, v35, 0)).bind fun o => (match o with
 | (v58, v60) => some (.nx (v58, v60, (wr (v36 + 1)))))
 else some (.out (v33, v35, v36))
def x0g (a0 : Branch) (a1 : List Int) : (List Way × List Ar2_Int × Int × Int) → Option (St (List Way × List Ar2_Int × Int × Int) (List Way × List Ar2_Int))
 | (v3, v5, v6, v7) => if v7 < (a1.length : Int) then (ix a1 v7).bind fun v15 => (xwc a0 v15).bind fun v18 => if v18.kind = 1 then (xsg v3 v15).bind fun v22 => if 0 ≤ v22 then some (.nx (v3, v5, v6, (wr (v7 + 1))))
 else (ap 32 v3 ([(⟨v15, (-1), xk⟩ : Way)] : List Way)).bind fun _ => (iter (xlf a0) big ((v3 ++ ([(⟨v15, (-1), xk⟩ : Way)] : List Way)), v5, v6)).bind fun o => (match o with
 | (v39, v41, v42) => some (.nx (v39, v41, v42, (wr (v7 + 1)))))
 else some (.nx (v3, v5, v6, (wr (v7 + 1))))
 else some (.out (v3, v5))
def x6i (a0 : Branch) (a1 : List Int) : Option (List Way × List Ar2_Int) := (iter (x0g a0 a1) big (([] : List Way), ([] : List Ar2_Int), 0, 0)).bind fun o => (match o with
 | (v10, v12) => some (v10, v12))
def xq := aI (aI (aI (aI (@EV) (@R3)) (aI (@R9) (@R26))) (aI (aI (@R51) (@R62)) (aI (@R68) (aI (@R73) (@R77))))) (aI (aI (aI (@R87) (@R113)) (aI (@R136) (aI (@DBranch) (@DAttr)))) (aI (aI (@DNode) (@DWay)) (aI (@DEntry) (aI (@xpw) (@mixed)))))
set_option maxHeartbeats 2000000 in
theorem xf1 (a0 : Branch) (a1 : List Int) (r : List Way × List Ar2_Int) (hm0 : x6i a0 a1 = some r) : Ok Tryz.prog 69 [xi a0, .sl 1 (a1.map int)] (.tup [.sl 3 (r.1.map encWay), .sl 2 (r.2.map xz)]) := by
 unfold x6i at hm0
 refine okG xb1 ?_
 unfold x6t
 obtain ⟨o0, ho0, hm0⟩ := bsE hm0
 simp only [xq, ↓EVd, isCall, sevalprocAttr]
 refine cwp_cx 0 (fun s => ∃ v10 : List Way, ∃ v12 : List Ar2_Int, ∃ l9 : Nat, ∃ l11 : Nat, (s.T 6 = .msl l9 v10.length ∧ s.T 7 = .msl l11 v12.length ∧ s.H l9 = some (.row 77 3 (v10.map encWay)) ∧ s.H l11 = some (.row 136 2 (v12.map xz)) ∧ Lq l9 s.nx ∧ Lq l11 s.nx ∧ Nq l9 l11) ∧ (v10, v12) = o0) ?_ fun J0_0 hJ0_0 => ?_
 · rintro T0 H0 x8 ⟨v10, v12, l9, l11, kk0_0, rfl⟩
   dsimp only [Lq, Nq] at kk0_0
   try dsimp only at hm0
   obtain rfl := Option.some.inj hm0
   simp only [kk0_0, xq, ↓EVd, isCall, sevalprocAttr]
   all_goals first | done | rfl | exact xve 9 (by simp only [kk0_0, FZ, CLO, xq, ↓EVd, isCall, sevalprocAttr]) (Sub.tup (Subs.cons (Sub.refl _) (Subs.cons (Sub.refl _) (Subs.nil))))
 refine cwp_lp ho0 (fun (v3, v5, v6, v7) s => ∃ l2 : Nat, ∃ l4 : Nat, s.T 1 = .sl 1 (a1.map int) ∧ s.T 2 = .loc 0 1 0 0 ∧ s.T 6 = .msl l2 v3.length ∧ s.T 7 = .msl l4 v5.length ∧ s.T 8 = int v6 ∧ s.T 9 = int v7 ∧ s.H 0 = some (.row 26 1 [xi a0]) ∧ s.H l2 = some (.row 77 3 (v3.map encWay)) ∧ s.H l4 = some (.row 136 2 (v5.map xz)) ∧ Lq 0 s.nx ∧ Lq l2 s.nx ∧ Lq l4 s.nx ∧ Nq 0 l2 ∧ Nq 0 l4 ∧ Nq l2 l4) ?_ ?_
 · refine TI.here ⟨3, 4, ?_, ?_, ?_, ?_, ?_, ?_, ?_, ?_, ?_, ?_, ?_, ?_, ?_, ?_, ?_⟩
   all_goals try simp only [xq, ↓EVd, isCall, sevalprocAttr]
   all_goals first | omega | exact lq (by omega) | exact nq (by omega) | rfl | (congr 1; omega)
 rintro I0 ⟨v3, v5, v6, v7⟩ T0 H0 x1 st0 ⟨l2, l4, kk0⟩ hm1 hI0 hO0
 dsimp only [Lq, Nq] at kk0
 simp only [x0g] at hm1
 rcases iteE hm1 with ⟨e14, hm1⟩ | ⟨e14, hm1⟩
 · obtain ⟨v15, e17, hm1⟩ := ixE int hm1
   obtain ⟨v18, h19, hm1⟩ := bsE hm1
   simp only [kk0, e14, e17, xq, ↓EVd, isCall, sevalprocAttr]
   refine qd (x4e _ _ _ h19) rfl ?_
   rcases iteE hm1 with ⟨e21, hm1⟩ | ⟨e21, hm1⟩
   · obtain ⟨v22, h23, hm1⟩ := bsE hm1
     simp only [kk0, e14, e17, e21, xq, ↓EVd, isCall, sevalprocAttr]
     refine qdb (xpp _ _ _ h23) rfl (by simp only [kk0, e14, e17, e21, FZ, CLO, xq, ↓EVd, isCall, sevalprocAttr]) ?_
     rcases iteE hm1 with ⟨e25, hm1⟩ | ⟨e25, hm1⟩
     · obtain rfl := Option.some.inj hm1
       simp only [kk0, e14, e17, e21, e25, xq, ↓EVd, isCall, sevalprocAttr]
       refine TI.here (hI0 _ rfl _ ⟨l2, l4, ?_, ?_, ?_, ?_, ?_, ?_, ?_, ?_, ?_, ?_, ?_, ?_, ?_, ?_, ?_⟩)
       all_goals try simp only [kk0, e14, e17, e21, e25, xq, ↓EVd, isCall, sevalprocAttr]
       all_goals first | omega | exact lq (by omega) | exact nq (by omega) | rfl | (congr 1; omega)
     have e26 : (.agg [int v15, int (-1), str xk] : AV) = encWay (⟨v15, (-1), xk⟩ : Way) := _root_.id rfl
     obtain ⟨e29, hm1⟩ := apE hm1
     try simp only [ZL] at e29
     obtain ⟨o1, ho1, hm1⟩ := bsE hm1
     simp only [kk0, e14, e17, e21, e25, e26, e29, xq, ↓EVd, isCall, sevalprocAttr]
     refine cwp_cx 2 (fun s => ∃ v39 : List Way, ∃ v41 : List Ar2_Int, ∃ v42 : Int, ∃ l38 : Nat, ∃ l40 : Nat, (s.T 1 = .sl 1 (a1.map int) ∧ s.T 2 = .loc 0 1 0 0 ∧ s.T 6 = .msl l38 v39.length ∧ s.T 7 = .msl l40 v41.length ∧ s.T 8 = int v42 ∧ s.T 9 = int v7 ∧ s.H 0 = some (.row 26 1 [xi a0]) ∧ s.H l38 = some (.row 77 3 (v39.map encWay)) ∧ s.H l40 = some (.row 136 2 (v41.map xz)) ∧ Lq 0 s.nx ∧ Lq l38 s.nx ∧ Lq l40 s.nx ∧ Nq 0 l38 ∧ Nq 0 l40 ∧ Nq l38 l40) ∧ (v39, v41, v42) = o1) ?_ fun J1_0 hJ1_0 => ?_
     · rintro T1 H1 x37 ⟨v39, v41, v42, l38, l40, kk1_0, rfl⟩
       dsimp only [Lq, Nq] at kk1_0
       try dsimp only at hm1
       obtain rfl := Option.some.inj hm1
       simp only [kk1_0, e14, e17, e21, e25, e26, e29, xq, ↓EVd, isCall, sevalprocAttr]
       refine TI.here (hI0 _ rfl _ ⟨l38, l40, ?_, ?_, ?_, ?_, ?_, ?_, ?_, ?_, ?_, ?_, ?_, ?_, ?_, ?_, ?_⟩)
       all_goals try simp only [kk1_0, e14, e17, e21, e25, e26, e29, xq, ↓EVd, isCall, sevalprocAttr]
       all_goals first | omega | exact lq (by omega) | exact nq (by omega) | rfl | (congr 1; omega)
     refine cwp_lp ho1 (fun (v33, v35, v36) s => ∃ l32 : Nat, ∃ l34 : Nat, s.T 1 = .sl 1 (a1.map int) ∧ s.T 2 = .loc 0 1 0 0 ∧ s.T 6 = .msl l32 v33.length ∧ s.T 7 = .msl l34 v35.length ∧ s.T 8 = int v36 ∧ s.T 9 = int v7 ∧ s.H 0 = some (.row 26 1 [xi a0]) ∧ s.H l32 = some (.row 77 3 (v33.map encWay)) ∧ s.H l34 = some (.row 136 2 (v35.map xz)) ∧ Lq 0 s.nx ∧ Lq l32 s.nx ∧ Lq l34 s.nx ∧ Nq 0 l32 ∧ Nq 0 l34 ∧ Nq l32 l34) ?_ ?_
     · refine TI.here ⟨(x1 + 28), l4, ?_, ?_, ?_, ?_, ?_, ?_, ?_, ?_, ?_, ?_, ?_, ?_, ?_, ?_, ?_⟩
       all_goals try simp only [kk0, e14, e17, e21, e25, e26, e29, xq, ↓EVd, isCall, sevalprocAttr]
       all_goals first | omega | exact lq (by omega) | exact nq (by omega) | rfl | (congr 1; omega)
     rintro I1 ⟨v33, v35, v36⟩ T1 H1 x31 st1 ⟨l32, l34, kk1⟩ hm2 hI1 hO1
     dsimp only [Lq, Nq] at kk1
     simp only [xlf] at hm2
     rcases iteE hm2 with ⟨e44, hm2⟩ | ⟨e44, hm2⟩
     · obtain ⟨v45, e47, hm2⟩ := ixE encWay hm2
       have g87 := And.intro (And.intro (And.intro ((e14)) ((e17))) (And.intro ((e21)) ((e25)))) (And.intro (And.intro ((e26)) ((e29))) (And.intro ((e44)) ((e47))))
       obtain ⟨v48, h49, hm2⟩ := bsE hm2
       simp only [kk1, g87, xq, ↓EVd, isCall, sevalprocAttr]
       refine qd (x4e _ _ _ h49) rfl ?_
       obtain ⟨o2, ho2, hm2⟩ := bsE hm2
       simp only [kk1, g87, xq, ↓EVd, isCall, sevalprocAttr]
       refine cwp_cx 4 (fun s => ∃ v58 : List Way, ∃ v60 : List Ar2_Int, ∃ l57 : Nat, ∃ l59 : Nat, (s.T 1 = .sl 1 (a1.map int) ∧ s.T 2 = .loc 0 1 0 0 ∧ s.T 6 = .msl l57 v58.length ∧ s.T 7 = .msl l59 v60.length ∧ s.T 8 = int v36 ∧ s.T 9 = int v7 ∧ s.H 0 = some (.row 26 1 [xi a0]) ∧ s.H l57 = some (.row 77 3 (v58.map encWay)) ∧ s.H l59 = some (.row 136 2 (v60.map xz)) ∧ Lq 0 s.nx ∧ Lq l57 s.nx ∧ Lq l59 s.nx ∧ Nq 0 l57 ∧ Nq 0 l59 ∧ Nq l57 l59) ∧ (v58, v60) = o2) ?_ fun J2_0 hJ2_0 => ?_
       · rintro T2 H2 x56 ⟨v58, v60, l57, l59, kk2_0, rfl⟩
         dsimp only [Lq, Nq] at kk2_0
         try dsimp only at hm2
         obtain rfl := Option.some.inj hm2
         simp only [kk2_0, g87, xq, ↓EVd, isCall, sevalprocAttr]
         refine TI.here (hI1 _ rfl _ ⟨l57, l59, ?_, ?_, ?_, ?_, ?_, ?_, ?_, ?_, ?_, ?_, ?_, ?_, ?_, ?_, ?_⟩)
         all_goals try simp only [kk2_0, g87, xq, ↓EVd, isCall, sevalprocAttr]
         all_goals first | omega | exact lq (by omega) | exact nq (by omega) | rfl | (congr 1; omega)
       refine cwp_lp ho2 (fun (v52, v54, v55) s => ∃ l51 : Nat, ∃ l53 : Nat, s.T 1 = .sl 1 (a1.map int) ∧ s.T 2 = .loc 0 1 0 0 ∧ s.T 6 = .msl l51 v52.length ∧ s.T 7 = .msl l53 v54.length ∧ s.T 8 = int v36 ∧ s.T 9 = int v7 ∧ s.T 10 = .sl 3 (v48.entries.map xt) ∧ s.T 11 = int v55 ∧ s.H 0 = some (.row 26 1 [xi a0]) ∧ s.H l51 = some (.row 77 3 (v52.map encWay)) ∧ s.H l53 = some (.row 136 2 (v54.map xz)) ∧ Lq 0 s.nx ∧ Lq l51 s.nx ∧ Lq l53 s.nx ∧ Nq 0 l51 ∧ Nq 0 l53 ∧ Nq l51 l53) ?_ ?_
       · refine TI.here ⟨l32, l34, ?_, ?_, ?_, ?_, ?_, ?_, ?_, ?_, ?_, ?_, ?_, ?_, ?_, ?_, ?_, ?_, ?_⟩
         all_goals try simp only [kk1, g87, xq, ↓EVd, isCall, sevalprocAttr]
         all_goals first | omega | exact lq (by omega) | exact nq (by omega) | rfl | (congr 1; omega)
       rintro I2 ⟨v52, v54, v55⟩ T2 H2 x50 st2 ⟨l51, l53, kk2⟩ hm3 hI2 hO2
       dsimp only [Lq, Nq] at kk2
       simp only [xjf] at hm3
       rcases iteE hm3 with ⟨e62, hm3⟩ | ⟨e62, hm3⟩
       · obtain ⟨v63, e65, hm3⟩ := ixE xt hm3
         obtain ⟨v66, h67, hm3⟩ := bsE hm3
         simp only [kk2, g87, e62, e65, xq, ↓EVd, isCall, sevalprocAttr]
         refine qd (x4e _ _ _ h67) rfl ?_
         rcases iteE hm3 with ⟨e69, hm3⟩ | ⟨e69, hm3⟩
         · obtain ⟨v70, h71, hm3⟩ := bsE hm3
           simp only [kk2, g87, e62, e65, e69, xq, ↓EVd, isCall, sevalprocAttr]
           refine qcb (xpp _ _ _ h71) rfl (by simp only [kk2, g87, e62, e65, e69, FZ, CLO, xq, ↓EVd, isCall, sevalprocAttr]) ?_
           rcases iteE hm3 with ⟨e73, hm3⟩ | ⟨e73, hm3⟩
           · obtain ⟨v74, e76, hm3⟩ := ixE encWay hm3
             have e77 : (.agg [int v74.ino, int v63.slot] : AV) = xz (⟨v74.ino, v63.slot⟩ : Ar2_Int) := _root_.id rfl
             obtain ⟨e80, hm3⟩ := apE hm3
             try simp only [ZL] at e80
             obtain rfl := Option.some.inj hm3
             simp only [kk2, g87, e62, e65, e69, e73, e76, e77, e80, xq, ↓EVd, isCall, sevalprocAttr]
             refine TI.here (hI2 _ rfl _ ⟨l51, (x50 + 34), ?_, ?_, ?_, ?_, ?_, ?_, ?_, ?_, ?_, ?_, ?_, ?_, ?_, ?_, ?_, ?_, ?_⟩)
             all_goals try simp only [kk2, g87, e62, e65, e69, e73, e76, e77, e80, xq, ↓EVd, isCall, sevalprocAttr]
             all_goals first | omega | exact lq (by omega) | exact nq (by omega) | rfl | (congr 1; omega)
           have e82 : (.agg [int v63.ino, int v36, str v63.name] : AV) = encWay (⟨v63.ino, v36, v63.name⟩ : Way) := _root_.id rfl
           obtain ⟨e85, hm3⟩ := apE hm3
           try simp only [ZL] at e85
           obtain rfl := Option.some.inj hm3
           simp only [kk2, g87, e62, e65, e69, e73, e82, e85, xq, ↓EVd, isCall, sevalprocAttr]
           refine TI.here (hI2 _ rfl _ ⟨(x50 + 35), l53, ?_, ?_, ?_, ?_, ?_, ?_, ?_, ?_, ?_, ?_, ?_, ?_, ?_, ?_, ?_, ?_, ?_⟩)
           all_goals try simp only [kk2, g87, e62, e65, e69, e73, e82, e85, xq, ↓EVd, isCall, sevalprocAttr]
           all_goals first | omega | exact lq (by omega) | exact nq (by omega) | rfl | (congr 1; omega)
         obtain rfl := Option.some.inj hm3
         simp only [kk2, g87, e62, e65, e69, xq, ↓EVd, isCall, sevalprocAttr]
         refine TI.here (hI2 _ rfl _ ⟨l51, l53, ?_, ?_, ?_, ?_, ?_, ?_, ?_, ?_, ?_, ?_, ?_, ?_, ?_, ?_, ?_, ?_, ?_⟩)
         all_goals try simp only [kk2, g87, e62, e65, e69, xq, ↓EVd, isCall, sevalprocAttr]
         all_goals first | omega | exact lq (by omega) | exact nq (by omega) | rfl | (congr 1; omega)
       obtain rfl := Option.some.inj hm3
       simp only [kk2, g87, e62, xq, ↓EVd, isCall, sevalprocAttr]
       refine TI.here (hJ2_0 _ ⟨v52, v54, l51, l53, ⟨?_, ?_, ?_, ?_, ?_, ?_, ?_, ?_, ?_, ?_, ?_, ?_, ?_, ?_, ?_⟩, hO2 _ rfl⟩)
       all_goals try simp only [kk2, g87, e62, xq, ↓EVd, isCall, sevalprocAttr]
       all_goals first | omega | exact lq (by omega) | exact nq (by omega) | rfl | (congr 1; omega)
     obtain rfl := Option.some.inj hm2
     simp only [kk1, e14, e17, e21, e25, e26, e29, e44, xq, ↓EVd, isCall, sevalprocAttr]
     refine TI.here (hJ1_0 _ ⟨v33, v35, v36, l32, l34, ⟨?_, ?_, ?_, ?_, ?_, ?_, ?_, ?_, ?_, ?_, ?_, ?_, ?_, ?_, ?_⟩, hO1 _ rfl⟩)
     all_goals try simp only [kk1, e14, e17, e21, e25, e26, e29, e44, xq, ↓EVd, isCall, sevalprocAttr]
     all_goals first | omega | exact lq (by omega) | exact nq (by omega) | rfl | (congr 1; omega)
   obtain rfl := Option.some.inj hm1
   simp only [kk0, e14, e17, e21, xq, ↓EVd, isCall, sevalprocAttr]
   refine TI.here (hI0 _ rfl _ ⟨l2, l4, ?_, ?_, ?_, ?_, ?_, ?_, ?_, ?_, ?_, ?_, ?_, ?_, ?_, ?_, ?_⟩)
   all_goals try simp only [kk0, e14, e17, e21, xq, ↓EVd, isCall, sevalprocAttr]
   all_goals first | omega | exact lq (by omega) | exact nq (by omega) | rfl | (congr 1; omega)
 obtain rfl := Option.some.inj hm1
 simp only [kk0, e14, xq, ↓EVd, isCall, sevalprocAttr]
 refine TI.here (hJ0_0 _ ⟨v3, v5, l2, l4, ⟨?_, ?_, ?_, ?_, ?_, ?_, ?_⟩, hO0 _ rfl⟩)
 all_goals try simp only [kk0, e14, xq, ↓EVd, isCall, sevalprocAttr]
 all_goals first | omega | exact lq (by omega) | exact nq (by omega) | rfl | (congr 1; omega)
def xdg (a0 : Branch) (a1 : List Int) : Option (List Way) := (x6i a0 a1).bind fun v1 => some v1.1
def xbu := aI (aI (aI (@EV) (@R3)) (aI (@R26) (@R73))) (aI (aI (@DBranch) (@DAttr)) (aI (@DNode) (aI (@DWay) (@DEntry))))
set_option maxHeartbeats 2000000 in
theorem xjr (a0 : Branch) (a1 : List Int) (r : List Way) (hm0 : xdg a0 a1 = some r) : Ok Tryz.prog 44 [xi a0, .sl 1 (a1.map int)] (.sl 3 (r.map encWay)) := by
 unfold xdg at hm0
 refine okG xc2 ?_
 unfold x1s
 obtain ⟨v1, h2, hm0⟩ := bsE hm0
 simp only [xbu, ↓EVd, isCall, sevalprocAttr]
 refine qc (xf1 _ _ _ h2) rfl ?_
 obtain rfl := Option.some.inj hm0
 simp only [xbu, ↓EVd, isCall, sevalprocAttr]
 all_goals first | done | rfl | exact xd (by simp only [CLO])
def xre (v19 : Node) : (Int × List Bool) → Option (St (Int × List Bool) (List Bool))
 | (v22, v23) => if v22 < (v19.entries.length : Int) then (ix v19.entries v22).bind fun v28 => if 1 ≤ v28.ino then if v28.ino ≤ (v23.length : Int) then (ix v23 (wr (v28.ino - 1))).bind fun v35 => some (.nx ((wr (v22 + 1)), (v23.set ((wr (v28.ino - 1))).toNat true)))
 else some (.nx ((wr (v22 + 1)), v23))
 else some (.nx ((wr (v22 + 1)), v23))
 else some (.out v23)
def xgg (a0 : Branch) (v4 : List Way) : (Int × List Bool) → Option (St (Int × List Bool) (List Bool))
 | (v7, v8) => if v7 < (v4.length : Int) then (ix v4 v7).bind fun v13 => (ix v8 (wr (v13.ino - 1))).bind fun v16 => (xwc a0 v13.ino).bind fun v19 => (iter (xre v19) big (0, (v8.set ((wr (v13.ino - 1))).toNat true))).bind fun o => (match o with
 | v25 => some (.nx ((wr (v7 + 1)), v25)))
 else some (.out v8)
def xbi (a0 : Branch) (a1 : List Int) : Option (List Bool) := (ck (0 ≤ (a0.nodes.length : Int) ∧ (a0.nodes.length : Int) ≤ (a0.nodes.length : Int) ∧ (1 : Int) * (a0.nodes.length : Int) ≤ 281474976710656 ∧ (a0.nodes.length : Int) ≤ 9223372036854775807)).bind fun _ => (xdg a0 a1).bind fun v4 => (iter (xgg a0 v4) big (0, (List.replicate (a0.nodes.length : Int).toNat false))).bind fun o => (match o with
 | v10 => some v10)
def xnb := aI (aI (aI (aI (@EV) (@R3)) (aI (@R4) (@R24))) (aI (aI (@R26) (@R51)) (aI (@R58) (aI (@R62) (@R68))))) (aI (aI (aI (@R73) (@R77)) (aI (@R87) (@DBranch))) (aI (aI (@DAttr) (@DNode)) (aI (@DWay) (aI (@DEntry) (@mixed)))))
set_option maxHeartbeats 2000000 in
theorem xjz (a0 : Branch) (a1 : List Int) (r : List Bool) (hm0 : xbi a0 a1 = some r) : Ok Tryz.prog 27 [xi a0, .sl 1 (a1.map int)] (.sl 1 (r.map bool)) := by
 unfold xbi at hm0
 refine okG x5y ?_
 unfold xfr
 obtain ⟨e2, hm0⟩ := ckE hm0
 have e3 : List.replicate ((a0.nodes.length : Int).toNat) (bool false) = (List.replicate ((a0.nodes.length : Int).toNat) false).map bool := (by simp only [List.map_replicate]; first | done | rfl)
 obtain ⟨v4, h5, hm0⟩ := bsE hm0
 simp only [e2, e3, xnb, ↓EVd, isCall, sevalprocAttr]
 refine qc (xjr _ _ _ h5) rfl ?_
 obtain ⟨o0, ho0, hm0⟩ := bsE hm0
 simp only [e2, e3, xnb, ↓EVd, isCall, sevalprocAttr]
 refine cwp_cx 0 (fun s => ∃ v10 : List Bool, (s.T 5 = .msl 5 v10.length ∧ s.H 5 = some (.row 4 1 (v10.map bool)) ∧ Lq 5 s.nx) ∧ v10 = o0) ?_ fun J0_0 hJ0_0 => ?_
 · rintro T0 H0 x9 ⟨v10, kk0_0, rfl⟩
   dsimp only [Lq, Nq] at kk0_0
   try dsimp only at hm0
   obtain rfl := Option.some.inj hm0
   simp only [kk0_0, e2, e3, xnb, ↓EVd, isCall, sevalprocAttr]
   all_goals first | done | rfl | exact frzR_e (by simp only [kk0_0, e2, e3, FZ, CLO, xnb, ↓EVd, isCall, sevalprocAttr])
 refine cwp_lp ho0 (fun (v7, v8) s => s.T 2 = .loc 0 1 0 0 ∧ s.T 5 = .msl 5 v8.length ∧ s.T 6 = .sl 3 (v4.map encWay) ∧ s.T 7 = int v7 ∧ s.H 0 = some (.row 26 1 [xi a0]) ∧ s.H 5 = some (.row 4 1 (v8.map bool)) ∧ Lq 0 s.nx ∧ Lq 5 s.nx) ?_ ?_
 · refine TI.here ⟨?_, ?_, ?_, ?_, ?_, ?_, ?_, ?_⟩
   all_goals try simp only [e2, e3, xnb, ↓EVd, isCall, sevalprocAttr]
   all_goals first | omega | exact lq (by omega) | exact nq (by omega) | rfl | (congr 1; omega)
 rintro I0 ⟨v7, v8⟩ T0 H0 x6 st0 kk0 hm1 hI0 hO0
 dsimp only [Lq, Nq] at kk0
 simp only [xgg] at hm1
 rcases iteE hm1 with ⟨e12, hm1⟩ | ⟨e12, hm1⟩
 · obtain ⟨v13, e15, hm1⟩ := ixE encWay hm1
   obtain ⟨v16, e18, hm1⟩ := ixE bool hm1
   obtain ⟨v19, h20, hm1⟩ := bsE hm1
   simp only [kk0, e2, e3, e12, e15, e18, xnb, ↓EVd, isCall, sevalprocAttr]
   refine qd (x4e _ _ _ h20) rfl ?_
   obtain ⟨o1, ho1, hm1⟩ := bsE hm1
   simp only [kk0, e2, e3, e12, e15, e18, xnb, ↓EVd, isCall, sevalprocAttr]
   refine cwp_cx 2 (fun s => ∃ v25 : List Bool, (s.T 2 = .loc 0 1 0 0 ∧ s.T 5 = .msl 5 v25.length ∧ s.T 6 = .sl 3 (v4.map encWay) ∧ s.T 7 = int v7 ∧ s.H 0 = some (.row 26 1 [xi a0]) ∧ s.H 5 = some (.row 4 1 (v25.map bool)) ∧ Lq 0 s.nx ∧ Lq 5 s.nx) ∧ v25 = o1) ?_ fun J1_0 hJ1_0 => ?_
   · rintro T1 H1 x24 ⟨v25, kk1_0, rfl⟩
     dsimp only [Lq, Nq] at kk1_0
     try dsimp only at hm1
     obtain rfl := Option.some.inj hm1
     simp only [kk1_0, e2, e3, e12, e15, e18, xnb, ↓EVd, isCall, sevalprocAttr]
     refine TI.here (hI0 _ rfl _ ⟨?_, ?_, ?_, ?_, ?_, ?_, ?_, ?_⟩)
     all_goals try simp only [kk1_0, e2, e3, e12, e15, e18, xnb, ↓EVd, isCall, sevalprocAttr]
     all_goals first | omega | exact lq (by omega) | exact nq (by omega) | rfl | (congr 1; omega)
   refine cwp_lp ho1 (fun (v22, v23) s => s.T 2 = .loc 0 1 0 0 ∧ s.T 5 = .msl 5 v23.length ∧ s.T 6 = .sl 3 (v4.map encWay) ∧ s.T 7 = int v7 ∧ s.T 8 = .sl 3 (v19.entries.map xt) ∧ s.T 9 = int v22 ∧ s.H 0 = some (.row 26 1 [xi a0]) ∧ s.H 5 = some (.row 4 1 (v23.map bool)) ∧ Lq 0 s.nx ∧ Lq 5 s.nx) ?_ ?_
   · refine TI.here ⟨?_, ?_, ?_, ?_, ?_, ?_, ?_, ?_, ?_, ?_⟩
     all_goals try simp only [kk0, e2, e3, e12, e15, e18, xnb, ↓EVd, isCall, sevalprocAttr]
     all_goals first | omega | exact lq (by omega) | exact nq (by omega) | rfl | (congr 1; omega)
   rintro I1 ⟨v22, v23⟩ T1 H1 x21 st1 kk1 hm2 hI1 hO1
   dsimp only [Lq, Nq] at kk1
   simp only [xre] at hm2
   rcases iteE hm2 with ⟨e27, hm2⟩ | ⟨e27, hm2⟩
   · obtain ⟨v28, e30, hm2⟩ := ixE xt hm2
     rcases iteE hm2 with ⟨e32, hm2⟩ | ⟨e32, hm2⟩
     · have g38 := And.intro (And.intro (And.intro ((e2)) ((e3))) (And.intro ((e12)) ((e15)))) (And.intro (And.intro ((e18)) ((e27))) (And.intro ((e30)) ((e32))))
       rcases iteE hm2 with ⟨e34, hm2⟩ | ⟨e34, hm2⟩
       · obtain ⟨v35, e37, hm2⟩ := ixE bool hm2
         obtain rfl := Option.some.inj hm2
         simp only [kk1, g38, e34, e37, xnb, ↓EVd, isCall, sevalprocAttr]
         refine TI.here (hI1 _ rfl _ ⟨?_, ?_, ?_, ?_, ?_, ?_, ?_, ?_, ?_, ?_⟩)
         all_goals try simp only [kk1, g38, e34, e37, xnb, ↓EVd, isCall, sevalprocAttr]
         all_goals first | omega | exact lq (by omega) | exact nq (by omega) | rfl | (congr 1; omega)
       obtain rfl := Option.some.inj hm2
       simp only [kk1, g38, e34, xnb, ↓EVd, isCall, sevalprocAttr]
       refine TI.here (hI1 _ rfl _ ⟨?_, ?_, ?_, ?_, ?_, ?_, ?_, ?_, ?_, ?_⟩)
       all_goals try simp only [kk1, g38, e34, xnb, ↓EVd, isCall, sevalprocAttr]
       all_goals first | omega | exact lq (by omega) | exact nq (by omega) | rfl | (congr 1; omega)
     obtain rfl := Option.some.inj hm2
     simp only [kk1, e2, e3, e12, e15, e18, e27, e30, e32, xnb, ↓EVd, isCall, sevalprocAttr]
     refine TI.here (hI1 _ rfl _ ⟨?_, ?_, ?_, ?_, ?_, ?_, ?_, ?_, ?_, ?_⟩)
     all_goals try simp only [kk1, e2, e3, e12, e15, e18, e27, e30, e32, xnb, ↓EVd, isCall, sevalprocAttr]
     all_goals first | omega | exact lq (by omega) | exact nq (by omega) | rfl | (congr 1; omega)
   obtain rfl := Option.some.inj hm2
   simp only [kk1, e2, e3, e12, e15, e18, e27, xnb, ↓EVd, isCall, sevalprocAttr]
   refine TI.here (hJ1_0 _ ⟨v23, ⟨?_, ?_, ?_, ?_, ?_, ?_, ?_, ?_⟩, hO1 _ rfl⟩)
   all_goals try simp only [kk1, e2, e3, e12, e15, e18, e27, xnb, ↓EVd, isCall, sevalprocAttr]
   all_goals first | omega | exact lq (by omega) | exact nq (by omega) | rfl | (congr 1; omega)
 obtain rfl := Option.some.inj hm1
 simp only [kk0, e2, e3, e12, xnb, ↓EVd, isCall, sevalprocAttr]
 refine TI.here (hJ0_0 _ ⟨v8, ⟨?_, ?_, ?_⟩, hO0 _ rfl⟩)
 all_goals try simp only [kk0, e2, e3, e12, xnb, ↓EVd, isCall, sevalprocAttr]
 all_goals first | omega | exact lq (by omega) | exact nq (by omega) | rfl | (congr 1; omega)
def xti (a0 : List Way) : (Int × List ByteArray) → Option (St (Int × List ByteArray) (List ByteArray))
 | (v2, v4) => if 0 ≤ v2 then if v2 < (a0.length : Int) then (ix a0 v2).bind fun v12 => if 0 ≤ v12.up then if v12.up < v2 then (ap 16 ([v12.name] : List ByteArray) v4).bind fun _ => some (.nx (v12.up, (([v12.name] : List ByteArray) ++ v4)))
 else some (.out v4)
 else some (.out v4)
 else some (.out v4)
 else some (.out v4)
def xcj (a0 : List Way) (a1 : Int) : Option (List ByteArray) := (iter (xti a0) big (a1, ([] : List ByteArray))).bind fun o => (match o with
 | v7 => some v7)
def xic := aI (aI (@EV) (aI (@R3) (@R9))) (aI (aI (@R30) (@R51)) (aI (@R77) (@DWay)))
set_option maxHeartbeats 2000000 in
theorem xt1 (a0 : List Way) (a1 : Int) (r : List ByteArray) (hm0 : xcj a0 a1 = some r) : Ok Tryz.prog 74 [.sl 3 (a0.map encWay), int a1] (.sl 1 (r.map str)) := by
 unfold xcj at hm0
 refine okG x71 ?_
 unfold x4t
 obtain ⟨o0, ho0, hm0⟩ := bsE hm0
 simp only [xic, ↓EVd, isCall, sevalprocAttr]
 refine cwp_cx 0 (fun s => ∃ v7 : List ByteArray, ∃ l6 : Nat, (s.T 5 = .msl l6 v7.length ∧ s.H l6 = some (.row 9 1 (v7.map str)) ∧ Lq l6 s.nx) ∧ v7 = o0) ?_ fun J0_0 hJ0_0 => ?_
 · rintro T0 H0 x5 ⟨v7, l6, kk0_0, rfl⟩
   dsimp only [Lq, Nq] at kk0_0
   try dsimp only at hm0
   obtain rfl := Option.some.inj hm0
   simp only [kk0_0, xic, ↓EVd, isCall, sevalprocAttr]
   all_goals first | done | rfl | exact frzR_e (by simp only [kk0_0, FZ, CLO, xic, ↓EVd, isCall, sevalprocAttr])
 refine cwp_lp ho0 (fun (v2, v4) s => ∃ l3 : Nat, s.T 0 = .sl 3 (a0.map encWay) ∧ s.T 1 = int v2 ∧ s.T 5 = .msl l3 v4.length ∧ s.H l3 = some (.row 9 1 (v4.map str)) ∧ Lq l3 s.nx) ?_ ?_
 · refine TI.here ⟨1, ?_, ?_, ?_, ?_, ?_⟩
   all_goals try simp only [xic, ↓EVd, isCall, sevalprocAttr]
   all_goals first | omega | exact lq (by omega) | exact nq (by omega) | rfl | (congr 1; omega)
 rintro I0 ⟨v2, v4⟩ T0 H0 x1 st0 ⟨l3, kk0⟩ hm1 hI0 hO0
 dsimp only [Lq, Nq] at kk0
 simp only [xti] at hm1
 rcases iteE hm1 with ⟨e9, hm1⟩ | ⟨e9, hm1⟩
 · rcases iteE hm1 with ⟨e11, hm1⟩ | ⟨e11, hm1⟩
   · obtain ⟨v12, e14, hm1⟩ := ixE encWay hm1
     rcases iteE hm1 with ⟨e16, hm1⟩ | ⟨e16, hm1⟩
     · rcases iteE hm1 with ⟨e18, hm1⟩ | ⟨e18, hm1⟩
       · obtain ⟨e21, hm1⟩ := apE hm1
         try simp only [ZL] at e21
         obtain rfl := Option.some.inj hm1
         simp only [kk0, e9, e11, e14, e16, e18, e21, xic, ↓EVd, isCall, sevalprocAttr]
         refine TI.here (hI0 _ rfl _ ⟨(x1 + 32), ?_, ?_, ?_, ?_, ?_⟩)
         all_goals try simp only [kk0, e9, e11, e14, e16, e18, e21, xic, ↓EVd, isCall, sevalprocAttr]
         all_goals first | omega | exact lq (by omega) | exact nq (by omega) | rfl | (congr 1; omega)
       obtain rfl := Option.some.inj hm1
       simp only [kk0, e9, e11, e14, e16, e18, xic, ↓EVd, isCall, sevalprocAttr]
       refine TI.here (hJ0_0 _ ⟨v4, l3, ⟨?_, ?_, ?_⟩, hO0 _ rfl⟩)
       all_goals try simp only [kk0, e9, e11, e14, e16, e18, xic, ↓EVd, isCall, sevalprocAttr]
       all_goals first | omega | exact lq (by omega) | exact nq (by omega) | rfl | (congr 1; omega)
     obtain rfl := Option.some.inj hm1
     simp only [kk0, e9, e11, e14, e16, xic, ↓EVd, isCall, sevalprocAttr]
     refine TI.here (hJ0_0 _ ⟨v4, l3, ⟨?_, ?_, ?_⟩, hO0 _ rfl⟩)
     all_goals try simp only [kk0, e9, e11, e14, e16, xic, ↓EVd, isCall, sevalprocAttr]
     all_goals first | omega | exact lq (by omega) | exact nq (by omega) | rfl | (congr 1; omega)
   obtain rfl := Option.some.inj hm1
   simp only [kk0, e9, e11, xic, ↓EVd, isCall, sevalprocAttr]
   refine TI.here (hJ0_0 _ ⟨v4, l3, ⟨?_, ?_, ?_⟩, hO0 _ rfl⟩)
   all_goals try simp only [kk0, e9, e11, xic, ↓EVd, isCall, sevalprocAttr]
   all_goals first | omega | exact lq (by omega) | exact nq (by omega) | rfl | (congr 1; omega)
 obtain rfl := Option.some.inj hm1
 simp only [kk0, e9, xic, ↓EVd, isCall, sevalprocAttr]
 refine TI.here (hJ0_0 _ ⟨v4, l3, ⟨?_, ?_, ?_⟩, hO0 _ rfl⟩)
 all_goals try simp only [kk0, e9, xic, ↓EVd, isCall, sevalprocAttr]
 all_goals first | omega | exact lq (by omega) | exact nq (by omega) | rfl | (congr 1; omega)
end Go.Proofs.YtfkgckbdknpcnaaGreatDoor.AL

