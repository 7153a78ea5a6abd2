/- A law of the given program is proved: part 38 of 50. -/
import Derived.Test.YtapdjibjnfeipaaGreatDoorC37
set_option linter.all false
/- Models of functions, and that the functions are as their models: written by gen.py. -/
set_option linter.all false
set_option maxRecDepth 100000
namespace Go.Proofs.YtapdjibjnfeipaaGreatDoor.AL
open Go Go.Proofs
def m_ref13_At (a0 : Branch) (a1 : Int) : Option (Node) := if a1 < 1 then some (⟨0, 0, 0, 0, [], [], (⟨0, 0, noBytes, (⟨0, 0, 0⟩ : Origin), 0⟩ : Attr)⟩ : Node)
 else if (a0.nodes.length : Int) < a1 then some (⟨0, 0, 0, 0, [], [], (⟨0, 0, noBytes, (⟨0, 0, 0⟩ : Origin), 0⟩ : Attr)⟩ : Node)
 else (ix a0.nodes (wr (a1 - 1))).bind fun v5 => some v5
def Y_ref13_At := And.intro (And.intro (And.intro ((@EV)) ((@R3))) (And.intro ((@R24)) (And.intro ((@R26)) ((@R68))))) (And.intro (And.intro ((@DBranch)) ((@DEntry))) (And.intro ((@DOrigin)) (And.intro ((@DAttr)) ((@DNode)))))
set_option maxHeartbeats 2000000 in
theorem ok_ref13_At (a0 : Branch) (a1 : Int) (r : Node) (hm0 : m_ref13_At a0 a1 = some r) : Ok Tryz.prog 48 [encBranch a0, int a1] (encNode r) := by
 unfold m_ref13_At at hm0
 refine okG fc_ref13_At ?_
 unfold c_ref13_At
 rcases iteE hm0 with ⟨e2, hm0⟩ | ⟨e2, hm0⟩
 · obtain rfl := Option.some.inj hm0
   simp only [e2, Y_ref13_At, ↓EVd, isCall, sevalprocAttr]
   all_goals first | done | rfl | exact frzR_closed (by simp only [CLO]) | exact frzR_sub (by simp only [CLO]) (Sub.agg (Subs.cons (Sub.refl _) (Subs.cons (Sub.refl _) (Subs.cons (Sub.refl _) (Subs.cons (Sub.refl _) (Subs.cons (Sub.nilS _) (Subs.cons (Sub.nilS _) (Subs.cons (Sub.refl _) (Subs.cons (Sub.refl _) (Subs.cons (Sub.refl _) (Subs.cons (Sub.refl _) (Subs.cons (Sub.refl _) (Subs.cons (Sub.refl _) (Subs.cons (Sub.refl _) (Subs.nil)))))))))))))))
 rcases iteE hm0 with ⟨e4, hm0⟩ | ⟨e4, hm0⟩
 · obtain rfl := Option.some.inj hm0
   simp only [e2, e4, Y_ref13_At, ↓EVd, isCall, sevalprocAttr]
   all_goals first | done | rfl | exact frzR_closed (by simp only [CLO]) | exact frzR_sub (by simp only [CLO]) (Sub.agg (Subs.cons (Sub.refl _) (Subs.cons (Sub.refl _) (Subs.cons (Sub.refl _) (Subs.cons (Sub.refl _) (Subs.cons (Sub.nilS _) (Subs.cons (Sub.nilS _) (Subs.cons (Sub.refl _) (Subs.cons (Sub.refl _) (Subs.cons (Sub.refl _) (Subs.cons (Sub.refl _) (Subs.cons (Sub.refl _) (Subs.cons (Sub.refl _) (Subs.cons (Sub.refl _) (Subs.nil)))))))))))))))
 obtain ⟨v5, e7, hm0⟩ := ixE encNode hm0
 obtain rfl := Option.some.inj hm0
 simp only [e2, e4, e7, Y_ref13_At, ↓EVd, isCall, sevalprocAttr]
 all_goals first | done | rfl | exact frzR_closed (by simp only [CLO])
def m_ref13_place_b0 (a0 : List Way) (a1 : Int) : Int → Option (St (Int) ((Unit) ⊕ (Int)))
 | v2 => if v2 < (a0.length : Int) then (ix a0 v2).bind fun v6 => if v6.ino = a1 then some (.out (.inr v2))
 else some (.nx (wr (v2 + 1)))
 else some (.out (.inl ()))
def m_ref13_place (a0 : List Way) (a1 : Int) : Option (Int) := (iter (m_ref13_place_b0 a0 a1) big 0).bind fun o => (match o with
 | (.inl _) => some (-1)
 | (.inr r) => some r)
def Y_ref13_place := And.intro (And.intro ((@EV)) ((@R3))) (And.intro ((@R73)) (And.intro ((@R79)) ((@DWay))))
set_option maxHeartbeats 2000000 in
theorem ok_ref13_place (a0 : List Way) (a1 : Int) (r : Int) (hm0 : m_ref13_place a0 a1 = some r) : Ok Tryz.prog 106 [.sl 3 (a0.map encWay), int a1] (int r) := by
 unfold m_ref13_place at hm0
 refine okG fc_ref13_place ?_
 unfold c_ref13_place
 obtain ⟨o0, ho0, hm0⟩ := bsE hm0
 simp only [Y_ref13_place, ↓EVd, isCall, sevalprocAttr]
 refine cwp_cx 0 (fun s => (.inl ()) = o0) ?_ fun J0_0 hJ0_0 => ?_
 · rintro T0 H0 x3 rfl
   try dsimp only at hm0
   obtain rfl := Option.some.inj hm0
   simp only [Y_ref13_place, ↓EVd, isCall, sevalprocAttr]
   all_goals first | done | rfl
 refine cwp_lp ho0 (fun v2 s => s.T 0 = .sl 3 (a0.map encWay) ∧ s.T 1 = int a1 ∧ s.T 5 = int v2) ?_ ?_
 · refine TI.here ⟨?_, ?_, ?_⟩
   all_goals try simp only [Y_ref13_place, ↓EVd, isCall, sevalprocAttr]
   all_goals first | omega | exact lq (by omega) | exact nq (by omega) | rfl | (congr 1; omega)
 rintro I0 v2 T0 H0 x1 st0 kk0 hm1 hI0 hO0
 dsimp only [Lq, Nq] at kk0
 simp only [m_ref13_place_b0] at hm1
 rcases iteE hm1 with ⟨e5, hm1⟩ | ⟨e5, hm1⟩
 · obtain ⟨v6, e8, hm1⟩ := ixE encWay hm1
   rcases iteE hm1 with ⟨e10, hm1⟩ | ⟨e10, hm1⟩
   · obtain rfl := Option.some.inj hm1
     obtain rfl := hO0 _ rfl
     try dsimp only at hm0
     obtain rfl := Option.some.inj hm0
     simp only [kk0, e5, e8, e10, Y_ref13_place, ↓EVd, isCall, sevalprocAttr]
     all_goals first | done | rfl
   obtain rfl := Option.some.inj hm1
   simp only [kk0, e5, e8, e10, Y_ref13_place, ↓EVd, isCall, sevalprocAttr]
   refine TI.here (hI0 _ rfl _ ⟨?_, ?_, ?_⟩)
   all_goals try simp only [kk0, e5, e8, e10, Y_ref13_place, ↓EVd, isCall, sevalprocAttr]
   all_goals first | omega | exact lq (by omega) | exact nq (by omega) | rfl | (congr 1; omega)
 obtain rfl := Option.some.inj hm1
 simp only [kk0, e5, Y_ref13_place, ↓EVd, isCall, sevalprocAttr]
 refine TI.here (hJ0_0 _ (hO0 _ rfl))
def m_ref13_walk_b2 (a0 : Branch) (v36 : Int) (v48 : Node) : (List Way × List Ar2_Int × Int) → Option (St (List Way × List Ar2_Int × Int) (List Way × List Ar2_Int))
 | (v52, v54, v55) => if v55 < (v48.entries.length : Int) then (ix v48.entries v55).bind fun v63 => (m_ref13_At a0 v63.ino).bind fun v66 => if v66.kind = 1 then (m_ref13_place v52 v63.ino).bind fun v70 => if 0 ≤ v70 then (ix v52 v36).bind fun v74 => (ap 16 v54 ([(⟨v74.ino, v63.slot⟩ : Ar2_Int)] : List Ar2_Int)).bind fun _ => some (.nx (v52, (v54 ++ ([(⟨v74.ino, v63.slot⟩ : Ar2_Int)] : List Ar2_Int)), (wr (v55 + 1))))
 else (ap 32 v52 ([(⟨v63.ino, v36, v63.name⟩ : Way)] : List Way)).bind fun _ => some (.nx ((v52 ++ ([(⟨v63.ino, v36, v63.name⟩ : Way)] : List Way)), v54, (wr (v55 + 1))))
 else some (.nx (v52, v54, (wr (v55 + 1))))
 else some (.out (v52, v54))
def m_ref13_walk_b1 (a0 : Branch) : (List Way × List Ar2_Int × Int) → Option (St (List Way × List Ar2_Int × Int) (List Way × List Ar2_Int × Int))
 | (v33, v35, v36) => if v36 < (v33.length : Int) then (ix v33 v36).bind fun v45 => (m_ref13_At a0 v45.ino).bind fun v48 => (iter (m_ref13_walk_b2 a0 v36 v48) big (v33, v35, 0)).bind fun o => (match o with
 | (v58, v60) => some (.nx (v58, v60, (wr (v36 + 1)))))
 else some (.out (v33, v35, v36))
def m_ref13_walk_b0 (a0 : Branch) (a1 : List Int) : (List Way × List Ar2_Int × Int × Int) → Option (St (List Way × List Ar2_Int × Int × Int) (List Way × List Ar2_Int))
 | (v3, v5, v6, v7) => if v7 < (a1.length : Int) then (ix a1 v7).bind fun v15 => (m_ref13_At a0 v15).bind fun v18 => if v18.kind = 1 then (m_ref13_place v3 v15).bind fun v22 => if 0 ≤ v22 then some (.nx (v3, v5, v6, (wr (v7 + 1))))
 else (ap 32 v3 ([(⟨v15, (-1), noBytes⟩ : Way)] : List Way)).bind fun _ => (iter (m_ref13_walk_b1 a0) big ((v3 ++ ([(⟨v15, (-1), noBytes⟩ : Way)] : List Way)), v5, v6)).bind fun o => (match o with
 | (v39, v41, v42) => some (.nx (v39, v41, v42, (wr (v7 + 1)))))
 else some (.nx (v3, v5, v6, (wr (v7 + 1))))
 else some (.out (v3, v5))
def m_ref13_walk (a0 : Branch) (a1 : List Int) : Option (List Way × List Ar2_Int) := (iter (m_ref13_walk_b0 a0 a1) big (([] : List Way), ([] : List Ar2_Int), 0, 0)).bind fun o => (match o with
 | (v10, v12) => some (v10, v12))
def Y_ref13_walk := And.intro (And.intro (And.intro (And.intro ((@EV)) ((@R3))) (And.intro ((@R9)) (And.intro ((@R26)) ((@R55))))) (And.intro (And.intro ((@R62)) ((@R68))) (And.intro ((@R73)) (And.intro ((@R79)) ((@R111)))))) (And.intro (And.intro (And.intro ((@R113)) ((@R144))) (And.intro ((@DBranch)) (And.intro ((@DEntry)) ((@DOrigin))))) (And.intro (And.intro ((@DAttr)) ((@DNode))) (And.intro ((@DWay)) (And.intro ((@DAr2_Int)) ((@mixed))))))
set_option maxHeartbeats 2000000 in
theorem ok_ref13_walk (a0 : Branch) (a1 : List Int) (r : List Way × List Ar2_Int) (hm0 : m_ref13_walk a0 a1 = some r) : Ok Tryz.prog 92 [encBranch a0, .sl 1 (a1.map int)] (.tup [.sl 3 (r.1.map encWay), .sl 2 (r.2.map encAr2_Int)]) := by
 unfold m_ref13_walk at hm0
 refine okG fc_ref13_walk ?_
 unfold c_ref13_walk
 obtain ⟨o0, ho0, hm0⟩ := bsE hm0
 simp only [Y_ref13_walk, ↓EVd, isCall, sevalprocAttr]
 refine cwp_cx 0 (fun s => ∃ v10 : List Way, ∃ v12 : List Ar2_Int, ∃ l9 : Nat, ∃ l11 : Nat, (s.T 6 = .msl l9 v10.length ∧ s.T 7 = .msl l11 v12.length ∧ s.H l9 = some (.row 79 3 (v10.map encWay)) ∧ s.H l11 = some (.row 144 2 (v12.map encAr2_Int)) ∧ Lq l9 s.nx ∧ Lq l11 s.nx ∧ Nq l9 l11) ∧ (v10, v12) = o0) ?_ fun J0_0 hJ0_0 => ?_
 · rintro T0 H0 x8 ⟨v10, v12, l9, l11, kk0_0, rfl⟩
   dsimp only [Lq, Nq] at kk0_0
   try dsimp only at hm0
   obtain rfl := Option.some.inj hm0
   simp only [kk0_0, Y_ref13_walk, ↓EVd, isCall, sevalprocAttr]
   all_goals first | done | rfl | exact frzR_of 9 (by simp only [kk0_0, FZ, CLO, Y_ref13_walk, ↓EVd, isCall, sevalprocAttr]) (Sub.tup (Subs.cons (Sub.refl _) (Subs.cons (Sub.refl _) (Subs.nil))))
 refine cwp_lp ho0 (fun (v3, v5, v6, v7) s => ∃ l2 : Nat, ∃ l4 : Nat, s.T 1 = .sl 1 (a1.map int) ∧ s.T 2 = .loc 0 1 0 0 ∧ s.T 6 = .msl l2 v3.length ∧ s.T 7 = .msl l4 v5.length ∧ s.T 8 = int v6 ∧ s.T 9 = int v7 ∧ s.H 0 = some (.row 26 1 [encBranch a0]) ∧ s.H l2 = some (.row 79 3 (v3.map encWay)) ∧ s.H l4 = some (.row 144 2 (v5.map encAr2_Int)) ∧ Lq 0 s.nx ∧ Lq l2 s.nx ∧ Lq l4 s.nx ∧ Nq 0 l2 ∧ Nq 0 l4 ∧ Nq l2 l4) ?_ ?_
 · refine TI.here ⟨3, 4, ?_, ?_, ?_, ?_, ?_, ?_, ?_, ?_, ?_, ?_, ?_, ?_, ?_, ?_, ?_⟩
   all_goals try simp only [Y_ref13_walk, ↓EVd, isCall, sevalprocAttr]
   all_goals first | omega | exact lq (by omega) | exact nq (by omega) | rfl | (congr 1; omega)
 rintro I0 ⟨v3, v5, v6, v7⟩ T0 H0 x1 st0 ⟨l2, l4, kk0⟩ hm1 hI0 hO0
 dsimp only [Lq, Nq] at kk0
 simp only [m_ref13_walk_b0] at hm1
 rcases iteE hm1 with ⟨e14, hm1⟩ | ⟨e14, hm1⟩
 · obtain ⟨v15, e17, hm1⟩ := ixE int hm1
   obtain ⟨v18, h19, hm1⟩ := bsE hm1
   simp only [kk0, e14, e17, Y_ref13_walk, ↓EVd, isCall, sevalprocAttr]
   refine qd (ok_ref13_At _ _ _ h19) rfl ?_
   rcases iteE hm1 with ⟨e21, hm1⟩ | ⟨e21, hm1⟩
   · obtain ⟨v22, h23, hm1⟩ := bsE hm1
     simp only [kk0, e14, e17, e21, Y_ref13_walk, ↓EVd, isCall, sevalprocAttr]
     refine qdb (ok_ref13_place _ _ _ h23) rfl (by simp only [kk0, e14, e17, e21, FZ, CLO, Y_ref13_walk, ↓EVd, isCall, sevalprocAttr]) ?_
     rcases iteE hm1 with ⟨e25, hm1⟩ | ⟨e25, hm1⟩
     · obtain rfl := Option.some.inj hm1
       simp only [kk0, e14, e17, e21, e25, Y_ref13_walk, ↓EVd, isCall, sevalprocAttr]
       refine TI.here (hI0 _ rfl _ ⟨l2, l4, ?_, ?_, ?_, ?_, ?_, ?_, ?_, ?_, ?_, ?_, ?_, ?_, ?_, ?_, ?_⟩)
       all_goals try simp only [kk0, e14, e17, e21, e25, Y_ref13_walk, ↓EVd, isCall, sevalprocAttr]
       all_goals first | omega | exact lq (by omega) | exact nq (by omega) | rfl | (congr 1; omega)
     have e26 : (.agg [int v15, int (-1), str noBytes] : AV) = encWay (⟨v15, (-1), noBytes⟩ : Way) := _root_.id rfl
     obtain ⟨e29, hm1⟩ := apE hm1
     try simp only [ZL] at e29
     obtain ⟨o1, ho1, hm1⟩ := bsE hm1
     simp only [kk0, e14, e17, e21, e25, e26, e29, Y_ref13_walk, ↓EVd, isCall, sevalprocAttr]
     refine cwp_cx 2 (fun s => ∃ v39 : List Way, ∃ v41 : List Ar2_Int, ∃ v42 : Int, ∃ l38 : Nat, ∃ l40 : Nat, (s.T 1 = .sl 1 (a1.map int) ∧ s.T 2 = .loc 0 1 0 0 ∧ s.T 6 = .msl l38 v39.length ∧ s.T 7 = .msl l40 v41.length ∧ s.T 8 = int v42 ∧ s.T 9 = int v7 ∧ s.H 0 = some (.row 26 1 [encBranch a0]) ∧ s.H l38 = some (.row 79 3 (v39.map encWay)) ∧ s.H l40 = some (.row 144 2 (v41.map encAr2_Int)) ∧ Lq 0 s.nx ∧ Lq l38 s.nx ∧ Lq l40 s.nx ∧ Nq 0 l38 ∧ Nq 0 l40 ∧ Nq l38 l40) ∧ (v39, v41, v42) = o1) ?_ fun J1_0 hJ1_0 => ?_
     · rintro T1 H1 x37 ⟨v39, v41, v42, l38, l40, kk1_0, rfl⟩
       dsimp only [Lq, Nq] at kk1_0
       try dsimp only at hm1
       obtain rfl := Option.some.inj hm1
       simp only [kk1_0, e14, e17, e21, e25, e26, e29, Y_ref13_walk, ↓EVd, isCall, sevalprocAttr]
       refine TI.here (hI0 _ rfl _ ⟨l38, l40, ?_, ?_, ?_, ?_, ?_, ?_, ?_, ?_, ?_, ?_, ?_, ?_, ?_, ?_, ?_⟩)
       all_goals try simp only [kk1_0, e14, e17, e21, e25, e26, e29, Y_ref13_walk, ↓EVd, isCall, sevalprocAttr]
       all_goals first | omega | exact lq (by omega) | exact nq (by omega) | rfl | (congr 1; omega)
     refine cwp_lp ho1 (fun (v33, v35, v36) s => ∃ l32 : Nat, ∃ l34 : Nat, s.T 1 = .sl 1 (a1.map int) ∧ s.T 2 = .loc 0 1 0 0 ∧ s.T 6 = .msl l32 v33.length ∧ s.T 7 = .msl l34 v35.length ∧ s.T 8 = int v36 ∧ s.T 9 = int v7 ∧ s.H 0 = some (.row 26 1 [encBranch a0]) ∧ s.H l32 = some (.row 79 3 (v33.map encWay)) ∧ s.H l34 = some (.row 144 2 (v35.map encAr2_Int)) ∧ Lq 0 s.nx ∧ Lq l32 s.nx ∧ Lq l34 s.nx ∧ Nq 0 l32 ∧ Nq 0 l34 ∧ Nq l32 l34) ?_ ?_
     · refine TI.here ⟨(x1 + 28), l4, ?_, ?_, ?_, ?_, ?_, ?_, ?_, ?_, ?_, ?_, ?_, ?_, ?_, ?_, ?_⟩
       all_goals try simp only [kk0, e14, e17, e21, e25, e26, e29, Y_ref13_walk, ↓EVd, isCall, sevalprocAttr]
       all_goals first | omega | exact lq (by omega) | exact nq (by omega) | rfl | (congr 1; omega)
     rintro I1 ⟨v33, v35, v36⟩ T1 H1 x31 st1 ⟨l32, l34, kk1⟩ hm2 hI1 hO1
     dsimp only [Lq, Nq] at kk1
     simp only [m_ref13_walk_b1] at hm2
     rcases iteE hm2 with ⟨e44, hm2⟩ | ⟨e44, hm2⟩
     · obtain ⟨v45, e47, hm2⟩ := ixE encWay hm2
       have g87 := And.intro (And.intro (And.intro ((e14)) ((e17))) (And.intro ((e21)) ((e25)))) (And.intro (And.intro ((e26)) ((e29))) (And.intro ((e44)) ((e47))))
       obtain ⟨v48, h49, hm2⟩ := bsE hm2
       simp only [kk1, g87, Y_ref13_walk, ↓EVd, isCall, sevalprocAttr]
       refine qd (ok_ref13_At _ _ _ h49) rfl ?_
       obtain ⟨o2, ho2, hm2⟩ := bsE hm2
       simp only [kk1, g87, Y_ref13_walk, ↓EVd, isCall, sevalprocAttr]
       refine cwp_cx 4 (fun s => ∃ v58 : List Way, ∃ v60 : List Ar2_Int, ∃ l57 : Nat, ∃ l59 : Nat, (s.T 1 = .sl 1 (a1.map int) ∧ s.T 2 = .loc 0 1 0 0 ∧ s.T 6 = .msl l57 v58.length ∧ s.T 7 = .msl l59 v60.length ∧ s.T 8 = int v36 ∧ s.T 9 = int v7 ∧ s.H 0 = some (.row 26 1 [encBranch a0]) ∧ s.H l57 = some (.row 79 3 (v58.map encWay)) ∧ s.H l59 = some (.row 144 2 (v60.map encAr2_Int)) ∧ Lq 0 s.nx ∧ Lq l57 s.nx ∧ Lq l59 s.nx ∧ Nq 0 l57 ∧ Nq 0 l59 ∧ Nq l57 l59) ∧ (v58, v60) = o2) ?_ fun J2_0 hJ2_0 => ?_
       · rintro T2 H2 x56 ⟨v58, v60, l57, l59, kk2_0, rfl⟩
         dsimp only [Lq, Nq] at kk2_0
         try dsimp only at hm2
         obtain rfl := Option.some.inj hm2
         simp only [kk2_0, g87, Y_ref13_walk, ↓EVd, isCall, sevalprocAttr]
         refine TI.here (hI1 _ rfl _ ⟨l57, l59, ?_, ?_, ?_, ?_, ?_, ?_, ?_, ?_, ?_, ?_, ?_, ?_, ?_, ?_, ?_⟩)
         all_goals try simp only [kk2_0, g87, Y_ref13_walk, ↓EVd, isCall, sevalprocAttr]
         all_goals first | omega | exact lq (by omega) | exact nq (by omega) | rfl | (congr 1; omega)
       refine cwp_lp ho2 (fun (v52, v54, v55) s => ∃ l51 : Nat, ∃ l53 : Nat, s.T 1 = .sl 1 (a1.map int) ∧ s.T 2 = .loc 0 1 0 0 ∧ s.T 6 = .msl l51 v52.length ∧ s.T 7 = .msl l53 v54.length ∧ s.T 8 = int v36 ∧ s.T 9 = int v7 ∧ s.T 10 = .sl 3 (v48.entries.map encEntry) ∧ s.T 11 = int v55 ∧ s.H 0 = some (.row 26 1 [encBranch a0]) ∧ s.H l51 = some (.row 79 3 (v52.map encWay)) ∧ s.H l53 = some (.row 144 2 (v54.map encAr2_Int)) ∧ Lq 0 s.nx ∧ Lq l51 s.nx ∧ Lq l53 s.nx ∧ Nq 0 l51 ∧ Nq 0 l53 ∧ Nq l51 l53) ?_ ?_
       · refine TI.here ⟨l32, l34, ?_, ?_, ?_, ?_, ?_, ?_, ?_, ?_, ?_, ?_, ?_, ?_, ?_, ?_, ?_, ?_, ?_⟩
         all_goals try simp only [kk1, g87, Y_ref13_walk, ↓EVd, isCall, sevalprocAttr]
         all_goals first | omega | exact lq (by omega) | exact nq (by omega) | rfl | (congr 1; omega)
       rintro I2 ⟨v52, v54, v55⟩ T2 H2 x50 st2 ⟨l51, l53, kk2⟩ hm3 hI2 hO2
       dsimp only [Lq, Nq] at kk2
       simp only [m_ref13_walk_b2] at hm3
       rcases iteE hm3 with ⟨e62, hm3⟩ | ⟨e62, hm3⟩
       · obtain ⟨v63, e65, hm3⟩ := ixE encEntry hm3
         obtain ⟨v66, h67, hm3⟩ := bsE hm3
         simp only [kk2, g87, e62, e65, Y_ref13_walk, ↓EVd, isCall, sevalprocAttr]
         refine qd (ok_ref13_At _ _ _ h67) rfl ?_
         rcases iteE hm3 with ⟨e69, hm3⟩ | ⟨e69, hm3⟩
         · obtain ⟨v70, h71, hm3⟩ := bsE hm3
           simp only [kk2, g87, e62, e65, e69, Y_ref13_walk, ↓EVd, isCall, sevalprocAttr]
           refine qcb (ok_ref13_place _ _ _ h71) rfl (by simp only [kk2, g87, e62, e65, e69, FZ, CLO, Y_ref13_walk, ↓EVd, isCall, sevalprocAttr]) ?_
           rcases iteE hm3 with ⟨e73, hm3⟩ | ⟨e73, hm3⟩
           · obtain ⟨v74, e76, hm3⟩ := ixE encWay hm3
             have e77 : (.agg [int v74.ino, int v63.slot] : AV) = encAr2_Int (⟨v74.ino, v63.slot⟩ : Ar2_Int) := _root_.id rfl
             obtain ⟨e80, hm3⟩ := apE hm3
             try simp only [ZL] at e80
             obtain rfl := Option.some.inj hm3
             simp only [kk2, g87, e62, e65, e69, e73, e76, e77, e80, Y_ref13_walk, ↓EVd, isCall, sevalprocAttr]
             refine TI.here (hI2 _ rfl _ ⟨l51, (x50 + 34), ?_, ?_, ?_, ?_, ?_, ?_, ?_, ?_, ?_, ?_, ?_, ?_, ?_, ?_, ?_, ?_, ?_⟩)
             all_goals try simp only [kk2, g87, e62, e65, e69, e73, e76, e77, e80, Y_ref13_walk, ↓EVd, isCall, sevalprocAttr]
             all_goals first | omega | exact lq (by omega) | exact nq (by omega) | rfl | (congr 1; omega)
           have e82 : (.agg [int v63.ino, int v36, str v63.name] : AV) = encWay (⟨v63.ino, v36, v63.name⟩ : Way) := _root_.id rfl
           obtain ⟨e85, hm3⟩ := apE hm3
           try simp only [ZL] at e85
           obtain rfl := Option.some.inj hm3
           simp only [kk2, g87, e62, e65, e69, e73, e82, e85, Y_ref13_walk, ↓EVd, isCall, sevalprocAttr]
           refine TI.here (hI2 _ rfl _ ⟨(x50 + 35), l53, ?_, ?_, ?_, ?_, ?_, ?_, ?_, ?_, ?_, ?_, ?_, ?_, ?_, ?_, ?_, ?_, ?_⟩)
           all_goals try simp only [kk2, g87, e62, e65, e69, e73, e82, e85, Y_ref13_walk, ↓EVd, isCall, sevalprocAttr]
           all_goals first | omega | exact lq (by omega) | exact nq (by omega) | rfl | (congr 1; omega)
         obtain rfl := Option.some.inj hm3
         simp only [kk2, g87, e62, e65, e69, Y_ref13_walk, ↓EVd, isCall, sevalprocAttr]
         refine TI.here (hI2 _ rfl _ ⟨l51, l53, ?_, ?_, ?_, ?_, ?_, ?_, ?_, ?_, ?_, ?_, ?_, ?_, ?_, ?_, ?_, ?_, ?_⟩)
         all_goals try simp only [kk2, g87, e62, e65, e69, Y_ref13_walk, ↓EVd, isCall, sevalprocAttr]
         all_goals first | omega | exact lq (by omega) | exact nq (by omega) | rfl | (congr 1; omega)
       obtain rfl := Option.some.inj hm3
       simp only [kk2, g87, e62, Y_ref13_walk, ↓EVd, isCall, sevalprocAttr]
       refine TI.here (hJ2_0 _ ⟨v52, v54, l51, l53, ⟨?_, ?_, ?_, ?_, ?_, ?_, ?_, ?_, ?_, ?_, ?_, ?_, ?_, ?_, ?_⟩, hO2 _ rfl⟩)
       all_goals try simp only [kk2, g87, e62, Y_ref13_walk, ↓EVd, isCall, sevalprocAttr]
       all_goals first | omega | exact lq (by omega) | exact nq (by omega) | rfl | (congr 1; omega)
     obtain rfl := Option.some.inj hm2
     simp only [kk1, e14, e17, e21, e25, e26, e29, e44, Y_ref13_walk, ↓EVd, isCall, sevalprocAttr]
     refine TI.here (hJ1_0 _ ⟨v33, v35, v36, l32, l34, ⟨?_, ?_, ?_, ?_, ?_, ?_, ?_, ?_, ?_, ?_, ?_, ?_, ?_, ?_, ?_⟩, hO1 _ rfl⟩)
     all_goals try simp only [kk1, e14, e17, e21, e25, e26, e29, e44, Y_ref13_walk, ↓EVd, isCall, sevalprocAttr]
     all_goals first | omega | exact lq (by omega) | exact nq (by omega) | rfl | (congr 1; omega)
   obtain rfl := Option.some.inj hm1
   simp only [kk0, e14, e17, e21, Y_ref13_walk, ↓EVd, isCall, sevalprocAttr]
   refine TI.here (hI0 _ rfl _ ⟨l2, l4, ?_, ?_, ?_, ?_, ?_, ?_, ?_, ?_, ?_, ?_, ?_, ?_, ?_, ?_, ?_⟩)
   all_goals try simp only [kk0, e14, e17, e21, Y_ref13_walk, ↓EVd, isCall, sevalprocAttr]
   all_goals first | omega | exact lq (by omega) | exact nq (by omega) | rfl | (congr 1; omega)
 obtain rfl := Option.some.inj hm1
 simp only [kk0, e14, Y_ref13_walk, ↓EVd, isCall, sevalprocAttr]
 refine TI.here (hJ0_0 _ ⟨v3, v5, l2, l4, ⟨?_, ?_, ?_, ?_, ?_, ?_, ?_⟩, hO0 _ rfl⟩)
 all_goals try simp only [kk0, e14, Y_ref13_walk, ↓EVd, isCall, sevalprocAttr]
 all_goals first | omega | exact lq (by omega) | exact nq (by omega) | rfl | (congr 1; omega)
def m_ref13_Dirs (a0 : Branch) (a1 : List Int) : Option (List Way) := (m_ref13_walk a0 a1).bind fun v1 => some v1.1
def Y_ref13_Dirs := And.intro (And.intro (And.intro ((@EV)) ((@R3))) (And.intro ((@R26)) (And.intro ((@R111)) ((@DBranch))))) (And.intro (And.intro ((@DEntry)) ((@DOrigin))) (And.intro ((@DAttr)) (And.intro ((@DNode)) ((@DWay)))))
set_option maxHeartbeats 2000000 in
theorem ok_ref13_Dirs (a0 : Branch) (a1 : List Int) (r : List Way) (hm0 : m_ref13_Dirs a0 a1 = some r) : Ok Tryz.prog 69 [encBranch a0, .sl 1 (a1.map int)] (.sl 3 (r.map encWay)) := by
 unfold m_ref13_Dirs at hm0
 refine okG fc_ref13_Dirs ?_
 unfold c_ref13_Dirs
 obtain ⟨v1, h2, hm0⟩ := bsE hm0
 simp only [Y_ref13_Dirs, ↓EVd, isCall, sevalprocAttr]
 refine qc (ok_ref13_walk _ _ _ h2) rfl ?_
 obtain rfl := Option.some.inj hm0
 simp only [Y_ref13_Dirs, ↓EVd, isCall, sevalprocAttr]
 all_goals first | done | rfl | exact frzR_closed (by simp only [CLO])
end Go.Proofs.YtapdjibjnfeipaaGreatDoor.AL

