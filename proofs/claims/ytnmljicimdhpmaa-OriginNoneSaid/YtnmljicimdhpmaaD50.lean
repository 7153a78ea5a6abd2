/- A law of the given program is proved: part 50 of 51. -/
import Derived.Test.YtnmljicimdhpmaaD49
set_option linter.all false
/- Models of functions, and that the functions are as their models: written by gen.py. -/
set_option linter.all false
set_option maxRecDepth 100000
namespace Go.Proofs.Ytnmljicimdhpmaa.AL
open Go Go.Proofs
def m_origin_Findings_b1 (a0 : Stack) (v1 : List Bool) (v13 : Int) : (List Finding × Int) → Option (St (List Finding × Int) (List Finding))
 | (v19, v20) => if v20 < (v1.length : Int) then (ix v1 v20).bind fun v26 => if (!v26) = true then some (.nx (v19, (wr (v20 + 1))))
 else (ix a0.upper.nodes v20).bind fun v31 => (m_origin_wrong a0 v13 v31).bind fun v34 => if (!v34) = true then some (.nx (v19, (wr (v20 + 1))))
 else (ap 32 v19 ([(⟨v13, 0, (wr (v20 + 1)), (-1)⟩ : Finding)] : List Finding)).bind fun _ => some (.nx ((v19 ++ ([(⟨v13, 0, (wr (v20 + 1)), (-1)⟩ : Finding)] : List Finding)), (wr (v20 + 1))))
 else some (.out v19)
def m_origin_Findings_b0 (a0 : Stack) (v1 : List Bool) : (List Finding × Int) → Option (St (List Finding × Int) (List Finding))
 | (v6, v7) => if v7 < 3 then (ix ([8, 13, 14] : List Int) v7).bind fun v13 => (iter (m_origin_Findings_b1 a0 v1 v13) big (v6, 0)).bind fun o => (match o with
 | v23 => some (.nx (v23, (wr (v7 + 1)))))
 else some (.out v6)
def m_origin_Findings (a0 : Stack) : Option (List Finding) := (m_walk_Reach a0.upper ([1] : List Int)).bind fun v1 => (iter (m_origin_Findings_b0 a0 v1) big ([], 0)).bind fun o => (match o with
 | v10 => some v10)
def Y_origin_Findings := And.intro (And.intro (And.intro (And.intro ((@EV)) ((@R3))) (And.intro ((@R4)) (And.intro ((@R24)) ((@R26))))) (And.intro (And.intro ((@R29)) (And.intro ((@R33)) ((@R35)))) (And.intro ((@R46)) (And.intro ((@R63)) ((@R72)))))) (And.intro (And.intro (And.intro ((@R102)) ((@DGeo))) (And.intro ((@DBranch)) (And.intro ((@DStack)) ((@DFinding))))) (And.intro (And.intro ((@DOrigin)) (And.intro ((@DAttr)) ((@DNode)))) (And.intro ((@DEntry)) (And.intro ((@DAr3_Int)) ((@mixed))))))
set_option maxHeartbeats 2000000 in
theorem ok_origin_Findings (a0 : Stack) (r : List Finding) (hm0 : m_origin_Findings a0 = some r) : Ok Try.prog 26 [encStack a0] (.sl 4 (r.map encFinding)) := by
 unfold m_origin_Findings at hm0
 refine okG fc_origin_Findings ?_
 unfold c_origin_Findings
 obtain ⟨v1, h2, hm0⟩ := bsE hm0
 simp only [Y_origin_Findings, ↓EVd, isCall, sevalprocAttr]
 refine qcq (ok_walk_Reach _ _ _ h2) rfl (by simp only [FQ, CLO, Y_origin_Findings, ↓EVd, isCall, sevalprocAttr]; first | done | rfl) ?_
 have e3 : (.agg [int 8, int 13, int 14] : AV) = encAr3_Int (⟨8, 13, 14⟩ : Ar3_Int) := _root_.id rfl
 obtain ⟨o0, ho0, hm0⟩ := bsE hm0
 simp only [e3, Y_origin_Findings, ↓EVd, isCall, sevalprocAttr]
 refine cwp_cx 0 (fun s => ∃ v10 : List Finding, ∃ l9 : Nat, (s.T 4 = .msl l9 v10.length ∧ s.H l9 = some (.row 35 4 (v10.map encFinding)) ∧ Lq l9 s.nx) ∧ v10 = o0) ?_ fun J0_0 hJ0_0 => ?_
 · rintro T0 H0 x8 ⟨v10, l9, kk0_0, rfl⟩
   dsimp only [Lq, Nq] at kk0_0
   try dsimp only at hm0
   obtain rfl := Option.some.inj hm0
   simp only [kk0_0, e3, Y_origin_Findings, ↓EVd, isCall, sevalprocAttr]
   all_goals first | done | rfl | exact frzR_e (by simp only [kk0_0, e3, FZ, CLO, Y_origin_Findings, ↓EVd, isCall, sevalprocAttr])
 refine cwp_lp ho0 (fun (v6, v7) s => ∃ l5 : Nat, s.T 1 = .loc 0 6 0 0 ∧ s.T 3 = .sl 1 (v1.map bool) ∧ s.T 4 = .msl l5 v6.length ∧ s.T 13 = encAr3_Int (⟨8, 13, 14⟩ : Ar3_Int) ∧ s.T 14 = int v7 ∧ s.H 0 = some (.row 29 6 [encStack a0]) ∧ s.H l5 = some (.row 35 4 (v6.map encFinding)) ∧ Lq 0 s.nx ∧ Lq l5 s.nx ∧ Nq 0 l5) ?_ ?_
 · refine TI.by (Tn.adopt 4 35 4 (by simp only [e3, Y_origin_Findings, ↓EVd, isCall, sevalprocAttr])) ?_
   refine TI.here ⟨10, ?_, ?_, ?_, ?_, ?_, ?_, ?_, ?_, ?_, ?_⟩
   all_goals try simp only [e3, Y_origin_Findings, ↓EVd, isCall, sevalprocAttr]
   all_goals first | omega | exact lq (by omega) | exact nq (by omega) | rfl | (congr 1; omega)
 rintro I0 ⟨v6, v7⟩ T0 H0 x4 st0 ⟨l5, kk0⟩ hm1 hI0 hO0
 dsimp only [Lq, Nq] at kk0
 simp only [m_origin_Findings_b0] at hm1
 rcases iteE hm1 with ⟨e12, hm1⟩ | ⟨e12, hm1⟩
 · obtain ⟨v13, h14, hm1⟩ := bsE hm1
   have e15 := (show evalIndex Try.prog 102 (encAr3_Int (⟨8, 13, 14⟩ : Ar3_Int)) (int v7) = some (int v13) from index_arrM arrOfT_102 aggN_3 (xs := [8, 13, 14]) rfl h14)
   have e16 := (show evalIndex Try.prog 102 (.agg [int 8, int 13, int 14]) (int v7) = some (int v13) from index_arrM arrOfT_102 aggN_3 (xs := [8, 13, 14]) rfl h14)
   simp only [kk0, e3, e12, e15, e16, Y_origin_Findings, ↓EVd, isCall, sevalprocAttr]
   refine cwp_scope0 ?_
   obtain ⟨o1, ho1, hm1⟩ := bsE hm1
   simp only [kk0, e3, e12, e15, e16, Y_origin_Findings, ↓EVd, isCall, sevalprocAttr]
   refine cwp_cx 2 (fun s => ∃ v23 : List Finding, ∃ l22 : Nat, (s.T 1 = .loc 0 6 0 0 ∧ s.T 3 = .sl 1 (v1.map bool) ∧ s.T 4 = .msl l22 v23.length ∧ s.T 13 = encAr3_Int (⟨8, 13, 14⟩ : Ar3_Int) ∧ s.T 14 = int v7 ∧ s.H 0 = some (.row 29 6 [encStack a0]) ∧ s.H l22 = some (.row 35 4 (v23.map encFinding)) ∧ Lq 0 s.nx ∧ Lq l22 s.nx ∧ Nq 0 l22) ∧ v23 = o1) ?_ fun J1_0 hJ1_0 => ?_
   · rintro T1 H1 x21 ⟨v23, l22, kk1_0, rfl⟩
     dsimp only [Lq, Nq] at kk1_0
     try dsimp only at hm1
     obtain rfl := Option.some.inj hm1
     simp only [kk1_0, e3, e12, e15, e16, Y_origin_Findings, ↓EVd, isCall, sevalprocAttr]
     refine TI.here (hI0 _ rfl _ ⟨l22, ?_, ?_, ?_, ?_, ?_, ?_, ?_, ?_, ?_, ?_⟩)
     all_goals try simp only [kk1_0, e3, e12, e15, e16, Y_origin_Findings, ↓EVd, isCall, sevalprocAttr]
     all_goals first | omega | exact lq (by omega) | exact nq (by omega) | rfl | (congr 1; omega)
   refine cwp_lp ho1 (fun (v19, v20) s => ∃ l18 : Nat, s.T 1 = .loc 0 6 0 0 ∧ s.T 3 = .sl 1 (v1.map bool) ∧ s.T 4 = .msl l18 v19.length ∧ s.T 6 = int v13 ∧ s.T 13 = encAr3_Int (⟨8, 13, 14⟩ : Ar3_Int) ∧ s.T 14 = int v7 ∧ s.T 17 = .sl 1 (v1.map bool) ∧ s.T 18 = int (v1.length : Int) ∧ s.T 19 = int v20 ∧ s.H 0 = some (.row 29 6 [encStack a0]) ∧ s.H l18 = some (.row 35 4 (v19.map encFinding)) ∧ Lq 0 s.nx ∧ Lq l18 s.nx ∧ Nq 0 l18) ?_ ?_
   · refine TI.here ⟨l5, ?_, ?_, ?_, ?_, ?_, ?_, ?_, ?_, ?_, ?_, ?_, ?_, ?_, ?_⟩
     all_goals try simp only [kk0, e3, e12, e15, e16, Y_origin_Findings, ↓EVd, isCall, sevalprocAttr]
     all_goals first | omega | exact lq (by omega) | exact nq (by omega) | rfl | (congr 1; omega)
   rintro I1 ⟨v19, v20⟩ T1 H1 x17 st1 ⟨l18, kk1⟩ hm2 hI1 hO1
   dsimp only [Lq, Nq] at kk1
   simp only [m_origin_Findings_b1] at hm2
   rcases iteE hm2 with ⟨e25, hm2⟩ | ⟨e25, hm2⟩
   · obtain ⟨v26, e28, hm2⟩ := ixE bool hm2
     rcases itbE hm2 with ⟨e30, hm2⟩ | ⟨e30, hm2⟩
     · obtain rfl := Option.some.inj hm2
       simp only [kk1, e3, e12, e15, e16, e25, e28, e30, Y_origin_Findings, ↓EVd, isCall, sevalprocAttr]
       refine TI.here (hI1 _ rfl _ ⟨l18, ?_, ?_, ?_, ?_, ?_, ?_, ?_, ?_, ?_, ?_, ?_, ?_, ?_, ?_⟩)
       all_goals try simp only [kk1, e3, e12, e15, e16, e25, e28, e30, Y_origin_Findings, ↓EVd, isCall, sevalprocAttr]
       all_goals first | omega | exact lq (by omega) | exact nq (by omega) | rfl | (congr 1; omega)
     obtain ⟨v31, e33, hm2⟩ := ixE encNode hm2
     have g43 := And.intro (And.intro (And.intro ((e3)) ((e12))) (And.intro ((e15)) ((e16)))) (And.intro (And.intro ((e25)) ((e28))) (And.intro ((e30)) ((e33))))
     obtain ⟨v34, h35, hm2⟩ := bsE hm2
     simp only [kk1, g43, Y_origin_Findings, ↓EVd, isCall, sevalprocAttr]
     refine qd (ok_origin_wrong _ _ _ _ h35) rfl ?_
     rcases itbE hm2 with ⟨e37, hm2⟩ | ⟨e37, hm2⟩
     · obtain rfl := Option.some.inj hm2
       simp only [kk1, g43, e37, Y_origin_Findings, ↓EVd, isCall, sevalprocAttr]
       refine TI.here (hI1 _ rfl _ ⟨l18, ?_, ?_, ?_, ?_, ?_, ?_, ?_, ?_, ?_, ?_, ?_, ?_, ?_, ?_⟩)
       all_goals try simp only [kk1, g43, e37, Y_origin_Findings, ↓EVd, isCall, sevalprocAttr]
       all_goals first | omega | exact lq (by omega) | exact nq (by omega) | rfl | (congr 1; omega)
     have e38 : (.agg [int v13, int 0, int (wr (v20 + 1)), int (-1)] : AV) = encFinding (⟨v13, 0, (wr (v20 + 1)), (-1)⟩ : Finding) := _root_.id rfl
     obtain ⟨e41, hm2⟩ := apE hm2
     try simp only [ZL] at e41
     obtain rfl := Option.some.inj hm2
     simp only [kk1, g43, e37, e38, e41, Y_origin_Findings, ↓EVd, isCall, sevalprocAttr]
     refine TI.here (hI1 _ rfl _ ⟨(x17 + 26), ?_, ?_, ?_, ?_, ?_, ?_, ?_, ?_, ?_, ?_, ?_, ?_, ?_, ?_⟩)
     all_goals try simp only [kk1, g43, e37, e38, e41, Y_origin_Findings, ↓EVd, isCall, sevalprocAttr]
     all_goals first | omega | exact lq (by omega) | exact nq (by omega) | rfl | (congr 1; omega)
   obtain rfl := Option.some.inj hm2
   simp only [kk1, e3, e12, e15, e16, e25, Y_origin_Findings, ↓EVd, isCall, sevalprocAttr]
   refine TI.here (hJ1_0 _ ⟨v19, l18, ⟨?_, ?_, ?_, ?_, ?_, ?_, ?_, ?_, ?_, ?_⟩, hO1 _ rfl⟩)
   all_goals try simp only [kk1, e3, e12, e15, e16, e25, Y_origin_Findings, ↓EVd, isCall, sevalprocAttr]
   all_goals first | omega | exact lq (by omega) | exact nq (by omega) | rfl | (congr 1; omega)
 obtain rfl := Option.some.inj hm1
 simp only [kk0, e3, e12, Y_origin_Findings, ↓EVd, isCall, sevalprocAttr]
 refine TI.here (hJ0_0 _ ⟨v6, l5, ⟨?_, ?_, ?_⟩, hO0 _ rfl⟩)
 all_goals try simp only [kk0, e3, e12, Y_origin_Findings, ↓EVd, isCall, sevalprocAttr]
 all_goals first | omega | exact lq (by omega) | exact nq (by omega) | rfl | (congr 1; omega)
end Go.Proofs.Ytnmljicimdhpmaa.AL

