/- A law of the given program is proved: part 46 of 50. -/
import Derived.Test.YtapdjibjnfeipaaGreatDoorC45
set_option linter.all false
/- Models of functions, and that the functions are as their models: written by gen.py. -/
set_option linter.all false
set_option maxRecDepth 100000
namespace Go.Proofs.YtapdjibjnfeipaaGreatDoor.AL
open Go Go.Proofs
def m_white_Hides (a0 : Stack) (a1 : View) (a2 : ByteArray) : Option (Bool) := (m_lower_Find a0 a1.lower a2).bind fun v1 => if v1.1 = 0 then some false
 else some true
def Y_white_Hides := And.intro (And.intro (And.intro (And.intro ((@EV)) ((@R3))) (And.intro ((@R9)) ((@R29)))) (And.intro (And.intro ((@R30)) ((@R32))) (And.intro ((@R45)) ((@DGeo))))) (And.intro (And.intro (And.intro ((@DBranch)) ((@DStack))) (And.intro ((@DView)) ((@DPlace)))) (And.intro (And.intro ((@DEntry)) ((@DOrigin))) (And.intro ((@DAttr)) ((@DNode)))))
set_option maxHeartbeats 2000000 in
theorem ok_white_Hides (a0 : Stack) (a1 : View) (a2 : ByteArray) (r : Bool) (hm0 : m_white_Hides a0 a1 a2 = some r) : Ok Tryz.prog 13 [encStack a0, encView a1, str a2] (bool r) := by
 unfold m_white_Hides at hm0
 refine okG fc_white_Hides ?_
 unfold c_white_Hides
 obtain ⟨v1, h2, hm0⟩ := bsE hm0
 simp only [Y_white_Hides, ↓EVd, isCall, sevalprocAttr]
 refine qc (ok_lower_Find _ _ _ _ h2) rfl ?_
 rcases iteE hm0 with ⟨e4, hm0⟩ | ⟨e4, hm0⟩
 · obtain rfl := Option.some.inj hm0
   simp only [e4, Y_white_Hides, ↓EVd, isCall, sevalprocAttr]
   all_goals first | done | rfl
 obtain rfl := Option.some.inj hm0
 simp only [e4, Y_white_Hides, ↓EVd, isCall, sevalprocAttr]
 all_goals first | done | rfl
def m_white_whites_b0 (a0 : Stack) (v5 : Node) : (List Entry × Int) → Option (St (List Entry × Int) (List Entry))
 | (v10, v11) => if v11 < (v5.entries.length : Int) then (ix v5.entries v11).bind fun v17 => if 1 ≤ v17.ino then if v17.ino ≤ (a0.upper.nodes.length : Int) then (ix a0.upper.nodes (wr (v17.ino - 1))).bind fun v24 => if v24.kind = 4 then (ap 32 v10 ([v17] : List Entry)).bind fun _ => some (.nx ((v10 ++ ([v17] : List Entry)), (wr (v11 + 1))))
 else some (.nx (v10, (wr (v11 + 1))))
 else some (.nx (v10, (wr (v11 + 1))))
 else some (.nx (v10, (wr (v11 + 1))))
 else some (.out v10)
def m_white_whites (a0 : Stack) (a1 : Int) : Option (List Entry) := if a1 < 1 then some []
 else if (a0.upper.nodes.length : Int) < a1 then some []
 else (ix a0.upper.nodes (wr (a1 - 1))).bind fun v5 => (iter (m_white_whites_b0 a0 v5) big ([], 0)).bind fun o => (match o with
 | v14 => some v14)
def Y_white_whites := And.intro (And.intro (And.intro ((@EV)) (And.intro ((@R3)) ((@R24)))) (And.intro (And.intro ((@R26)) ((@R29))) (And.intro ((@R55)) ((@R62))))) (And.intro (And.intro (And.intro ((@R68)) ((@DGeo))) (And.intro ((@DBranch)) ((@DStack)))) (And.intro (And.intro ((@DEntry)) ((@DOrigin))) (And.intro ((@DAttr)) ((@DNode)))))
set_option maxHeartbeats 2000000 in
theorem ok_white_whites (a0 : Stack) (a1 : Int) (r : List Entry) (hm0 : m_white_whites a0 a1 = some r) : Ok Tryz.prog 47 [encStack a0, int a1] (.sl 3 (r.map encEntry)) := by
 unfold m_white_whites at hm0
 refine okG fc_white_whites ?_
 unfold c_white_whites
 rcases iteE hm0 with ⟨e2, hm0⟩ | ⟨e2, hm0⟩
 · obtain rfl := Option.some.inj hm0
   simp only [e2, Y_white_whites, ↓EVd, isCall, sevalprocAttr]
   all_goals first | done | rfl | exact frzR_sub (by simp only [CLO]) (Sub.nilS _)
 rcases iteE hm0 with ⟨e4, hm0⟩ | ⟨e4, hm0⟩
 · obtain rfl := Option.some.inj hm0
   simp only [e2, e4, Y_white_whites, ↓EVd, isCall, sevalprocAttr]
   all_goals first | done | rfl | exact frzR_sub (by simp only [CLO]) (Sub.nilS _)
 obtain ⟨v5, e7, hm0⟩ := ixE encNode hm0
 obtain ⟨o0, ho0, hm0⟩ := bsE hm0
 simp only [e2, e4, e7, Y_white_whites, ↓EVd, isCall, sevalprocAttr]
 refine cwp_cx 0 (fun s => ∃ v14 : List Entry, ∃ l13 : Nat, (s.T 6 = .msl l13 v14.length ∧ s.H l13 = some (.row 55 3 (v14.map encEntry)) ∧ Lq l13 s.nx) ∧ v14 = o0) ?_ fun J0_0 hJ0_0 => ?_
 · rintro T0 H0 x12 ⟨v14, l13, kk0_0, rfl⟩
   dsimp only [Lq, Nq] at kk0_0
   try dsimp only at hm0
   obtain rfl := Option.some.inj hm0
   simp only [kk0_0, e2, e4, e7, Y_white_whites, ↓EVd, isCall, sevalprocAttr]
   all_goals first | done | rfl | exact frzR_e (by simp only [kk0_0, e2, e4, e7, FZ, CLO, Y_white_whites, ↓EVd, isCall, sevalprocAttr])
 refine cwp_lp ho0 (fun (v10, v11) s => ∃ l9 : Nat, s.T 5 = .sl 13 (a0.upper.nodes.map encNode) ∧ s.T 6 = .msl l9 v10.length ∧ s.T 25 = .sl 3 (v5.entries.map encEntry) ∧ s.T 26 = int (v5.entries.length : Int) ∧ s.T 27 = int v11 ∧ s.H l9 = some (.row 55 3 (v10.map encEntry)) ∧ Lq l9 s.nx) ?_ ?_
 · refine TI.by (Tn.adopt 6 55 3 (by simp only [e2, e4, e7, Y_white_whites, ↓EVd, isCall, sevalprocAttr])) ?_
   refine TI.here ⟨23, ?_, ?_, ?_, ?_, ?_, ?_, ?_⟩
   all_goals try simp only [e2, e4, e7, Y_white_whites, ↓EVd, isCall, sevalprocAttr]
   all_goals first | omega | exact lq (by omega) | exact nq (by omega) | rfl | (congr 1; omega)
 rintro I0 ⟨v10, v11⟩ T0 H0 x8 st0 ⟨l9, kk0⟩ hm1 hI0 hO0
 dsimp only [Lq, Nq] at kk0
 simp only [m_white_whites_b0] at hm1
 rcases iteE hm1 with ⟨e16, hm1⟩ | ⟨e16, hm1⟩
 · obtain ⟨v17, e19, hm1⟩ := ixE encEntry hm1
   rcases iteE hm1 with ⟨e21, hm1⟩ | ⟨e21, hm1⟩
   · rcases iteE hm1 with ⟨e23, hm1⟩ | ⟨e23, hm1⟩
     · obtain ⟨v24, e26, hm1⟩ := ixE encNode hm1
       have g33 := And.intro (And.intro (And.intro ((e2)) ((e4))) (And.intro ((e7)) ((e16)))) (And.intro (And.intro ((e19)) ((e21))) (And.intro ((e23)) ((e26))))
       rcases iteE hm1 with ⟨e28, hm1⟩ | ⟨e28, hm1⟩
       · obtain ⟨e31, hm1⟩ := apE hm1
         try simp only [ZL] at e31
         obtain rfl := Option.some.inj hm1
         simp only [kk0, g33, e28, e31, Y_white_whites, ↓EVd, isCall, sevalprocAttr]
         refine TI.here (hI0 _ rfl _ ⟨(x8 + 28), ?_, ?_, ?_, ?_, ?_, ?_, ?_⟩)
         all_goals try simp only [kk0, g33, e28, e31, Y_white_whites, ↓EVd, isCall, sevalprocAttr]
         all_goals first | omega | exact lq (by omega) | exact nq (by omega) | rfl | (congr 1; omega)
       obtain rfl := Option.some.inj hm1
       simp only [kk0, g33, e28, Y_white_whites, ↓EVd, isCall, sevalprocAttr]
       refine TI.here (hI0 _ rfl _ ⟨l9, ?_, ?_, ?_, ?_, ?_, ?_, ?_⟩)
       all_goals try simp only [kk0, g33, e28, Y_white_whites, ↓EVd, isCall, sevalprocAttr]
       all_goals first | omega | exact lq (by omega) | exact nq (by omega) | rfl | (congr 1; omega)
     obtain rfl := Option.some.inj hm1
     simp only [kk0, e2, e4, e7, e16, e19, e21, e23, Y_white_whites, ↓EVd, isCall, sevalprocAttr]
     refine TI.here (hI0 _ rfl _ ⟨l9, ?_, ?_, ?_, ?_, ?_, ?_, ?_⟩)
     all_goals try simp only [kk0, e2, e4, e7, e16, e19, e21, e23, Y_white_whites, ↓EVd, isCall, sevalprocAttr]
     all_goals first | omega | exact lq (by omega) | exact nq (by omega) | rfl | (congr 1; omega)
   obtain rfl := Option.some.inj hm1
   simp only [kk0, e2, e4, e7, e16, e19, e21, Y_white_whites, ↓EVd, isCall, sevalprocAttr]
   refine TI.here (hI0 _ rfl _ ⟨l9, ?_, ?_, ?_, ?_, ?_, ?_, ?_⟩)
   all_goals try simp only [kk0, e2, e4, e7, e16, e19, e21, Y_white_whites, ↓EVd, isCall, sevalprocAttr]
   all_goals first | omega | exact lq (by omega) | exact nq (by omega) | rfl | (congr 1; omega)
 obtain rfl := Option.some.inj hm1
 simp only [kk0, e2, e4, e7, e16, Y_white_whites, ↓EVd, isCall, sevalprocAttr]
 refine TI.here (hJ0_0 _ ⟨v10, l9, ⟨?_, ?_, ?_⟩, hO0 _ rfl⟩)
 all_goals try simp only [kk0, e2, e4, e7, e16, Y_white_whites, ↓EVd, isCall, sevalprocAttr]
 all_goals first | omega | exact lq (by omega) | exact nq (by omega) | rfl | (congr 1; omega)
def m_white_Names_b0 (v1 : List Entry) : (List ByteArray × Int) → Option (St (List ByteArray × Int) (List ByteArray))
 | (v5, v6) => if v6 < (v1.length : Int) then (ix v1 v6).bind fun v12 => (ap 16 v5 ([v12.name] : List ByteArray)).bind fun _ => some (.nx ((v5 ++ ([v12.name] : List ByteArray)), (wr (v6 + 1))))
 else some (.out v5)
def m_white_Names (a0 : Stack) (a1 : View) : Option (List ByteArray) := (m_white_whites a0 a1.upper).bind fun v1 => (iter (m_white_Names_b0 v1) big ([], 0)).bind fun o => (match o with
 | v9 => (m_name_Sort v9).bind fun v19 => some v19)
def Y_white_Names := And.intro (And.intro (And.intro (And.intro ((@EV)) ((@R3))) (And.intro ((@R9)) ((@R29)))) (And.intro (And.intro ((@R32)) ((@R42))) (And.intro ((@R55)) ((@R62))))) (And.intro (And.intro (And.intro ((@DGeo)) ((@DBranch))) (And.intro ((@DStack)) ((@DView)))) (And.intro (And.intro ((@DPlace)) ((@DEntry))) (And.intro ((@DOrigin)) (And.intro ((@DAttr)) ((@DNode))))))
set_option maxHeartbeats 2000000 in
theorem ok_white_Names (a0 : Stack) (a1 : View) (r : List ByteArray) (hm0 : m_white_Names a0 a1 = some r) : Ok Tryz.prog 16 [encStack a0, encView a1] (.sl 1 (r.map str)) := by
 unfold m_white_Names at hm0
 refine okG fc_white_Names ?_
 unfold c_white_Names
 obtain ⟨v1, h2, hm0⟩ := bsE hm0
 simp only [Y_white_Names, ↓EVd, isCall, sevalprocAttr]
 refine qc (ok_white_whites _ _ _ h2) rfl ?_
 obtain ⟨o0, ho0, hm0⟩ := bsE hm0
 simp only [Y_white_Names, ↓EVd, isCall, sevalprocAttr]
 refine cwp_cx 0 (fun s => ∃ v9 : List ByteArray, ∃ l8 : Nat, (s.T 5 = .msl l8 v9.length ∧ s.H l8 = some (.row 9 1 (v9.map str)) ∧ Lq l8 s.nx) ∧ v9 = o0) ?_ fun J0_0 hJ0_0 => ?_
 · rintro T0 H0 x7 ⟨v9, l8, kk0_0, rfl⟩
   dsimp only [Lq, Nq] at kk0_0
   try dsimp only at hm0
   obtain ⟨v19, h20, hm0⟩ := bsE hm0
   simp only [kk0_0, Y_white_Names, ↓EVd, isCall, sevalprocAttr]
   refine qcq (ok_name_Sort _ _ h20) rfl (by simp only [kk0_0, FQ, CLO, Y_white_Names, ↓EVd, isCall, sevalprocAttr]; first | done | rfl) ?_
   obtain rfl := Option.some.inj hm0
   simp only [kk0_0, Y_white_Names, ↓EVd, isCall, sevalprocAttr]
   all_goals first | done | rfl | exact frzR_closed (by simp only [CLO])
 refine cwp_lp ho0 (fun (v5, v6) s => ∃ l4 : Nat, s.T 5 = .msl l4 v5.length ∧ s.T 11 = .sl 3 (v1.map encEntry) ∧ s.T 12 = int (v1.length : Int) ∧ s.T 13 = int v6 ∧ s.H l4 = some (.row 9 1 (v5.map str)) ∧ Lq l4 s.nx) ?_ ?_
 · refine TI.by (Tn.adopt 5 9 1 (by simp only [Y_white_Names, ↓EVd, isCall, sevalprocAttr])) ?_
   refine TI.here ⟨10, ?_, ?_, ?_, ?_, ?_, ?_⟩
   all_goals try simp only [Y_white_Names, ↓EVd, isCall, sevalprocAttr]
   all_goals first | omega | exact lq (by omega) | exact nq (by omega) | rfl | (congr 1; omega)
 rintro I0 ⟨v5, v6⟩ T0 H0 x3 st0 ⟨l4, kk0⟩ hm1 hI0 hO0
 dsimp only [Lq, Nq] at kk0
 simp only [m_white_Names_b0] at hm1
 rcases iteE hm1 with ⟨e11, hm1⟩ | ⟨e11, hm1⟩
 · obtain ⟨v12, e14, hm1⟩ := ixE encEntry hm1
   obtain ⟨e17, hm1⟩ := apE hm1
   try simp only [ZL] at e17
   obtain rfl := Option.some.inj hm1
   simp only [kk0, e11, e14, e17, Y_white_Names, ↓EVd, isCall, sevalprocAttr]
   refine TI.here (hI0 _ rfl _ ⟨(x3 + 9), ?_, ?_, ?_, ?_, ?_, ?_⟩)
   all_goals try simp only [kk0, e11, e14, e17, Y_white_Names, ↓EVd, isCall, sevalprocAttr]
   all_goals first | omega | exact lq (by omega) | exact nq (by omega) | rfl | (congr 1; omega)
 obtain rfl := Option.some.inj hm1
 simp only [kk0, e11, Y_white_Names, ↓EVd, isCall, sevalprocAttr]
 refine TI.here (hJ0_0 _ ⟨v5, l4, ⟨?_, ?_, ?_⟩, hO0 _ rfl⟩)
 all_goals try simp only [kk0, e11, Y_white_Names, ↓EVd, isCall, sevalprocAttr]
 all_goals first | omega | exact lq (by omega) | exact nq (by omega) | rfl | (congr 1; omega)
def m_white_Findings_b1 (a0 : Stack) (v12 : View) (v15 : List Entry) : (List Finding × Int) → Option (St (List Finding × Int) (List Finding))
 | (v19, v20) => if v20 < (v15.length : Int) then (ix v15 v20).bind fun v26 => (m_white_Hides a0 v12 v26.name).bind fun v29 => if v29 = true then some (.nx (v19, (wr (v20 + 1))))
 else (ap 32 v19 ([(⟨15, 0, v12.upper, v26.slot⟩ : Finding)] : List Finding)).bind fun _ => some (.nx ((v19 ++ ([(⟨15, 0, v12.upper, v26.slot⟩ : Finding)] : List Finding)), (wr (v20 + 1))))
 else some (.out v19)
def m_white_Findings_b0 (a0 : Stack) (v1 : List Way × List View) : (List Finding × Int) → Option (St (List Finding × Int) (List Finding))
 | (v5, v6) => if v6 < (v1.2.length : Int) then (ix v1.2 v6).bind fun v12 => (m_white_whites a0 v12.upper).bind fun v15 => (iter (m_white_Findings_b1 a0 v12 v15) big (v5, 0)).bind fun o => (match o with
 | v23 => some (.nx (v23, (wr (v6 + 1)))))
 else some (.out v5)
def m_white_Findings (a0 : Stack) : Option (List Finding) := (m_view_Tree a0).bind fun v1 => (iter (m_white_Findings_b0 a0 v1) big ([], 0)).bind fun o => (match o with
 | v9 => some v9)
def Y_white_Findings := And.intro (And.intro (And.intro (And.intro ((@EV)) ((@R3))) (And.intro ((@R9)) (And.intro ((@R29)) ((@R32))))) (And.intro (And.intro ((@R36)) ((@R38))) (And.intro ((@R55)) (And.intro ((@R62)) ((@R74)))))) (And.intro (And.intro (And.intro ((@DGeo)) ((@DBranch))) (And.intro ((@DStack)) (And.intro ((@DView)) ((@DFinding))))) (And.intro (And.intro ((@DPlace)) ((@DEntry))) (And.intro ((@DOrigin)) (And.intro ((@DAttr)) ((@DNode))))))
set_option maxHeartbeats 2000000 in
theorem ok_white_Findings (a0 : Stack) (r : List Finding) (hm0 : m_white_Findings a0 = some r) : Ok Tryz.prog 11 [encStack a0] (.sl 4 (r.map encFinding)) := by
 unfold m_white_Findings at hm0
 refine okG fc_white_Findings ?_
 unfold c_white_Findings
 obtain ⟨v1, h2, hm0⟩ := bsE hm0
 simp only [Y_white_Findings, ↓EVd, isCall, sevalprocAttr]
 refine qc (ok_view_Tree _ _ h2) rfl ?_
 obtain ⟨o0, ho0, hm0⟩ := bsE hm0
 simp only [Y_white_Findings, ↓EVd, isCall, sevalprocAttr]
 refine cwp_cx 0 (fun s => ∃ v9 : List Finding, ∃ l8 : Nat, (s.T 3 = .msl l8 v9.length ∧ s.H l8 = some (.row 38 4 (v9.map encFinding)) ∧ Lq l8 s.nx) ∧ v9 = o0) ?_ fun J0_0 hJ0_0 => ?_
 · rintro T0 H0 x7 ⟨v9, l8, kk0_0, rfl⟩
   dsimp only [Lq, Nq] at kk0_0
   try dsimp only at hm0
   obtain rfl := Option.some.inj hm0
   simp only [kk0_0, Y_white_Findings, ↓EVd, isCall, sevalprocAttr]
   all_goals first | done | rfl | exact frzR_e (by simp only [kk0_0, FZ, CLO, Y_white_Findings, ↓EVd, isCall, sevalprocAttr])
 refine cwp_lp ho0 (fun (v5, v6) s => ∃ l4 : Nat, s.T 1 = .loc 0 6 0 0 ∧ s.T 3 = .msl l4 v5.length ∧ s.T 15 = .sl 2 (v1.2.map encView) ∧ s.T 16 = int (v1.2.length : Int) ∧ s.T 17 = int v6 ∧ s.H 0 = some (.row 29 6 [encStack a0]) ∧ s.H l4 = some (.row 38 4 (v5.map encFinding)) ∧ Lq 0 s.nx ∧ Lq l4 s.nx ∧ Nq 0 l4) ?_ ?_
 · refine TI.by (Tn.adopt 3 38 4 (by simp only [Y_white_Findings, ↓EVd, isCall, sevalprocAttr])) ?_
   refine TI.here ⟨13, ?_, ?_, ?_, ?_, ?_, ?_, ?_, ?_, ?_, ?_⟩
   all_goals try simp only [Y_white_Findings, ↓EVd, isCall, sevalprocAttr]
   all_goals first | omega | exact lq (by omega) | exact nq (by omega) | rfl | (congr 1; omega)
 rintro I0 ⟨v5, v6⟩ T0 H0 x3 st0 ⟨l4, kk0⟩ hm1 hI0 hO0
 dsimp only [Lq, Nq] at kk0
 simp only [m_white_Findings_b0] at hm1
 rcases iteE hm1 with ⟨e11, hm1⟩ | ⟨e11, hm1⟩
 · obtain ⟨v12, e14, hm1⟩ := ixE encView hm1
   simp only [kk0, e11, e14, Y_white_Findings, ↓EVd, isCall, sevalprocAttr]
   refine cwp_scope0 ?_
   obtain ⟨v15, h16, hm1⟩ := bsE hm1
   simp only [kk0, e11, e14, Y_white_Findings, ↓EVd, isCall, sevalprocAttr]
   refine qc (ok_white_whites _ _ _ h16) rfl ?_
   obtain ⟨o1, ho1, hm1⟩ := bsE hm1
   simp only [kk0, e11, e14, Y_white_Findings, ↓EVd, isCall, sevalprocAttr]
   refine cwp_cx 2 (fun s => ∃ v23 : List Finding, ∃ l22 : Nat, (s.T 1 = .loc 0 6 0 0 ∧ s.T 3 = .msl l22 v23.length ∧ s.T 15 = .sl 2 (v1.2.map encView) ∧ s.T 16 = int (v1.2.length : Int) ∧ s.T 17 = int v6 ∧ s.H 0 = some (.row 29 6 [encStack a0]) ∧ s.H l22 = some (.row 38 4 (v23.map encFinding)) ∧ Lq 0 s.nx ∧ Lq l22 s.nx ∧ Nq 0 l22) ∧ v23 = o1) ?_ fun J1_0 hJ1_0 => ?_
   · rintro T1 H1 x21 ⟨v23, l22, kk1_0, rfl⟩
     dsimp only [Lq, Nq] at kk1_0
     try dsimp only at hm1
     obtain rfl := Option.some.inj hm1
     simp only [kk1_0, e11, e14, Y_white_Findings, ↓EVd, isCall, sevalprocAttr]
     refine TI.here (hI0 _ rfl _ ⟨l22, ?_, ?_, ?_, ?_, ?_, ?_, ?_, ?_, ?_, ?_⟩)
     all_goals try simp only [kk1_0, e11, e14, Y_white_Findings, ↓EVd, isCall, sevalprocAttr]
     all_goals first | omega | exact lq (by omega) | exact nq (by omega) | rfl | (congr 1; omega)
   refine cwp_lp ho1 (fun (v19, v20) s => ∃ l18 : Nat, s.T 1 = .loc 0 6 0 0 ∧ s.T 3 = .msl l18 v19.length ∧ s.T 7 = .loc (x3 + 3) 2 0 0 ∧ s.T 15 = .sl 2 (v1.2.map encView) ∧ s.T 16 = int (v1.2.length : Int) ∧ s.T 17 = int v6 ∧ s.T 24 = .sl 3 (v15.map encEntry) ∧ s.T 25 = int (v15.length : Int) ∧ s.T 26 = int v20 ∧ s.H 0 = some (.row 29 6 [encStack a0]) ∧ s.H (x3 + 3) = some (.row 32 2 [encView v12]) ∧ s.H l18 = some (.row 38 4 (v19.map encFinding)) ∧ Lq 0 s.nx ∧ Lq (x3 + 3) s.nx ∧ Lq l18 s.nx ∧ Nq 0 (x3 + 3) ∧ Nq 0 l18 ∧ Nq (x3 + 3) l18) ?_ ?_
   · refine TI.here ⟨l4, ?_, ?_, ?_, ?_, ?_, ?_, ?_, ?_, ?_, ?_, ?_, ?_, ?_, ?_, ?_, ?_, ?_, ?_⟩
     all_goals try simp only [kk0, e11, e14, Y_white_Findings, ↓EVd, isCall, sevalprocAttr]
     all_goals first | omega | exact lq (by omega) | exact nq (by omega) | rfl | (congr 1; omega)
   rintro I1 ⟨v19, v20⟩ T1 H1 x17 st1 ⟨l18, kk1⟩ hm2 hI1 hO1
   dsimp only [Lq, Nq] at kk1
   simp only [m_white_Findings_b1] at hm2
   rcases iteE hm2 with ⟨e25, hm2⟩ | ⟨e25, hm2⟩
   · obtain ⟨v26, e28, hm2⟩ := ixE encEntry hm2
     obtain ⟨v29, h30, hm2⟩ := bsE hm2
     simp only [kk1, e11, e14, e25, e28, Y_white_Findings, ↓EVd, isCall, sevalprocAttr]
     refine qc (ok_white_Hides _ _ _ _ h30) rfl ?_
     rcases itbE hm2 with ⟨e32, hm2⟩ | ⟨e32, hm2⟩
     · obtain rfl := Option.some.inj hm2
       simp only [kk1, e11, e14, e25, e28, e32, Y_white_Findings, ↓EVd, isCall, sevalprocAttr]
       refine TI.here (hI1 _ rfl _ ⟨l18, ?_, ?_, ?_, ?_, ?_, ?_, ?_, ?_, ?_, ?_, ?_, ?_, ?_, ?_, ?_, ?_, ?_, ?_⟩)
       all_goals try simp only [kk1, e11, e14, e25, e28, e32, Y_white_Findings, ↓EVd, isCall, sevalprocAttr]
       all_goals first | omega | exact lq (by omega) | exact nq (by omega) | rfl | (congr 1; omega)
     have e33 : (.agg [int 15, int 0, int v12.upper, int v26.slot] : AV) = encFinding (⟨15, 0, v12.upper, v26.slot⟩ : Finding) := _root_.id rfl
     obtain ⟨e36, hm2⟩ := apE hm2
     try simp only [ZL] at e36
     obtain rfl := Option.some.inj hm2
     simp only [kk1, e11, e14, e25, e28, e32, e33, e36, Y_white_Findings, ↓EVd, isCall, sevalprocAttr]
     refine TI.here (hI1 _ rfl _ ⟨(x17 + 17), ?_, ?_, ?_, ?_, ?_, ?_, ?_, ?_, ?_, ?_, ?_, ?_, ?_, ?_, ?_, ?_, ?_, ?_⟩)
     all_goals try simp only [kk1, e11, e14, e25, e28, e32, e33, e36, Y_white_Findings, ↓EVd, isCall, sevalprocAttr]
     all_goals first | omega | exact lq (by omega) | exact nq (by omega) | rfl | (congr 1; omega)
   obtain rfl := Option.some.inj hm2
   simp only [kk1, e11, e14, e25, Y_white_Findings, ↓EVd, isCall, sevalprocAttr]
   refine TI.here (hJ1_0 _ ⟨v19, l18, ⟨?_, ?_, ?_, ?_, ?_, ?_, ?_, ?_, ?_, ?_⟩, hO1 _ rfl⟩)
   all_goals try simp only [kk1, e11, e14, e25, Y_white_Findings, ↓EVd, isCall, sevalprocAttr]
   all_goals first | omega | exact lq (by omega) | exact nq (by omega) | rfl | (congr 1; omega)
 obtain rfl := Option.some.inj hm1
 simp only [kk0, e11, Y_white_Findings, ↓EVd, isCall, sevalprocAttr]
 refine TI.here (hJ0_0 _ ⟨v5, l4, ⟨?_, ?_, ?_⟩, hO0 _ rfl⟩)
 all_goals try simp only [kk0, e11, Y_white_Findings, ↓EVd, isCall, sevalprocAttr]
 all_goals first | omega | exact lq (by omega) | exact nq (by omega) | rfl | (congr 1; omega)
def m_ref20_Hides (a0 : Stack) (a1 : View) (a2 : ByteArray) : Option (Bool) := (m_ref16_Find a0 a1.lower a2).bind fun v1 => if v1.1 = 0 then some false
 else some true
def Y_ref20_Hides := And.intro (And.intro (And.intro (And.intro ((@EV)) ((@R3))) (And.intro ((@R9)) ((@R29)))) (And.intro (And.intro ((@R30)) ((@R32))) (And.intro ((@R45)) ((@DGeo))))) (And.intro (And.intro (And.intro ((@DBranch)) ((@DStack))) (And.intro ((@DView)) ((@DPlace)))) (And.intro (And.intro ((@DEntry)) ((@DOrigin))) (And.intro ((@DAttr)) ((@DNode)))))
set_option maxHeartbeats 2000000 in
theorem ok_ref20_Hides (a0 : Stack) (a1 : View) (a2 : ByteArray) (r : Bool) (hm0 : m_ref20_Hides a0 a1 a2 = some r) : Ok Tryz.prog 14 [encStack a0, encView a1, str a2] (bool r) := by
 unfold m_ref20_Hides at hm0
 refine okG fc_ref20_Hides ?_
 unfold c_ref20_Hides
 obtain ⟨v1, h2, hm0⟩ := bsE hm0
 simp only [Y_ref20_Hides, ↓EVd, isCall, sevalprocAttr]
 refine qc (ok_ref16_Find _ _ _ _ h2) rfl ?_
 rcases iteE hm0 with ⟨e4, hm0⟩ | ⟨e4, hm0⟩
 · obtain rfl := Option.some.inj hm0
   simp only [e4, Y_ref20_Hides, ↓EVd, isCall, sevalprocAttr]
   all_goals first | done | rfl
 obtain rfl := Option.some.inj hm0
 simp only [e4, Y_ref20_Hides, ↓EVd, isCall, sevalprocAttr]
 all_goals first | done | rfl
def m_ref20_Names_b0 (a0 : Stack) (v1 : Node) : (List ByteArray × Int) → Option (St (List ByteArray × Int) (List ByteArray))
 | (v5, v6) => if v6 < (v1.entries.length : Int) then (ix v1.entries v6).bind fun v12 => (m_ref13_At a0.upper v12.ino).bind fun v15 => if v15.kind = 4 then (ap 16 v5 ([v12.name] : List ByteArray)).bind fun _ => some (.nx ((v5 ++ ([v12.name] : List ByteArray)), (wr (v6 + 1))))
 else some (.nx (v5, (wr (v6 + 1))))
 else some (.out v5)
def m_ref20_Names (a0 : Stack) (a1 : View) : Option (List ByteArray) := (m_ref13_At a0.upper a1.upper).bind fun v1 => (iter (m_ref20_Names_b0 a0 v1) big (([] : List ByteArray), 0)).bind fun o => (match o with
 | v9 => (m_ref03_Sort v9).bind fun v23 => some v23)
def Y_ref20_Names := And.intro (And.intro (And.intro (And.intro ((@EV)) ((@R3))) (And.intro ((@R9)) (And.intro ((@R26)) ((@R29))))) (And.intro (And.intro ((@R32)) ((@R42))) (And.intro ((@R55)) (And.intro ((@R62)) ((@R68)))))) (And.intro (And.intro (And.intro ((@DGeo)) ((@DBranch))) (And.intro ((@DStack)) (And.intro ((@DView)) ((@DPlace))))) (And.intro (And.intro ((@DEntry)) ((@DOrigin))) (And.intro ((@DAttr)) (And.intro ((@DNode)) ((@mixed))))))
set_option maxHeartbeats 2000000 in
theorem ok_ref20_Names (a0 : Stack) (a1 : View) (r : List ByteArray) (hm0 : m_ref20_Names a0 a1 = some r) : Ok Tryz.prog 17 [encStack a0, encView a1] (.sl 1 (r.map str)) := by
 unfold m_ref20_Names at hm0
 refine okG fc_ref20_Names ?_
 unfold c_ref20_Names
 obtain ⟨v1, h2, hm0⟩ := bsE hm0
 simp only [Y_ref20_Names, ↓EVd, isCall, sevalprocAttr]
 refine qc (ok_ref13_At _ _ _ h2) rfl ?_
 obtain ⟨o0, ho0, hm0⟩ := bsE hm0
 simp only [Y_ref20_Names, ↓EVd, isCall, sevalprocAttr]
 refine cwp_cx 0 (fun s => ∃ v9 : List ByteArray, ∃ l8 : Nat, (s.T 5 = .msl l8 v9.length ∧ s.H l8 = some (.row 9 1 (v9.map str)) ∧ Lq l8 s.nx) ∧ v9 = o0) ?_ fun J0_0 hJ0_0 => ?_
 · rintro T0 H0 x7 ⟨v9, l8, kk0_0, rfl⟩
   dsimp only [Lq, Nq] at kk0_0
   try dsimp only at hm0
   obtain ⟨v23, h24, hm0⟩ := bsE hm0
   simp only [kk0_0, Y_ref20_Names, ↓EVd, isCall, sevalprocAttr]
   refine qcq (ok_ref03_Sort _ _ h24) rfl (by simp only [kk0_0, FQ, CLO, Y_ref20_Names, ↓EVd, isCall, sevalprocAttr]; first | done | rfl) ?_
   obtain rfl := Option.some.inj hm0
   simp only [kk0_0, Y_ref20_Names, ↓EVd, isCall, sevalprocAttr]
   all_goals first | done | rfl | exact frzR_closed (by simp only [CLO])
 refine cwp_lp ho0 (fun (v5, v6) s => ∃ l4 : Nat, s.T 2 = .loc 0 6 0 0 ∧ s.T 5 = .msl l4 v5.length ∧ s.T 6 = .loc 10 13 0 0 ∧ s.T 7 = int v6 ∧ s.H 0 = some (.row 29 6 [encStack a0]) ∧ s.H 10 = some (.row 68 13 [encNode v1]) ∧ s.H l4 = some (.row 9 1 (v5.map str)) ∧ Lq 0 s.nx ∧ Lq 10 s.nx ∧ Lq l4 s.nx ∧ Nq 0 l4 ∧ Nq 10 l4) ?_ ?_
 · refine TI.here ⟨3, ?_, ?_, ?_, ?_, ?_, ?_, ?_, ?_, ?_, ?_, ?_, ?_⟩
   all_goals try simp only [Y_ref20_Names, ↓EVd, isCall, sevalprocAttr]
   all_goals first | omega | exact lq (by omega) | exact nq (by omega) | rfl | (congr 1; omega)
 rintro I0 ⟨v5, v6⟩ T0 H0 x3 st0 ⟨l4, kk0⟩ hm1 hI0 hO0
 dsimp only [Lq, Nq] at kk0
 simp only [m_ref20_Names_b0] at hm1
 rcases iteE hm1 with ⟨e11, hm1⟩ | ⟨e11, hm1⟩
 · obtain ⟨v12, e14, hm1⟩ := ixE encEntry hm1
   obtain ⟨v15, h16, hm1⟩ := bsE hm1
   simp only [kk0, e11, e14, Y_ref20_Names, ↓EVd, isCall, sevalprocAttr]
   refine qd (ok_ref13_At _ _ _ h16) rfl ?_
   rcases iteE hm1 with ⟨e18, hm1⟩ | ⟨e18, hm1⟩
   · obtain ⟨e21, hm1⟩ := apE hm1
     try simp only [ZL] at e21
     obtain rfl := Option.some.inj hm1
     simp only [kk0, e11, e14, e18, e21, Y_ref20_Names, ↓EVd, isCall, sevalprocAttr]
     refine TI.here (hI0 _ rfl _ ⟨(x3 + 24), ?_, ?_, ?_, ?_, ?_, ?_, ?_, ?_, ?_, ?_, ?_, ?_⟩)
     all_goals try simp only [kk0, e11, e14, e18, e21, Y_ref20_Names, ↓EVd, isCall, sevalprocAttr]
     all_goals first | omega | exact lq (by omega) | exact nq (by omega) | rfl | (congr 1; omega)
   obtain rfl := Option.some.inj hm1
   simp only [kk0, e11, e14, e18, Y_ref20_Names, ↓EVd, isCall, sevalprocAttr]
   refine TI.here (hI0 _ rfl _ ⟨l4, ?_, ?_, ?_, ?_, ?_, ?_, ?_, ?_, ?_, ?_, ?_, ?_⟩)
   all_goals try simp only [kk0, e11, e14, e18, Y_ref20_Names, ↓EVd, isCall, sevalprocAttr]
   all_goals first | omega | exact lq (by omega) | exact nq (by omega) | rfl | (congr 1; omega)
 obtain rfl := Option.some.inj hm1
 simp only [kk0, e11, Y_ref20_Names, ↓EVd, isCall, sevalprocAttr]
 refine TI.here (hJ0_0 _ ⟨v5, l4, ⟨?_, ?_, ?_⟩, hO0 _ rfl⟩)
 all_goals try simp only [kk0, e11, Y_ref20_Names, ↓EVd, isCall, sevalprocAttr]
 all_goals first | omega | exact lq (by omega) | exact nq (by omega) | rfl | (congr 1; omega)
def m_ref20_Findings_b1 (a0 : Stack) (v12 : View) (v15 : Node) : (List Finding × Int) → Option (St (List Finding × Int) (List Finding))
 | (v19, v20) => if v20 < (v15.entries.length : Int) then (ix v15.entries v20).bind fun v26 => (m_ref13_At a0.upper v26.ino).bind fun v29 => if v29.kind = 4 then (m_ref20_Hides a0 v12 v26.name).bind fun v33 => if (!v33) = true then (ap 32 v19 ([(⟨15, 0, v12.upper, v26.slot⟩ : Finding)] : List Finding)).bind fun _ => some (.nx ((v19 ++ ([(⟨15, 0, v12.upper, v26.slot⟩ : Finding)] : List Finding)), (wr (v20 + 1))))
 else some (.nx (v19, (wr (v20 + 1))))
 else some (.nx (v19, (wr (v20 + 1))))
 else some (.out v19)
def m_ref20_Findings_b0 (a0 : Stack) (v1 : List Way × List View) : (List Finding × Int) → Option (St (List Finding × Int) (List Finding))
 | (v5, v6) => if v6 < (v1.2.length : Int) then (ix v1.2 v6).bind fun v12 => (m_ref13_At a0.upper v12.upper).bind fun v15 => (iter (m_ref20_Findings_b1 a0 v12 v15) big (v5, 0)).bind fun o => (match o with
 | v23 => some (.nx (v23, (wr (v6 + 1)))))
 else some (.out v5)
def m_ref20_Findings (a0 : Stack) : Option (List Finding) := (m_ref17_Tree a0).bind fun v1 => (iter (m_ref20_Findings_b0 a0 v1) big (([] : List Finding), 0)).bind fun o => (match o with
 | v9 => some v9)
def Y_ref20_Findings := And.intro (And.intro (And.intro (And.intro ((@EV)) ((@R3))) (And.intro ((@R9)) (And.intro ((@R26)) ((@R29))))) (And.intro (And.intro ((@R32)) (And.intro ((@R36)) ((@R38)))) (And.intro ((@R55)) (And.intro ((@R62)) ((@R68)))))) (And.intro (And.intro (And.intro ((@R74)) (And.intro ((@DGeo)) ((@DBranch)))) (And.intro ((@DStack)) (And.intro ((@DView)) ((@DFinding))))) (And.intro (And.intro ((@DPlace)) (And.intro ((@DEntry)) ((@DOrigin)))) (And.intro ((@DAttr)) (And.intro ((@DNode)) ((@mixed))))))
set_option maxHeartbeats 2000000 in
theorem ok_ref20_Findings (a0 : Stack) (r : List Finding) (hm0 : m_ref20_Findings a0 = some r) : Ok Tryz.prog 12 [encStack a0] (.sl 4 (r.map encFinding)) := by
 unfold m_ref20_Findings at hm0
 refine okG fc_ref20_Findings ?_
 unfold c_ref20_Findings
 obtain ⟨v1, h2, hm0⟩ := bsE hm0
 simp only [Y_ref20_Findings, ↓EVd, isCall, sevalprocAttr]
 refine qc (ok_ref17_Tree _ _ h2) rfl ?_
 obtain ⟨o0, ho0, hm0⟩ := bsE hm0
 simp only [Y_ref20_Findings, ↓EVd, isCall, sevalprocAttr]
 refine cwp_cx 0 (fun s => ∃ v9 : List Finding, ∃ l8 : Nat, (s.T 3 = .msl l8 v9.length ∧ s.H l8 = some (.row 38 4 (v9.map encFinding)) ∧ Lq l8 s.nx) ∧ v9 = o0) ?_ fun J0_0 hJ0_0 => ?_
 · rintro T0 H0 x7 ⟨v9, l8, kk0_0, rfl⟩
   dsimp only [Lq, Nq] at kk0_0
   try dsimp only at hm0
   obtain rfl := Option.some.inj hm0
   simp only [kk0_0, Y_ref20_Findings, ↓EVd, isCall, sevalprocAttr]
   all_goals first | done | rfl | exact frzR_e (by simp only [kk0_0, FZ, CLO, Y_ref20_Findings, ↓EVd, isCall, sevalprocAttr])
 refine cwp_lp ho0 (fun (v5, v6) s => ∃ l4 : Nat, s.T 1 = .loc 0 6 0 0 ∧ s.T 3 = .msl l4 v5.length ∧ s.T 5 = .sl 2 (v1.2.map encView) ∧ s.T 6 = int v6 ∧ s.H 0 = some (.row 29 6 [encStack a0]) ∧ s.H l4 = some (.row 38 4 (v5.map encFinding)) ∧ Lq 0 s.nx ∧ Lq l4 s.nx ∧ Nq 0 l4) ?_ ?_
 · refine TI.here ⟨2, ?_, ?_, ?_, ?_, ?_, ?_, ?_, ?_, ?_⟩
   all_goals try simp only [Y_ref20_Findings, ↓EVd, isCall, sevalprocAttr]
   all_goals first | omega | exact lq (by omega) | exact nq (by omega) | rfl | (congr 1; omega)
 rintro I0 ⟨v5, v6⟩ T0 H0 x3 st0 ⟨l4, kk0⟩ hm1 hI0 hO0
 dsimp only [Lq, Nq] at kk0
 simp only [m_ref20_Findings_b0] at hm1
 rcases iteE hm1 with ⟨e11, hm1⟩ | ⟨e11, hm1⟩
 · obtain ⟨v12, e14, hm1⟩ := ixE encView hm1
   obtain ⟨v15, h16, hm1⟩ := bsE hm1
   simp only [kk0, e11, e14, Y_ref20_Findings, ↓EVd, isCall, sevalprocAttr]
   refine qd (ok_ref13_At _ _ _ h16) rfl ?_
   obtain ⟨o1, ho1, hm1⟩ := bsE hm1
   simp only [kk0, e11, e14, Y_ref20_Findings, ↓EVd, isCall, sevalprocAttr]
   refine cwp_cx 2 (fun s => ∃ v23 : List Finding, ∃ l22 : Nat, (s.T 1 = .loc 0 6 0 0 ∧ s.T 3 = .msl l22 v23.length ∧ s.T 5 = .sl 2 (v1.2.map encView) ∧ s.T 6 = int v6 ∧ s.H 0 = some (.row 29 6 [encStack a0]) ∧ s.H l22 = some (.row 38 4 (v23.map encFinding)) ∧ Lq 0 s.nx ∧ Lq l22 s.nx ∧ Nq 0 l22) ∧ v23 = o1) ?_ fun J1_0 hJ1_0 => ?_
   · rintro T1 H1 x21 ⟨v23, l22, kk1_0, rfl⟩
     dsimp only [Lq, Nq] at kk1_0
     try dsimp only at hm1
     obtain rfl := Option.some.inj hm1
     simp only [kk1_0, e11, e14, Y_ref20_Findings, ↓EVd, isCall, sevalprocAttr]
     refine TI.here (hI0 _ rfl _ ⟨l22, ?_, ?_, ?_, ?_, ?_, ?_, ?_, ?_, ?_⟩)
     all_goals try simp only [kk1_0, e11, e14, Y_ref20_Findings, ↓EVd, isCall, sevalprocAttr]
     all_goals first | omega | exact lq (by omega) | exact nq (by omega) | rfl | (congr 1; omega)
   refine cwp_lp ho1 (fun (v19, v20) s => ∃ l18 : Nat, s.T 1 = .loc 0 6 0 0 ∧ s.T 3 = .msl l18 v19.length ∧ s.T 5 = .sl 2 (v1.2.map encView) ∧ s.T 6 = int v6 ∧ s.T 7 = .loc (x3 + 12) 13 0 0 ∧ s.T 8 = int v20 ∧ s.H 0 = some (.row 29 6 [encStack a0]) ∧ s.H (x3 + 12) = some (.row 68 13 [encNode v15]) ∧ s.H l18 = some (.row 38 4 (v19.map encFinding)) ∧ Lq 0 s.nx ∧ Lq (x3 + 12) s.nx ∧ Lq l18 s.nx ∧ Nq 0 (x3 + 12) ∧ Nq 0 l18 ∧ Nq (x3 + 12) l18) ?_ ?_
   · refine TI.here ⟨l4, ?_, ?_, ?_, ?_, ?_, ?_, ?_, ?_, ?_, ?_, ?_, ?_, ?_, ?_, ?_⟩
     all_goals try simp only [kk0, e11, e14, Y_ref20_Findings, ↓EVd, isCall, sevalprocAttr]
     all_goals first | omega | exact lq (by omega) | exact nq (by omega) | rfl | (congr 1; omega)
   rintro I1 ⟨v19, v20⟩ T1 H1 x17 st1 ⟨l18, kk1⟩ hm2 hI1 hO1
   dsimp only [Lq, Nq] at kk1
   simp only [m_ref20_Findings_b1] at hm2
   rcases iteE hm2 with ⟨e25, hm2⟩ | ⟨e25, hm2⟩
   · obtain ⟨v26, e28, hm2⟩ := ixE encEntry hm2
     obtain ⟨v29, h30, hm2⟩ := bsE hm2
     simp only [kk1, e11, e14, e25, e28, Y_ref20_Findings, ↓EVd, isCall, sevalprocAttr]
     refine qd (ok_ref13_At _ _ _ h30) rfl ?_
     rcases iteE hm2 with ⟨e32, hm2⟩ | ⟨e32, hm2⟩
     · obtain ⟨v33, h34, hm2⟩ := bsE hm2
       simp only [kk1, e11, e14, e25, e28, e32, Y_ref20_Findings, ↓EVd, isCall, sevalprocAttr]
       refine qd (ok_ref20_Hides _ _ _ _ h34) rfl ?_
       rcases itbE hm2 with ⟨e36, hm2⟩ | ⟨e36, hm2⟩
       · have e37 : (.agg [int 15, int 0, int v12.upper, int v26.slot] : AV) = encFinding (⟨15, 0, v12.upper, v26.slot⟩ : Finding) := _root_.id rfl
         obtain ⟨e40, hm2⟩ := apE hm2
         try simp only [ZL] at e40
         obtain rfl := Option.some.inj hm2
         simp only [kk1, e11, e14, e25, e28, e32, e36, e37, e40, Y_ref20_Findings, ↓EVd, isCall, sevalprocAttr]
         refine TI.here (hI1 _ rfl _ ⟨(x17 + 40), ?_, ?_, ?_, ?_, ?_, ?_, ?_, ?_, ?_, ?_, ?_, ?_, ?_, ?_, ?_⟩)
         all_goals try simp only [kk1, e11, e14, e25, e28, e32, e36, e37, e40, Y_ref20_Findings, ↓EVd, isCall, sevalprocAttr]
         all_goals first | omega | exact lq (by omega) | exact nq (by omega) | rfl | (congr 1; omega)
       obtain rfl := Option.some.inj hm2
       simp only [kk1, e11, e14, e25, e28, e32, e36, Y_ref20_Findings, ↓EVd, isCall, sevalprocAttr]
       refine TI.here (hI1 _ rfl _ ⟨l18, ?_, ?_, ?_, ?_, ?_, ?_, ?_, ?_, ?_, ?_, ?_, ?_, ?_, ?_, ?_⟩)
       all_goals try simp only [kk1, e11, e14, e25, e28, e32, e36, Y_ref20_Findings, ↓EVd, isCall, sevalprocAttr]
       all_goals first | omega | exact lq (by omega) | exact nq (by omega) | rfl | (congr 1; omega)
     obtain rfl := Option.some.inj hm2
     simp only [kk1, e11, e14, e25, e28, e32, Y_ref20_Findings, ↓EVd, isCall, sevalprocAttr]
     refine TI.here (hI1 _ rfl _ ⟨l18, ?_, ?_, ?_, ?_, ?_, ?_, ?_, ?_, ?_, ?_, ?_, ?_, ?_, ?_, ?_⟩)
     all_goals try simp only [kk1, e11, e14, e25, e28, e32, Y_ref20_Findings, ↓EVd, isCall, sevalprocAttr]
     all_goals first | omega | exact lq (by omega) | exact nq (by omega) | rfl | (congr 1; omega)
   obtain rfl := Option.some.inj hm2
   simp only [kk1, e11, e14, e25, Y_ref20_Findings, ↓EVd, isCall, sevalprocAttr]
   refine TI.here (hJ1_0 _ ⟨v19, l18, ⟨?_, ?_, ?_, ?_, ?_, ?_, ?_, ?_, ?_⟩, hO1 _ rfl⟩)
   all_goals try simp only [kk1, e11, e14, e25, Y_ref20_Findings, ↓EVd, isCall, sevalprocAttr]
   all_goals first | omega | exact lq (by omega) | exact nq (by omega) | rfl | (congr 1; omega)
 obtain rfl := Option.some.inj hm1
 simp only [kk0, e11, Y_ref20_Findings, ↓EVd, isCall, sevalprocAttr]
 refine TI.here (hJ0_0 _ ⟨v5, l4, ⟨?_, ?_, ?_⟩, hO0 _ rfl⟩)
 all_goals try simp only [kk0, e11, Y_ref20_Findings, ↓EVd, isCall, sevalprocAttr]
 all_goals first | omega | exact lq (by omega) | exact nq (by omega) | rfl | (congr 1; omega)
end Go.Proofs.YtapdjibjnfeipaaGreatDoor.AL

/- Plain laws of chapters 17 and 20: names, trees, whiteouts. -/
set_option linter.all false
namespace Go.Proofs.YtapdjibjnfeipaaGreatDoor.AL
open Go Go.Proofs
theorem iter_push {α β : Type} {B : (List β × Int) → Option (St (List β × Int) (List β))} (xs : List α) (f : α → List β) (k m : Nat) (hf : ∀ x ∈ xs, (f x).length ≤ k)
    (hB : ∀ (i : Nat) (d : List β) (h : i < xs.length), d.length ≤ m → B (d, (i : Int)) = some (.nx (d ++ f xs[i], ((i + 1 : Nat) : Int)))) (hE : ∀ d : List β, B (d, (xs.length : Int)) = some (.out d))
    {d : List β} (hd : d.length + k * xs.length ≤ m) (hx : xs.length ≤ 1000000) : iter B big (d, 0) = some (d ++ xs.flatMap f) := by
  have := iter_fold (B := B) (fun i d => (d, (i : Int))) xs (fun d x => d ++ f x) (fun d => d) (fun i d' => d'.length ≤ d.length + k * i) (by
    intro i d' hi hd'
    have h1 : k * i ≤ k * xs.length := Nat.mul_le_mul_left k (by omega)
    have h2 := hf _ (List.getElem_mem hi)
    have h3 : k * (i + 1) = k * i + k := by rw [Nat.mul_add, Nat.mul_one]
    refine ⟨hB i d' hi (by omega), ?_⟩
    rw [List.length_append]
    omega) (fun d' _ => hE d') (s0 := d) (by simp) (fuel := big) (by rw [big_eq]; omega)
  have e0 : ((0 : Nat) : Int) = 0 := rfl
  rw [e0] at this
  rw [this.1]
  congr 1
  have key : ∀ (l : List α) (d : List β), l.foldl (fun d x => d ++ f x) d = d ++ l.flatMap f := by
    intro l
    induction l with
    | nil => intro d; simp
    | cons x l ih => intro d; rw [List.foldl_cons, ih, List.flatMap_cons, List.append_assoc]
  exact key xs d
theorem fm_map {α β : Type} (f : α → β) (l : List α) : l.flatMap (fun x => [f x]) = l.map f := by
  induction l with
  | nil => rfl
  | cons x l ih => rw [List.flatMap_cons, ih]; rfl
theorem fm_filter {α : Type} (p : α → Bool) (l : List α) : l.flatMap (fun x => if p x = true then [x] else []) = l.filter p := by
  induction l with
  | nil => rfl
  | cons x l ih =>
    rw [List.flatMap_cons, ih, List.filter_cons]
    split <;> rfl
theorem fm_filtmap {α β : Type} (p : α → Bool) (f : α → β) (l : List α) : l.flatMap (fun x => if p x = true then [f x] else []) = (l.filter p).map f := by
  induction l with
  | nil => rfl
  | cons x l ih =>
    rw [List.flatMap_cons, ih, List.filter_cons]
    split <;> rfl
theorem myDirsV {b : Branch} (hb : PB b) {fr : List Int} (hf : fr.length ≤ 1000) : m_walk_Dirs b fr = some (walkP b fr).2.1 := by
  obtain ⟨M, hM⟩ := my_walk_walk_Dirs hb hf
  unfold m_walk_Dirs
  rw [hM]
  rfl
theorem refDirsV {b : Branch} (hb : PB b) {fr : List Int} (hf : fr.length ≤ 1000) : m_ref13_Dirs b fr = some (walkP b fr).2.1 := by
  unfold m_ref13_Dirs
  rw [(ref_walk hb hf).1]
  rfl
theorem waysV_len {b : Branch} (hb : PB b) {fr : List Int} (hf : fr.length ≤ 1000) : (walkP b fr).2.1.length ≤ 24 := Nat.le_trans (ref_walk hb hf).2.li.wi.len hb.len
def treeSt (s : Stack) (acc : List View) (w : Way) : List View := acc ++ [if 0 ≤ w.up then ⟨w.ino, partV s ((acc[w.up.toNat]?).getD ⟨0, []⟩) (nodeP s.upper w.ino) w.name⟩ else rootV s]
def treeV (s : Stack) : List View := (walkP s.upper [1]).2.1.foldl (treeSt s) []
structure TV (s : Stack) (ws : List Way) (i : Nat) (acc : List View) : Prop where
  len : acc.length = i
  low : ∀ x ∈ acc, x.lower.length ≤ 3
  at' : ∀ (j : Nat) (x : View), acc[j]? = some x → ∃ w, ws[j]? = some w ∧ x.upper = w.ino ∧ (opqV (nodeP s.upper w.ino) = true → x.lower = [])
theorem TV.nil (s : Stack) (ws : List Way) : TV s ws 0 [] := ⟨rfl, by simp, by simp⟩
theorem TV.step {s : Stack} (h : SV s) {ws : List Way} {i : Nat} {acc : List View} (t : TV s ws i acc) {w : Way} (hw : ws[i]? = some w) (hu : w.up < (i : Int)) (hf : w.up < 0 → w.ino ∈ [(1 : Int)]) (hk : (nodeP s.upper w.ino).kind = 1) : TV s ws (i + 1) (treeSt s acc w) := by
  have hlen := t.len
  have hx : ∀ x, x = (if 0 ≤ w.up then (⟨w.ino, partV s ((acc[w.up.toNat]?).getD ⟨0, []⟩) (nodeP s.upper w.ino) w.name⟩ : View) else rootV s) → x.lower.length ≤ 3 ∧ x.upper = w.ino ∧ (opqV (nodeP s.upper w.ino) = true → x.lower = []) := by
    rintro x rfl
    by_cases h0 : 0 ≤ w.up
    · rw [if_pos h0]
      have hlt : w.up.toNat < acc.length := by omega
      rw [List.getElem?_eq_getElem hlt, Option.getD_some]
      exact ⟨partV_len h (t.low _ (List.getElem_mem hlt)) (Nat.le_refl 3) _ _, rfl, fun ho => partV_opq ho⟩
    · rw [if_neg h0]
      have h1 : w.ino = 1 := by simpa using hf (by omega)
      rw [h1] at hk ⊢
      refine ⟨rootV_len h, ?_, fun ho => ?_⟩
      · unfold rootV
        exact if_pos hk
      · unfold rootV
        exact if_pos ho
  obtain ⟨x1, x2, x3⟩ := hx _ rfl
  unfold treeSt
  refine ⟨by rw [List.length_append, hlen]; rfl, ?_, ?_⟩
  · intro x hx
    rcases List.mem_append.1 hx with hx | hx
    · exact t.low x hx
    · obtain rfl := List.mem_singleton.1 hx
      exact x1
  · intro j x hj
    rw [List.getElem?_append] at hj
    split at hj
    · exact t.at' j x hj
    · rename_i hnj
      have hj2 : j = i := by
        have := (List.getElem?_eq_some_iff.1 hj).1
        simp at this
        omega
      subst hj2
      rw [hlen, Nat.sub_self] at hj
      obtain rfl : _ = x := by simpa using hj
      exact ⟨w, hw, x2, x3⟩
theorem tree_way {s : Stack} (h : SV s) (hb : PB s.upper) {i : Nat} (hi : i < (walkP s.upper [1]).2.1.length) :
    (walkP s.upper [1]).2.1[i].up < (i : Int) ∧ ((walkP s.upper [1]).2.1[i].up < 0 → (walkP s.upper [1]).2.1[i].ino ∈ [(1 : Int)]) ∧ (nodeP s.upper (walkP s.upper [1]).2.1[i].ino).kind = 1 := by
  have hu := walk_up s.upper [1] i _ (List.getElem?_eq_getElem hi)
  have hd := (ref_walk hb (fr := [1]) (by simp)).2.li.wi.dir _ (List.getElem_mem hi)
  exact ⟨hu.1, hu.2, hd⟩
theorem tree_eq {s : Stack} (h : SV s) (hb : PB s.upper) : m_view_Tree s = some ((walkP s.upper [1]).2.1, treeV s) ∧ TV s (walkP s.upper [1]).2.1 (walkP s.upper [1]).2.1.length (treeV s) := by
  unfold m_view_Tree
  have hwl := waysV_len hb (fr := [1]) (by simp)
  rw [myDirsV hb (by simp)]
  simp only [Option.bind_some]
  have := iter_fold (B := m_view_Tree_b0 s (walkP s.upper [1]).2.1) (fun i d => (d, (i : Int))) (walkP s.upper [1]).2.1 (treeSt s) (fun d => d) (fun i d => TV s (walkP s.upper [1]).2.1 i d) (by
    intro i d hi t
    obtain ⟨hu, hf, hk⟩ := tree_way h hb hi
    have ht := t.step h (List.getElem?_eq_getElem hi) hu hf hk
    refine ⟨?_, ht⟩
    simp only [m_view_Tree_b0]
    have hlen := t.len
    rw [if_pos (by omega), ix_at hi]
    simp only [Option.bind_some]
    rw [vroot_eq h, wr_suc (by omega)]
    simp only [Option.bind_some]
    generalize (walkP s.upper [1]).2.1[i] = w at *
    unfold treeSt
    by_cases h0 : 0 ≤ w.up
    · have hlt : w.up.toNat < d.length := by omega
      rw [if_pos h0, if_pos h0, ix_of h0 (by omega), List.getElem?_eq_getElem hlt]
      simp only [Option.bind_some, Option.getD_some, stack_eta]
      rw [vnode_eq h]
      simp only [Option.bind_some]
      have hl3 := t.low _ (List.getElem_mem hlt)
      rw [part_eq h (by omega) (nodeP_nv h.up _)]
      simp only [Option.bind_some]
      rw [ap_of (by simp; omega) (by decide)]
      rfl
    · rw [if_neg h0, if_neg h0, ap_of (by simp; omega) (by decide)]
      rfl) (by
    intro d t
    simp only [m_view_Tree_b0]
    rw [if_neg (by omega)]) (s0 := []) (TV.nil s _) (fuel := big) (by rw [big_eq]; omega)
  have e0 : ((0 : Nat) : Int) = 0 := rfl
  rw [e0] at this
  refine ⟨?_, this.2⟩
  rw [this.1]
  rfl
theorem rtree_eq {s : Stack} (h : SV s) (hb : PB s.upper) : m_ref17_Tree s = some ((walkP s.upper [1]).2.1, treeV s) := by
  unfold m_ref17_Tree
  have hwl := waysV_len hb (fr := [1]) (by simp)
  rw [refDirsV hb (by simp)]
  simp only [Option.bind_some]
  have := iter_fold (B := m_ref17_Tree_b0 s (walkP s.upper [1]).2.1) (fun i d => (d, (i : Int))) (walkP s.upper [1]).2.1 (treeSt s) (fun d => d) (fun i d => TV s (walkP s.upper [1]).2.1 i d) (by
    intro i d hi t
    obtain ⟨hu, hf, hk⟩ := tree_way h hb hi
    have ht := t.step h (List.getElem?_eq_getElem hi) hu hf hk
    refine ⟨?_, ht⟩
    simp only [m_ref17_Tree_b0]
    have hlen := t.len
    rw [if_pos (by omega), ix_at hi]
    simp only [Option.bind_some]
    rw [rroot_eq h, wr_suc (by omega)]
    simp only [Option.bind_some]
    generalize (walkP s.upper [1]).2.1[i] = w at *
    unfold treeSt
    by_cases h0 : 0 ≤ w.up
    · have hlt : w.up.toNat < d.length := by omega
      rw [if_neg (by omega), if_pos h0, ix_of h0 (by omega), List.getElem?_eq_getElem hlt]
      simp only [Option.bind_some, Option.getD_some]
      have hl3 := t.low _ (List.getElem_mem hlt)
      rw [rpart_eq h (by omega)]
      simp only [Option.bind_some]
      rw [ap_of (by simp; omega) (by decide)]
      rfl
    · rw [if_pos (by omega), if_neg h0, ap_of (by simp; omega) (by decide)]
      rfl) (by
    intro d t
    simp only [m_ref17_Tree_b0]
    rw [if_neg (by omega)]) (s0 := []) (TV.nil s _) (fuel := big) (by rw [big_eq]; omega)
  have e0 : ((0 : Nat) : Int) = 0 := rfl
  rw [e0] at this
  rw [this.1]
  rfl
def whB (s : Stack) (e : Entry) : Bool := decide ((nodeP s.upper e.ino).kind = 4)
def whitesV (s : Stack) (ino : Int) : List Entry := (nodeP s.upper ino).entries.filter (whB s)
theorem whitesV_len {s : Stack} (h : SV s) (ino : Int) : (whitesV s ino).length ≤ 32 := Nat.le_trans (List.length_filter_le _ _) (nodeP_nv h.up ino).ents
theorem whites_eq {s : Stack} (h : SV s) (ino : Int) : m_white_whites s ino = some (whitesV s ino) := by
  unfold m_white_whites whitesV
  have hl := h.up.len
  by_cases h1 : ino < 1
  · rw [if_pos h1, nodeP_out (.inl h1)]; rfl
  · rw [if_neg h1]
    by_cases h2 : (s.upper.nodes.length : Int) < ino
    · rw [if_pos h2, nodeP_out (.inr h2)]; rfl
    · rw [if_neg h2]
      have hin : ix s.upper.nodes (wr (ino - 1)) = some (nodeP s.upper ino) := by
        have e := vnode_eq h ino
        unfold m_view_stack_node at e
        rw [if_neg h1, if_neg h2] at e
        simpa using e
      rw [hin]
      simp only [Option.bind_some]
      have hn := (nodeP_nv h.up ino).ents
      generalize nodeP s.upper ino = n at hn
      rw [iter_push n.entries (fun e => if whB s e = true then [e] else []) 1 900000 (fun _ _ => by split <;> simp) _ _ (by simp; omega) (by omega), fm_filter, List.nil_append]
      · rfl
      · intro i d hi hd
        simp only [m_white_whites_b0]
        rw [if_pos (by omega), ix_at hi, wr_suc (by omega)]
        simp only [Option.bind_some]
        generalize n.entries[i] = e
        by_cases h1 : e.ino < 1
        · have : ¬ whB s e = true := by unfold whB; rw [nodeP_out (.inl h1)]; simp [zeroNode]
          rw [if_neg (by omega), if_neg this, List.append_nil]
        · rw [if_pos (by omega)]
          by_cases h2 : (s.upper.nodes.length : Int) < e.ino
          · have : ¬ whB s e = true := by unfold whB; rw [nodeP_out (.inr h2)]; simp [zeroNode]
            rw [if_neg (by omega), if_neg this, List.append_nil]
          · rw [if_pos (by omega)]
            have hin : ix s.upper.nodes (wr (e.ino - 1)) = some (nodeP s.upper e.ino) := by
              have q := vnode_eq h e.ino
              unfold m_view_stack_node at q
              rw [if_neg h1, if_neg h2] at q
              simpa using q
            rw [hin]
            simp only [Option.bind_some]
            by_cases hk : (nodeP s.upper e.ino).kind = 4
            · have : whB s e = true := decide_eq_true hk
              rw [if_pos hk, if_pos this, ap_of (by simp; omega) (by decide)]
              rfl
            · have : ¬ whB s e = true := by simp [whB, hk]
              rw [if_neg hk, if_neg this, List.append_nil]
      · intro d
        simp only [m_white_whites_b0]
        rw [if_neg (by omega)]
def whNames (s : Stack) (v : View) : List ByteArray := sortQ ((whitesV s v.upper).map (·.name))
theorem wnames_eq {s : Stack} (h : SV s) (v : View) : m_white_Names s v = some (whNames s v) := by
  unfold m_white_Names whNames
  rw [whites_eq h]
  simp only [Option.bind_some]
  have hl := whitesV_len h v.upper
  generalize whitesV s v.upper = l at hl
  rw [iter_push l (fun e => [e.name]) 1 900000 (fun _ _ => Nat.le_refl 1) _ _ (by simp; omega) (by omega), fm_map, List.nil_append]
  · simp only [Option.bind_some]
    rw [nsort_eq (by rw [List.length_map]; omega)]
    rfl
  · intro i d hi hd
    simp only [m_white_Names_b0]
    rw [if_pos (by omega), ix_at hi]
    simp only [Option.bind_some]
    rw [ap_of (by simp; omega) (by decide), wr_suc (by omega)]
    rfl
  · intro d
    simp only [m_white_Names_b0]
    rw [if_neg (by omega)]
theorem rwnames_eq {s : Stack} (h : SV s) (v : View) : m_ref20_Names s v = some (whNames s v) := by
  unfold m_ref20_Names whNames whitesV
  rw [atv_eq h]
  simp only [Option.bind_some]
  have hl := (nodeP_nv h.up v.upper).ents
  generalize nodeP s.upper v.upper = n at hl
  rw [iter_push n.entries (fun e => if whB s e = true then [e.name] else []) 1 900000 (fun _ _ => by split <;> simp) _ _ (by simp; omega) (by omega), fm_filtmap, List.nil_append]
  · simp only [Option.bind_some]
    have hf := List.length_filter_le (whB s) n.entries
    rw [rsort_eq (by rw [List.length_map]; omega), sortU_sortQ]
    rfl
  · intro i d hi hd
    simp only [m_ref20_Names_b0]
    rw [if_pos (by omega), ix_at hi]
    simp only [Option.bind_some]
    rw [atv_eq h, wr_suc (by omega)]
    simp only [Option.bind_some]
    by_cases hk : (nodeP s.upper n.entries[i].ino).kind = 4
    · have : whB s n.entries[i] = true := decide_eq_true hk
      rw [if_pos hk, if_pos this, ap_of (by simp; omega) (by decide)]
      rfl
    · have : ¬ whB s n.entries[i] = true := by simp [whB, hk]
      rw [if_neg hk, if_neg this, List.append_nil]
  · intro d
    simp only [m_ref20_Names_b0]
    rw [if_neg (by omega)]
theorem whNames_len {s : Stack} (h : SV s) (v : View) : (whNames s v).length ≤ 32 := by
  have := sortQ_len ((whitesV s v.upper).map (·.name))
  have hl := whitesV_len h v.upper
  rw [List.length_map] at this
  unfold whNames
  omega
theorem hides_eq {s : Stack} (h : SV s) {v : View} (hv : v.lower.length ≤ 1000) (nm : ByteArray) : m_white_Hides s v nm = some (fndQ s.lowers v.lower nm) := by
  unfold m_white_Hides fndQ
  rw [find_eq h.low hv]
  simp only [Option.bind_some]
  by_cases hk : (findQ s.lowers v.lower nm).1 = 0 <;> simp [hk]
theorem rhides_eq {s : Stack} (h : SV s) {v : View} (hv : v.lower.length ≤ 1000) (nm : ByteArray) : m_ref20_Hides s v nm = some (fndQ s.lowers v.lower nm) := by
  unfold m_ref20_Hides fndQ
  rw [rfind_eq h.low hv]
  simp only [Option.bind_some]
  by_cases hk : (findQ s.lowers v.lower nm).1 = 0 <;> simp [hk]
def idB (s : Stack) (v : View) (e : Entry) : Bool := !fndQ s.lowers v.lower e.name
def idF (s : Stack) (v : View) : List Finding := ((whitesV s v.upper).filter (idB s v)).map fun e => ⟨15, 0, v.upper, e.slot⟩
theorem idF_len {s : Stack} (h : SV s) (v : View) : (idF s v).length ≤ 32 := by
  have hl := whitesV_len h v.upper
  have hf := List.length_filter_le (idB s v) (whitesV s v.upper)
  unfold idF
  rw [List.length_map]
  omega
def idlesV (s : Stack) : List Finding := (treeV s).flatMap (idF s)
theorem wfind1_eq {s : Stack} (h : SV s) {v : View} (hv : v.lower.length ≤ 1000) {d : List Finding} (hd : d.length ≤ 800000) : iter (m_white_Findings_b1 s v (whitesV s v.upper)) big (d, 0) = some (d ++ idF s v) := by
  have hl := whitesV_len h v.upper
  unfold idF
  generalize whitesV s v.upper = l at hl
  rw [iter_push l (fun e => if idB s v e = true then [⟨15, 0, v.upper, e.slot⟩] else []) 1 900000 (fun _ _ => by split <;> simp) _ _ (by omega) (by omega), fm_filtmap]
  · intro i d hi hd
    simp only [m_white_Findings_b1]
    rw [if_pos (by omega), ix_at hi]
    simp only [Option.bind_some]
    rw [hides_eq h hv, wr_suc (by omega)]
    simp only [Option.bind_some]
    by_cases hb : fndQ s.lowers v.lower l[i].name = true
    · rw [if_pos hb, if_neg (by simp [idB, hb]), List.append_nil]
    · rw [if_neg hb, if_pos (by simpa [idB] using hb), ap_of (by simp; omega) (by decide)]
      rfl
  · intro d
    simp only [m_white_Findings_b1]
    rw [if_neg (by omega)]
theorem filter_filter' (p q : Entry → Bool) (l : List Entry) : (l.filter p).filter q = l.filter fun e => p e && q e := by
  rw [List.filter_filter]
  congr 1
  funext e
  exact Bool.and_comm _ _
theorem rwfind1_eq {s : Stack} (h : SV s) {v : View} (hv : v.lower.length ≤ 1000) {d : List Finding} (hd : d.length ≤ 800000) : iter (m_ref20_Findings_b1 s v (nodeP s.upper v.upper)) big (d, 0) = some (d ++ idF s v) := by
  have hl := (nodeP_nv h.up v.upper).ents
  unfold idF whitesV
  generalize nodeP s.upper v.upper = n at hl
  rw [iter_push n.entries (fun e => if (whB s e && idB s v e) = true then [⟨15, 0, v.upper, e.slot⟩] else []) 1 900000 (fun _ _ => by split <;> simp) _ _ (by omega) (by omega), fm_filtmap, filter_filter']
  · intro i d hi hd
    simp only [m_ref20_Findings_b1]
    rw [if_pos (by omega), ix_at hi]
    simp only [Option.bind_some]
    rw [atv_eq h, wr_suc (by omega)]
    simp only [Option.bind_some]
    by_cases hk : (nodeP s.upper n.entries[i].ino).kind = 4
    · have hw : whB s n.entries[i] = true := decide_eq_true hk
      rw [if_pos hk, rhides_eq h hv, hw]
      simp only [Option.bind_some]
      by_cases hb : fndQ s.lowers v.lower n.entries[i].name = true
      · rw [if_neg (by simp [hb]), if_neg (by simp [idB, hb]), List.append_nil]
      · rw [if_pos (by simpa using hb), if_pos (by simpa [idB] using hb), ap_of (by simp; omega) (by decide)]
        rfl
    · have hw : whB s n.entries[i] = false := by simp [whB, hk]
      rw [if_neg hk, hw, if_neg (by simp), List.append_nil]
  · intro d
    simp only [m_ref20_Findings_b1]
    rw [if_neg (by omega)]
theorem wfind_eq {s : Stack} (h : SV s) (hb : PB s.upper) : m_white_Findings s = some (idlesV s) := by
  unfold m_white_Findings idlesV
  obtain ⟨t1, t2⟩ := tree_eq h hb
  have hwl := waysV_len hb (fr := [1]) (by simp)
  have hlen := t2.len
  rw [t1]
  simp only [Option.bind_some]
  rw [iter_push (treeV s) (idF s) 32 800000 (fun _ _ => idF_len h _) _ _ (by simp; omega) (by omega), List.nil_append]
  · rfl
  · intro i d hi hd
    simp only [m_white_Findings_b0]
    rw [if_pos (by omega), ix_at hi]
    simp only [Option.bind_some]
    have hl3 := t2.low _ (List.getElem_mem hi)
    rw [whites_eq h, wr_suc (by omega)]
    simp only [Option.bind_some]
    rw [wfind1_eq h (by omega) (by omega)]
    rfl
  · intro d
    simp only [m_white_Findings_b0]
    rw [if_neg (by omega)]
theorem rwfind_eq {s : Stack} (h : SV s) (hb : PB s.upper) : m_ref20_Findings s = some (idlesV s) := by
  unfold m_ref20_Findings idlesV
  obtain ⟨t1, t2⟩ := tree_eq h hb
  have hwl := waysV_len hb (fr := [1]) (by simp)
  have hlen := t2.len
  rw [rtree_eq h hb]
  simp only [Option.bind_some]
  rw [iter_push (treeV s) (idF s) 32 800000 (fun _ _ => idF_len h _) _ _ (by simp; omega) (by omega), List.nil_append]
  · rfl
  · intro i d hi hd
    simp only [m_ref20_Findings_b0]
    rw [if_pos (by omega), ix_at hi]
    simp only [Option.bind_some]
    have hl3 := t2.low _ (List.getElem_mem hi)
    rw [atv_eq h, wr_suc (by omega)]
    simp only [Option.bind_some]
    rw [rwfind1_eq h (by omega) (by omega)]
    rfl
  · intro d
    simp only [m_ref20_Findings_b0]
    rw [if_neg (by omega)]
theorem idlesV_len {s : Stack} (h : SV s) (hb : PB s.upper) : (idlesV s).length ≤ 1000 := by
  obtain ⟨t1, t2⟩ := tree_eq h hb
  have hwl := waysV_len hb (fr := [1]) (by simp)
  have hlen := t2.len
  have key : ∀ l : List View, (l.flatMap (idF s)).length ≤ 32 * l.length := by
    intro l
    induction l with
    | nil => simp
    | cons x l ih =>
      have := idF_len h x
      rw [List.flatMap_cons, List.length_append, List.length_cons]
      omega
  have := key (treeV s)
  unfold idlesV
  omega
end Go.Proofs.YtapdjibjnfeipaaGreatDoor.AL

