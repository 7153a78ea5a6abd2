/- A law of the given program is proved: part 44 of 51. -/
import Derived.Test.YtnmljicimdhpmaaC43
set_option linter.all false
/- Models of functions, and that the functions are as their models: written by gen.py. -/
set_option linter.all false
set_option maxRecDepth 100000
namespace Go.Proofs.Ytnmljicimdhpmaa.AL
open Go Go.Proofs
def m_impure_copied (a0 : Branch) (a1 : Int) : Option (Bool) := if 1 ≤ a1 then if a1 ≤ (a0.nodes.length : Int) then (ix a0.nodes (wr (a1 - 1))).bind fun v5 => if 0 ≤ v5.attr.has then if (bAnd .i64 v5.attr.has 4) = 0 then some false
 else some true
 else some false
 else some false
 else some false
def Y_impure_copied := And.intro (And.intro (And.intro ((@EV)) ((@R3))) (And.intro ((@R24)) (And.intro ((@R26)) ((@R44))))) (And.intro (And.intro ((@R46)) (And.intro ((@DBranch)) ((@DOrigin)))) (And.intro ((@DAttr)) (And.intro ((@DNode)) ((@DEntry)))))
set_option maxHeartbeats 2000000 in
theorem ok_impure_copied (a0 : Branch) (a1 : Int) (r : Bool) (hm0 : m_impure_copied a0 a1 = some r) : Ok Try.prog 88 [encBranch a0, int a1] (bool r) := by
 unfold m_impure_copied at hm0
 refine okG fc_impure_copied ?_
 unfold c_impure_copied
 rcases iteE hm0 with ⟨e2, hm0⟩ | ⟨e2, hm0⟩
 · rcases iteE hm0 with ⟨e4, hm0⟩ | ⟨e4, hm0⟩
   · obtain ⟨v5, e7, hm0⟩ := ixE encNode hm0
     rcases iteE hm0 with ⟨e9, hm0⟩ | ⟨e9, hm0⟩
     · rcases iteE hm0 with ⟨e11, hm0⟩ | ⟨e11, hm0⟩
       · obtain rfl := Option.some.inj hm0
         simp only [e2, e4, e7, e9, e11, Y_impure_copied, ↓EVd, isCall, sevalprocAttr]
         all_goals first | done | rfl
       obtain rfl := Option.some.inj hm0
       simp only [e2, e4, e7, e9, e11, Y_impure_copied, ↓EVd, isCall, sevalprocAttr]
       all_goals first | done | rfl
     obtain rfl := Option.some.inj hm0
     simp only [e2, e4, e7, e9, Y_impure_copied, ↓EVd, isCall, sevalprocAttr]
     all_goals first | done | rfl
   obtain rfl := Option.some.inj hm0
   simp only [e2, e4, Y_impure_copied, ↓EVd, isCall, sevalprocAttr]
   all_goals first | done | rfl
 obtain rfl := Option.some.inj hm0
 simp only [e2, Y_impure_copied, ↓EVd, isCall, sevalprocAttr]
 all_goals first | done | rfl
def m_impure_want_1 (a0 : Entry) (a1 : Branch) : Option (Bool) := (m_impure_copied a1 a0.ino).bind fun v1 => some v1
def Y_impure_want_1 := And.intro (And.intro (And.intro ((@EV)) ((@R3))) (And.intro ((@R26)) ((@R54)))) (And.intro (And.intro ((@DBranch)) ((@DOrigin))) (And.intro ((@DAttr)) (And.intro ((@DNode)) ((@DEntry)))))
set_option maxHeartbeats 2000000 in
theorem ok_impure_want_1 (a0 : Entry) (a1 : Branch) (r : Bool) (hm0 : m_impure_want_1 a0 a1 = some r) : Ok Try.prog 87 [encEntry a0, .ptr (encBranch a1) 0] (bool r) := by
 unfold m_impure_want_1 at hm0
 refine okG fc_impure_want_1 ?_
 unfold c_impure_want_1
 obtain ⟨v1, h2, hm0⟩ := bsE hm0
 simp only [Y_impure_want_1, ↓EVd, isCall, sevalprocAttr]
 refine qc (ok_impure_copied _ _ _ h2) rfl ?_
 obtain rfl := Option.some.inj hm0
 simp only [Y_impure_want_1, ↓EVd, isCall, sevalprocAttr]
 all_goals first | done | rfl
def m_impure_want (a0 : Branch) (a1 : Node) : Option (Int) := if a1.kind = 1 then (containsM (fun z => m_impure_want_1 z a0) a1.entries).bind fun v3 => if v3 = true then some 121
 else some 0
 else some 0
def Y_impure_want := And.intro (And.intro (And.intro ((@EV)) (And.intro ((@R3)) ((@R26)))) (And.intro ((@R40)) (And.intro ((@R46)) ((@R54))))) (And.intro (And.intro ((@R100)) (And.intro ((@DBranch)) ((@DOrigin)))) (And.intro ((@DAttr)) (And.intro ((@DNode)) ((@DEntry)))))
set_option maxHeartbeats 2000000 in
theorem ok_impure_want (a0 : Branch) (a1 : Node) (r : Int) (hm0 : m_impure_want a0 a1 = some r) : Ok Try.prog 56 [encBranch a0, encNode a1] (int r) := by
 unfold m_impure_want at hm0
 refine okG fc_impure_want ?_
 unfold c_impure_want
 rcases iteE hm0 with ⟨e2, hm0⟩ | ⟨e2, hm0⟩
 · obtain ⟨v3, h4, hm0⟩ := bsE hm0
   simp only [e2, Y_impure_want, ↓EVd, isCall, sevalprocAttr]
   refine qcb (containsM_ok fc_slices_ContainsFunc_api_Entry_api_Entry fc_slices_IndexFunc_api_Entry_api_Entry elemOfT_40 aggN_54 (fi := []) (ca := [.ptr (encBranch a0) 0]) encEntry a1.entries (fun z => m_impure_want_1 z a0) _ h4 (fun z b hz => ok_impure_want_1 z a0 b hz) (fun z => by simp only [CLO]) rfl (by simp only [CLO]) (fun z => by simp only [Y_impure_want, ↓EVd, isCall, sevalprocAttr])) rfl (by simp only [e2, FZ, CLO, Y_impure_want, ↓EVd, isCall, sevalprocAttr]) ?_
   rcases itbE hm0 with ⟨e6, hm0⟩ | ⟨e6, hm0⟩
   · obtain rfl := Option.some.inj hm0
     simp only [e2, e6, Y_impure_want, ↓EVd, isCall, sevalprocAttr]
     all_goals first | done | rfl
   obtain rfl := Option.some.inj hm0
   simp only [e2, e6, Y_impure_want, ↓EVd, isCall, sevalprocAttr]
   all_goals first | done | rfl
 obtain rfl := Option.some.inj hm0
 simp only [e2, Y_impure_want, ↓EVd, isCall, sevalprocAttr]
 all_goals first | done | rfl
def m_impure_Want (a0 : Stack) (a1 : Int) : Option (Int) := (m_walk_Reach a0.upper ([1] : List Int)).bind fun v1 => if a1 < 1 then some 0
 else if (v1.length : Int) < a1 then some 0
 else (ix v1 (wr (a1 - 1))).bind fun v7 => if (!v7) = true then some 0
 else (ix a0.upper.nodes (wr (a1 - 1))).bind fun v12 => (m_impure_want a0.upper v12).bind fun v15 => some v15
def Y_impure_Want := And.intro (And.intro (And.intro (And.intro ((@EV)) ((@R3))) (And.intro ((@R4)) ((@R24)))) (And.intro (And.intro ((@R26)) ((@R29))) (And.intro ((@R46)) ((@R63))))) (And.intro (And.intro (And.intro ((@R72)) ((@DGeo))) (And.intro ((@DBranch)) ((@DStack)))) (And.intro (And.intro ((@DOrigin)) ((@DAttr))) (And.intro ((@DNode)) (And.intro ((@DEntry)) ((@mixed))))))
set_option maxHeartbeats 2000000 in
theorem ok_impure_Want (a0 : Stack) (a1 : Int) (r : Int) (hm0 : m_impure_Want a0 a1 = some r) : Ok Try.prog 17 [encStack a0, int a1] (int r) := by
 unfold m_impure_Want at hm0
 refine okG fc_impure_Want ?_
 unfold c_impure_Want
 obtain ⟨v1, h2, hm0⟩ := bsE hm0
 simp only [Y_impure_Want, ↓EVd, isCall, sevalprocAttr]
 refine qcq (ok_walk_Reach _ _ _ h2) rfl (by simp only [FQ, CLO, Y_impure_Want, ↓EVd, isCall, sevalprocAttr]; first | done | rfl) ?_
 rcases iteE hm0 with ⟨e4, hm0⟩ | ⟨e4, hm0⟩
 · obtain rfl := Option.some.inj hm0
   simp only [e4, Y_impure_Want, ↓EVd, isCall, sevalprocAttr]
   all_goals first | done | rfl
 rcases iteE hm0 with ⟨e6, hm0⟩ | ⟨e6, hm0⟩
 · obtain rfl := Option.some.inj hm0
   simp only [e4, e6, Y_impure_Want, ↓EVd, isCall, sevalprocAttr]
   all_goals first | done | rfl
 obtain ⟨v7, e9, hm0⟩ := ixE bool hm0
 rcases itbE hm0 with ⟨e11, hm0⟩ | ⟨e11, hm0⟩
 · obtain rfl := Option.some.inj hm0
   simp only [e4, e6, e9, e11, Y_impure_Want, ↓EVd, isCall, sevalprocAttr]
   all_goals first | done | rfl
 obtain ⟨v12, e14, hm0⟩ := ixE encNode hm0
 obtain ⟨v15, h16, hm0⟩ := bsE hm0
 simp only [e4, e6, e9, e11, e14, Y_impure_Want, ↓EVd, isCall, sevalprocAttr]
 refine qd (ok_impure_want _ _ _ h16) rfl ?_
 obtain rfl := Option.some.inj hm0
 simp only [e4, e6, e9, e11, e14, Y_impure_Want, ↓EVd, isCall, sevalprocAttr]
 all_goals first | done | rfl
def m_impure_Findings_b0 (a0 : Stack) (v1 : List Bool) : (List Finding × Int) → Option (St (List Finding × Int) (List Finding))
 | (v5, v6) => if v6 < (v1.length : Int) then (ix v1 v6).bind fun v12 => (ix a0.upper.nodes v6).bind fun v15 => if v12 = true then (m_impure_want a0.upper v15).bind fun v20 => if v15.impure = v20 then some (.nx (v5, (wr (v6 + 1))))
 else (ap 32 v5 ([(⟨18, 0, (wr (v6 + 1)), (-1)⟩ : Finding)] : List Finding)).bind fun _ => some (.nx ((v5 ++ ([(⟨18, 0, (wr (v6 + 1)), (-1)⟩ : Finding)] : List Finding)), (wr (v6 + 1))))
 else if v15.kind = 1 then if (wr (v6 + 1)) = 2 then if v15.impure = 0 then some (.nx (v5, (wr (v6 + 1))))
 else (ap 32 v5 ([(⟨18, 0, (wr (v6 + 1)), (-1)⟩ : Finding)] : List Finding)).bind fun _ => some (.nx ((v5 ++ ([(⟨18, 0, (wr (v6 + 1)), (-1)⟩ : Finding)] : List Finding)), (wr (v6 + 1))))
 else if (wr (v6 + 1)) = 3 then if v15.impure = 0 then some (.nx (v5, (wr (v6 + 1))))
 else (ap 32 v5 ([(⟨18, 0, (wr (v6 + 1)), (-1)⟩ : Finding)] : List Finding)).bind fun _ => some (.nx ((v5 ++ ([(⟨18, 0, (wr (v6 + 1)), (-1)⟩ : Finding)] : List Finding)), (wr (v6 + 1))))
 else some (.nx (v5, (wr (v6 + 1))))
 else some (.nx (v5, (wr (v6 + 1))))
 else some (.out v5)
def m_impure_Findings (a0 : Stack) : Option (List Finding) := (m_walk_Reach a0.upper ([1] : List Int)).bind fun v1 => (iter (m_impure_Findings_b0 a0 v1) big ([], 0)).bind fun o => (match o with
 | v9 => some v9)
def Y_impure_Findings := And.intro (And.intro (And.intro (And.intro ((@EV)) ((@R3))) (And.intro ((@R4)) ((@R24)))) (And.intro (And.intro ((@R26)) ((@R29))) (And.intro ((@R33)) (And.intro ((@R35)) ((@R46)))))) (And.intro (And.intro (And.intro ((@R63)) ((@R72))) (And.intro ((@DGeo)) (And.intro ((@DBranch)) ((@DStack))))) (And.intro (And.intro ((@DFinding)) ((@DOrigin))) (And.intro ((@DAttr)) (And.intro ((@DNode)) ((@DEntry))))))
set_option maxHeartbeats 2000000 in
theorem ok_impure_Findings (a0 : Stack) (r : List Finding) (hm0 : m_impure_Findings a0 = some r) : Ok Try.prog 15 [encStack a0] (.sl 4 (r.map encFinding)) := by
 unfold m_impure_Findings at hm0
 refine okG fc_impure_Findings ?_
 unfold c_impure_Findings
 obtain ⟨v1, h2, hm0⟩ := bsE hm0
 simp only [Y_impure_Findings, ↓EVd, isCall, sevalprocAttr]
 refine qcq (ok_walk_Reach _ _ _ h2) rfl (by simp only [FQ, CLO, Y_impure_Findings, ↓EVd, isCall, sevalprocAttr]; first | done | rfl) ?_
 obtain ⟨o0, ho0, hm0⟩ := bsE hm0
 simp only [Y_impure_Findings, ↓EVd, isCall, sevalprocAttr]
 refine cwp_cx 0 (fun s => ∃ v9 : List Finding, ∃ l8 : Nat, (s.T 3 = .msl l8 v9.length ∧ s.H l8 = some (.row 35 4 (v9.map encFinding)) ∧ Lq l8 s.nx) ∧ v9 = o0) ?_ fun J0_0 hJ0_0 => ?_
 · rintro T0 H0 x7 ⟨v9, l8, kk0_0, rfl⟩
   dsimp only [Lq, Nq] at kk0_0
   try dsimp only at hm0
   obtain rfl := Option.some.inj hm0
   simp only [kk0_0, Y_impure_Findings, ↓EVd, isCall, sevalprocAttr]
   all_goals first | done | rfl | exact frzR_e (by simp only [kk0_0, FZ, CLO, Y_impure_Findings, ↓EVd, isCall, sevalprocAttr])
 refine cwp_lp ho0 (fun (v5, v6) s => ∃ l4 : Nat, s.T 1 = .loc 0 6 0 0 ∧ s.T 3 = .msl l4 v5.length ∧ s.T 11 = .sl 1 (v1.map bool) ∧ s.T 12 = int (v1.length : Int) ∧ s.T 13 = int v6 ∧ s.H 0 = some (.row 29 6 [encStack a0]) ∧ s.H l4 = some (.row 35 4 (v5.map encFinding)) ∧ Lq 0 s.nx ∧ Lq l4 s.nx ∧ Nq 0 l4) ?_ ?_
 · refine TI.by (Tn.adopt 3 35 4 (by simp only [Y_impure_Findings, ↓EVd, isCall, sevalprocAttr])) ?_
   refine TI.here ⟨9, ?_, ?_, ?_, ?_, ?_, ?_, ?_, ?_, ?_, ?_⟩
   all_goals try simp only [Y_impure_Findings, ↓EVd, isCall, sevalprocAttr]
   all_goals first | omega | exact lq (by omega) | exact nq (by omega) | rfl | (congr 1; omega)
 rintro I0 ⟨v5, v6⟩ T0 H0 x3 st0 ⟨l4, kk0⟩ hm1 hI0 hO0
 dsimp only [Lq, Nq] at kk0
 simp only [m_impure_Findings_b0] at hm1
 rcases iteE hm1 with ⟨e11, hm1⟩ | ⟨e11, hm1⟩
 · obtain ⟨v12, e14, hm1⟩ := ixE bool hm1
   obtain ⟨v15, e17, hm1⟩ := ixE encNode hm1
   rcases itbE hm1 with ⟨e19, hm1⟩ | ⟨e19, hm1⟩
   · obtain ⟨v20, h21, hm1⟩ := bsE hm1
     simp only [kk0, e11, e14, e17, e19, Y_impure_Findings, ↓EVd, isCall, sevalprocAttr]
     refine qc (ok_impure_want _ _ _ h21) rfl ?_
     rcases iteE hm1 with ⟨e23, hm1⟩ | ⟨e23, hm1⟩
     · obtain rfl := Option.some.inj hm1
       simp only [kk0, e11, e14, e17, e19, e23, Y_impure_Findings, ↓EVd, isCall, sevalprocAttr]
       refine TI.here (hI0 _ rfl _ ⟨l4, ?_, ?_, ?_, ?_, ?_, ?_, ?_, ?_, ?_, ?_⟩)
       all_goals try simp only [kk0, e11, e14, e17, e19, e23, Y_impure_Findings, ↓EVd, isCall, sevalprocAttr]
       all_goals first | omega | exact lq (by omega) | exact nq (by omega) | rfl | (congr 1; omega)
     have e24 : (.agg [int 18, int 0, int (wr (v6 + 1)), int (-1)] : AV) = encFinding (⟨18, 0, (wr (v6 + 1)), (-1)⟩ : Finding) := _root_.id rfl
     obtain ⟨e27, hm1⟩ := apE hm1
     try simp only [ZL] at e27
     obtain rfl := Option.some.inj hm1
     simp only [kk0, e11, e14, e17, e19, e23, e24, e27, Y_impure_Findings, ↓EVd, isCall, sevalprocAttr]
     refine TI.here (hI0 _ rfl _ ⟨(x3 + 31), ?_, ?_, ?_, ?_, ?_, ?_, ?_, ?_, ?_, ?_⟩)
     all_goals try simp only [kk0, e11, e14, e17, e19, e23, e24, e27, Y_impure_Findings, ↓EVd, isCall, sevalprocAttr]
     all_goals first | omega | exact lq (by omega) | exact nq (by omega) | rfl | (congr 1; omega)
   rcases iteE hm1 with ⟨e30, hm1⟩ | ⟨e30, hm1⟩
   · rcases iteE hm1 with ⟨e32, hm1⟩ | ⟨e32, hm1⟩
     · rcases iteE hm1 with ⟨e34, hm1⟩ | ⟨e34, hm1⟩
       · obtain rfl := Option.some.inj hm1
         simp only [kk0, e11, e14, e17, e19, e30, e32, e34, Y_impure_Findings, ↓EVd, isCall, sevalprocAttr]
         refine TI.here (hI0 _ rfl _ ⟨l4, ?_, ?_, ?_, ?_, ?_, ?_, ?_, ?_, ?_, ?_⟩)
         all_goals try simp only [kk0, e11, e14, e17, e19, e30, e32, e34, Y_impure_Findings, ↓EVd, isCall, sevalprocAttr]
         all_goals first | omega | exact lq (by omega) | exact nq (by omega) | rfl | (congr 1; omega)
       have e35 : (.agg [int 18, int 0, int (wr (v6 + 1)), int (-1)] : AV) = encFinding (⟨18, 0, (wr (v6 + 1)), (-1)⟩ : Finding) := _root_.id rfl
       obtain ⟨e38, hm1⟩ := apE hm1
       try simp only [ZL] at e38
       obtain rfl := Option.some.inj hm1
       simp only [kk0, e11, e14, e17, e19, e30, e32, e34, e35, e38, Y_impure_Findings, ↓EVd, isCall, sevalprocAttr]
       refine TI.here (hI0 _ rfl _ ⟨(x3 + 40), ?_, ?_, ?_, ?_, ?_, ?_, ?_, ?_, ?_, ?_⟩)
       all_goals try simp only [kk0, e11, e14, e17, e19, e30, e32, e34, e35, e38, Y_impure_Findings, ↓EVd, isCall, sevalprocAttr]
       all_goals first | omega | exact lq (by omega) | exact nq (by omega) | rfl | (congr 1; omega)
     rcases iteE hm1 with ⟨e41, hm1⟩ | ⟨e41, hm1⟩
     · rcases iteE hm1 with ⟨e43, hm1⟩ | ⟨e43, hm1⟩
       · obtain rfl := Option.some.inj hm1
         simp only [kk0, e11, e14, e17, e19, e30, e32, e41, e43, Y_impure_Findings, ↓EVd, isCall, sevalprocAttr]
         refine TI.here (hI0 _ rfl _ ⟨l4, ?_, ?_, ?_, ?_, ?_, ?_, ?_, ?_, ?_, ?_⟩)
         all_goals try simp only [kk0, e11, e14, e17, e19, e30, e32, e41, e43, Y_impure_Findings, ↓EVd, isCall, sevalprocAttr]
         all_goals first | omega | exact lq (by omega) | exact nq (by omega) | rfl | (congr 1; omega)
       have e44 : (.agg [int 18, int 0, int (wr (v6 + 1)), int (-1)] : AV) = encFinding (⟨18, 0, (wr (v6 + 1)), (-1)⟩ : Finding) := _root_.id rfl
       obtain ⟨e47, hm1⟩ := apE hm1
       try simp only [ZL] at e47
       obtain rfl := Option.some.inj hm1
       simp only [kk0, e11, e14, e17, e19, e30, e32, e41, e43, e44, e47, Y_impure_Findings, ↓EVd, isCall, sevalprocAttr]
       refine TI.here (hI0 _ rfl _ ⟨(x3 + 40), ?_, ?_, ?_, ?_, ?_, ?_, ?_, ?_, ?_, ?_⟩)
       all_goals try simp only [kk0, e11, e14, e17, e19, e30, e32, e41, e43, e44, e47, Y_impure_Findings, ↓EVd, isCall, sevalprocAttr]
       all_goals first | omega | exact lq (by omega) | exact nq (by omega) | rfl | (congr 1; omega)
     obtain rfl := Option.some.inj hm1
     simp only [kk0, e11, e14, e17, e19, e30, e32, e41, Y_impure_Findings, ↓EVd, isCall, sevalprocAttr]
     refine TI.here (hI0 _ rfl _ ⟨l4, ?_, ?_, ?_, ?_, ?_, ?_, ?_, ?_, ?_, ?_⟩)
     all_goals try simp only [kk0, e11, e14, e17, e19, e30, e32, e41, Y_impure_Findings, ↓EVd, isCall, sevalprocAttr]
     all_goals first | omega | exact lq (by omega) | exact nq (by omega) | rfl | (congr 1; omega)
   obtain rfl := Option.some.inj hm1
   simp only [kk0, e11, e14, e17, e19, e30, Y_impure_Findings, ↓EVd, isCall, sevalprocAttr]
   refine TI.here (hI0 _ rfl _ ⟨l4, ?_, ?_, ?_, ?_, ?_, ?_, ?_, ?_, ?_, ?_⟩)
   all_goals try simp only [kk0, e11, e14, e17, e19, e30, Y_impure_Findings, ↓EVd, isCall, sevalprocAttr]
   all_goals first | omega | exact lq (by omega) | exact nq (by omega) | rfl | (congr 1; omega)
 obtain rfl := Option.some.inj hm1
 simp only [kk0, e11, Y_impure_Findings, ↓EVd, isCall, sevalprocAttr]
 refine TI.here (hJ0_0 _ ⟨v5, l4, ⟨?_, ?_, ?_⟩, hO0 _ rfl⟩)
 all_goals try simp only [kk0, e11, Y_impure_Findings, ↓EVd, isCall, sevalprocAttr]
 all_goals first | omega | exact lq (by omega) | exact nq (by omega) | rfl | (congr 1; omega)
end Go.Proofs.Ytnmljicimdhpmaa.AL

