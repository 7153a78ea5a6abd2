/- What of the attributes of any stack, and of any node, may not be, is what the document says: part 50 of 50. -/
import Derived.Test.YtapdjibjnfeipaaGreatDoorB49
set_option linter.all false
/- Models of functions, and that the functions are as their models: written by gen.py. -/
set_option linter.all false
set_option maxRecDepth 100000
namespace Go.Proofs.YtapdjibjnfeipaaGreatDoor.AL
open Go Go.Proofs
def m_slices_EqualFunc_api_View_api_View_api_View_api_View_b0 (a0 : List View) (a1 : List View) : Int → Option (St (Int) ((Unit) ⊕ (Bool)))
 | v4 => if v4 < (a0.length : Int) then (ix a0 v4).bind fun v8 => (ix a1 v4).bind fun v11 => (m_ref17_SameView v8 v11).bind fun v14 => if (!v14) = true then some (.out (.inr false))
 else some (.nx (wr (v4 + 1)))
 else some (.out (.inl ()))
def m_slices_EqualFunc_api_View_api_View_api_View_api_View (a0 : List View) (a1 : List View) : Option (Bool) := if (a0.length : Int) = (a1.length : Int) then (iter (m_slices_EqualFunc_api_View_api_View_api_View_api_View_b0 a0 a1) big 0).bind fun o => (match o with
 | (.inl _) => some true
 | (.inr r) => some r)
 else some false
def Y_slices_EqualFunc_api_View_api_View_api_View_api_View := And.intro (And.intro ((@EV)) (And.intro ((@R3)) ((@R32)))) (And.intro ((@R74)) (And.intro ((@DView)) ((@DPlace))))
set_option maxHeartbeats 2000000 in
theorem ok_slices_EqualFunc_api_View_api_View_api_View_api_View (a0 : List View) (a1 : List View) (r : Bool) (hm0 : m_slices_EqualFunc_api_View_api_View_api_View_api_View a0 a1 = some r) : Ok Tryz.prog 38 [.sl 2 (a0.map encView), .sl 2 (a1.map encView), .fn (.func 21) [] []] (bool r) := by
 unfold m_slices_EqualFunc_api_View_api_View_api_View_api_View at hm0
 refine okG fc_slices_EqualFunc_api_View_api_View_api_View_api_View ?_
 unfold c_slices_EqualFunc_api_View_api_View_api_View_api_View
 rcases iteE hm0 with ⟨e2, hm0⟩ | ⟨e2, hm0⟩
 · obtain ⟨o0, ho0, hm0⟩ := bsE hm0
   simp only [e2, Y_slices_EqualFunc_api_View_api_View_api_View_api_View, ↓EVd, isCall, sevalprocAttr]
   refine cwp_cx 0 (fun s => (.inl ()) = o0) ?_ fun J0_0 hJ0_0 => ?_
   · rintro T0 H0 x5 rfl
     try dsimp only at hm0
     obtain rfl := Option.some.inj hm0
     simp only [e2, Y_slices_EqualFunc_api_View_api_View_api_View_api_View, ↓EVd, isCall, sevalprocAttr]
     all_goals first | done | rfl
   refine cwp_lp ho0 (fun v4 s => s.T 1 = .sl 2 (a1.map encView) ∧ s.T 2 = .fn (.func 21) [] [] ∧ s.T 15 = .sl 2 (a0.map encView) ∧ s.T 16 = int (a0.length : Int) ∧ s.T 17 = int v4) ?_ ?_
   · refine TI.here ⟨?_, ?_, ?_, ?_, ?_⟩
     all_goals try simp only [e2, Y_slices_EqualFunc_api_View_api_View_api_View_api_View, ↓EVd, isCall, sevalprocAttr]
     all_goals first | omega | exact lq (by omega) | exact nq (by omega) | rfl | (congr 1; omega)
   rintro I0 v4 T0 H0 x3 st0 kk0 hm1 hI0 hO0
   dsimp only [Lq, Nq] at kk0
   simp only [m_slices_EqualFunc_api_View_api_View_api_View_api_View_b0] at hm1
   rcases iteE hm1 with ⟨e7, hm1⟩ | ⟨e7, hm1⟩
   · obtain ⟨v8, e10, hm1⟩ := ixE encView hm1
     obtain ⟨v11, e13, hm1⟩ := ixE encView hm1
     obtain ⟨v14, h15, hm1⟩ := bsE hm1
     simp only [kk0, e2, e7, e10, e13, Y_slices_EqualFunc_api_View_api_View_api_View_api_View, ↓EVd, isCall, sevalprocAttr]
     refine qc (ok_ref17_SameView _ _ _ h15) rfl ?_
     rcases itbE hm1 with ⟨e17, hm1⟩ | ⟨e17, hm1⟩
     · obtain rfl := Option.some.inj hm1
       obtain rfl := hO0 _ rfl
       try dsimp only at hm0
       obtain rfl := Option.some.inj hm0
       simp only [kk0, e2, e7, e10, e13, e17, Y_slices_EqualFunc_api_View_api_View_api_View_api_View, ↓EVd, isCall, sevalprocAttr]
       all_goals first | done | rfl
     obtain rfl := Option.some.inj hm1
     simp only [kk0, e2, e7, e10, e13, e17, Y_slices_EqualFunc_api_View_api_View_api_View_api_View, ↓EVd, isCall, sevalprocAttr]
     refine TI.here (hI0 _ rfl _ ⟨?_, ?_, ?_, ?_, ?_⟩)
     all_goals try simp only [kk0, e2, e7, e10, e13, e17, Y_slices_EqualFunc_api_View_api_View_api_View_api_View, ↓EVd, isCall, sevalprocAttr]
     all_goals first | omega | exact lq (by omega) | exact nq (by omega) | rfl | (congr 1; omega)
   obtain rfl := Option.some.inj hm1
   simp only [kk0, e2, e7, Y_slices_EqualFunc_api_View_api_View_api_View_api_View, ↓EVd, isCall, sevalprocAttr]
   refine TI.here (hJ0_0 _ (hO0 _ rfl))
 obtain rfl := Option.some.inj hm0
 simp only [e2, Y_slices_EqualFunc_api_View_api_View_api_View_api_View, ↓EVd, isCall, sevalprocAttr]
 all_goals first | done | rfl
def m_law17_awake  : Option (Bool) := (m_plain_Idle ).bind fun v1 => (m_view_Root v1).bind fun v3 => (m_view_Step v1 v3 (ByteArray.mk #[97])).bind fun v5 => (m_view_Step v1 v3 (ByteArray.mk #[122])).bind fun v7 => (m_view_Tree v1).bind fun v9 => if v3.upper = 1 then if (v3.lower.length : Int) = 1 then if v5.1 = 2 then if (decide (v5.2.2 = (⟨1, 2⟩ : Place))) = true then if v7.1 = 0 then (m_view_Names v1 v3).bind fun v22 => (m_slices_Equal_string_string v22 ([(ByteArray.mk #[97])] : List ByteArray)).bind fun v24 => if v24 = true then if (v9.1.length : Int) = 1 then if (v9.2.length : Int) = 1 then some true
 else some false
 else some false
 else some false
 else some false
 else some false
 else some false
 else some false
 else some false
def Y_law17_awake := And.intro (And.intro (And.intro (And.intro ((@EV)) ((@R3))) (And.intro ((@R9)) (And.intro ((@R29)) ((@R30))))) (And.intro (And.intro ((@R32)) (And.intro ((@R42)) ((@R45)))) (And.intro ((@R73)) (And.intro ((@R74)) ((@R79)))))) (And.intro (And.intro (And.intro ((@DGeo)) ((@DBranch))) (And.intro ((@DStack)) (And.intro ((@DView)) ((@DPlace))))) (And.intro (And.intro ((@DEntry)) (And.intro ((@DOrigin)) ((@DAttr)))) (And.intro ((@DNode)) (And.intro ((@DWay)) ((@eq45))))))
set_option maxHeartbeats 2000000 in
theorem ok_law17_awake  (r : Bool) (hm0 : m_law17_awake  = some r) : Ok Tryz.prog 18 [] (bool r) := by
 unfold m_law17_awake at hm0
 refine okG fc_law17_awake ?_
 unfold c_law17_awake
 obtain ⟨v1, h2, hm0⟩ := bsE hm0
 simp only [Y_law17_awake, ↓EVd, isCall, sevalprocAttr]
 refine qc (ok_plain_Idle  _ h2) rfl ?_
 obtain ⟨v3, h4, hm0⟩ := bsE hm0
 simp only [Y_law17_awake, ↓EVd, isCall, sevalprocAttr]
 refine qc (ok_view_Root _ _ h4) rfl ?_
 obtain ⟨v5, h6, hm0⟩ := bsE hm0
 simp only [Y_law17_awake, ↓EVd, isCall, sevalprocAttr]
 refine qc (ok_view_Step _ _ _ _ h6) rfl ?_
 obtain ⟨v7, h8, hm0⟩ := bsE hm0
 simp only [Y_law17_awake, ↓EVd, isCall, sevalprocAttr]
 refine qc (ok_view_Step _ _ _ _ h8) rfl ?_
 obtain ⟨v9, h10, hm0⟩ := bsE hm0
 simp only [Y_law17_awake, ↓EVd, isCall, sevalprocAttr]
 refine qc (ok_view_Tree _ _ h10) rfl ?_
 rcases iteE hm0 with ⟨e12, hm0⟩ | ⟨e12, hm0⟩
 · rcases iteE hm0 with ⟨e14, hm0⟩ | ⟨e14, hm0⟩
   · rcases iteE hm0 with ⟨e16, hm0⟩ | ⟨e16, hm0⟩
     · have e17 : (.agg [int 1, int 2] : AV) = encPlace (⟨1, 2⟩ : Place) := _root_.id rfl
       rcases itbE hm0 with ⟨e19, hm0⟩ | ⟨e19, hm0⟩
       · rcases iteE hm0 with ⟨e21, hm0⟩ | ⟨e21, hm0⟩
         · obtain ⟨v22, h23, hm0⟩ := bsE hm0
           simp only [e12, e14, e16, e17, e19, e21, Y_law17_awake, ↓EVd, isCall, sevalprocAttr]
           refine qc (ok_view_Names _ _ _ h23) rfl ?_
           obtain ⟨v24, h25, hm0⟩ := bsE hm0
           simp only [e12, e14, e16, e17, e19, e21, Y_law17_awake, ↓EVd, isCall, sevalprocAttr]
           refine qcb (ok_slices_Equal_string_string _ _ _ h25) rfl (by simp only [e12, e14, e16, e17, e19, e21, FZ, CLO, Y_law17_awake, ↓EVd, isCall, sevalprocAttr]) ?_
           rcases itbE hm0 with ⟨e27, hm0⟩ | ⟨e27, hm0⟩
           · rcases iteE hm0 with ⟨e29, hm0⟩ | ⟨e29, hm0⟩
             · have g32 := And.intro (And.intro (And.intro ((e12)) ((e14))) (And.intro ((e16)) ((e17)))) (And.intro (And.intro ((e19)) ((e21))) (And.intro ((e27)) ((e29))))
               rcases iteE hm0 with ⟨e31, hm0⟩ | ⟨e31, hm0⟩
               · obtain rfl := Option.some.inj hm0
                 simp only [g32, e31, Y_law17_awake, ↓EVd, isCall, sevalprocAttr]
                 all_goals first | done | rfl
               obtain rfl := Option.some.inj hm0
               simp only [g32, e31, Y_law17_awake, ↓EVd, isCall, sevalprocAttr]
               all_goals first | done | rfl
             obtain rfl := Option.some.inj hm0
             simp only [e12, e14, e16, e17, e19, e21, e27, e29, Y_law17_awake, ↓EVd, isCall, sevalprocAttr]
             all_goals first | done | rfl
           obtain rfl := Option.some.inj hm0
           simp only [e12, e14, e16, e17, e19, e21, e27, Y_law17_awake, ↓EVd, isCall, sevalprocAttr]
           all_goals first | done | rfl
         obtain rfl := Option.some.inj hm0
         simp only [e12, e14, e16, e17, e19, e21, Y_law17_awake, ↓EVd, isCall, sevalprocAttr]
         all_goals first | done | rfl
       obtain rfl := Option.some.inj hm0
       simp only [e12, e14, e16, e17, e19, Y_law17_awake, ↓EVd, isCall, sevalprocAttr]
       all_goals first | done | rfl
     obtain rfl := Option.some.inj hm0
     simp only [e12, e14, e16, Y_law17_awake, ↓EVd, isCall, sevalprocAttr]
     all_goals first | done | rfl
   obtain rfl := Option.some.inj hm0
   simp only [e12, e14, Y_law17_awake, ↓EVd, isCall, sevalprocAttr]
   all_goals first | done | rfl
 obtain rfl := Option.some.inj hm0
 simp only [e12, Y_law17_awake, ↓EVd, isCall, sevalprocAttr]
 all_goals first | done | rfl
def m_law17_ViewTrees_b0 (a0 : Stack) (v7 : List Way × List View) : Int → Option (St (Int) ((Unit) ⊕ (Bool)))
 | v26 => if v26 < (v7.2.length : Int) then (ix v7.2 v26).bind fun v30 => (ix v7.1 v26).bind fun v33 => (ix a0.upper.nodes (wr (v33.ino - 1))).bind fun v36 => if v30.upper = v33.ino then (m_view_Opaque v36).bind fun v41 => (m_ref17_Opaque v36).bind fun v43 => if v41 = true then if v43 = true then (m_view_Opaque v36).bind fun v49 => if v49 = true then if 0 < (v30.lower.length : Int) then some (.out (.inr false))
 else some (.nx (wr (v26 + 1)))
 else some (.nx (wr (v26 + 1)))
 else some (.out (.inr false))
 else if v43 = true then some (.out (.inr false))
 else (m_view_Opaque v36).bind fun v57 => if v57 = true then if 0 < (v30.lower.length : Int) then some (.out (.inr false))
 else some (.nx (wr (v26 + 1)))
 else some (.nx (wr (v26 + 1)))
 else some (.out (.inr false))
 else some (.out (.inl ()))
def m_law17_ViewTrees (a0 : Stack) : Option (Bool) := (m_plain_Stack a0 24).bind fun v1 => if (!v1) = true then (m_law17_awake ).bind fun v5 => some v5
 else (m_view_Tree a0).bind fun v7 => (m_ref17_Tree a0).bind fun v9 => (m_slices_Equal_api_Way_api_Way v7.1 v9.1).bind fun v11 => if (!v11) = true then some false
 else (m_slices_EqualFunc_api_View_api_View_api_View_api_View v7.2 v9.2).bind fun v15 => if (!v15) = true then some false
 else (m_walk_Dirs a0.upper ([1] : List Int)).bind fun v19 => (m_slices_Equal_api_Way_api_Way v7.1 v19).bind fun v21 => if (!v21) = true then some false
 else (iter (m_law17_ViewTrees_b0 a0 v7) big 0).bind fun o => (match o with
 | (.inl _) => (m_law17_awake ).bind fun v63 => some v63
 | (.inr r) => some r)
def Y_law17_ViewTrees := And.intro (And.intro (And.intro (And.intro ((@EV)) (And.intro ((@R3)) ((@R4)))) (And.intro ((@R24)) (And.intro ((@R26)) ((@R29))))) (And.intro (And.intro ((@R30)) (And.intro ((@R32)) ((@R45)))) (And.intro (And.intro ((@R48)) ((@R68))) (And.intro ((@R73)) ((@R74)))))) (And.intro (And.intro (And.intro ((@R79)) (And.intro ((@R111)) ((@DGeo)))) (And.intro ((@DBranch)) (And.intro ((@DStack)) ((@DView))))) (And.intro (And.intro ((@DPlace)) (And.intro ((@DEntry)) ((@DOrigin)))) (And.intro (And.intro ((@DAttr)) ((@DNode))) (And.intro ((@DWay)) ((@mixed))))))
set_option maxHeartbeats 2000000 in
theorem ok_law17_ViewTrees (a0 : Stack) (r : Bool) (hm0 : m_law17_ViewTrees a0 = some r) : Ok Tryz.prog 7 [encStack a0] (bool r) := by
 unfold m_law17_ViewTrees at hm0
 refine okG fc_law17_ViewTrees ?_
 unfold c_law17_ViewTrees
 obtain ⟨v1, h2, hm0⟩ := bsE hm0
 simp only [Y_law17_ViewTrees, ↓EVd, isCall, sevalprocAttr]
 refine qc (ok_plain_Stack _ _ _ h2) rfl ?_
 rcases itbE hm0 with ⟨e4, hm0⟩ | ⟨e4, hm0⟩
 · obtain ⟨v5, h6, hm0⟩ := bsE hm0
   simp only [e4, Y_law17_ViewTrees, ↓EVd, isCall, sevalprocAttr]
   refine qc (ok_law17_awake  _ h6) rfl ?_
   obtain rfl := Option.some.inj hm0
   simp only [e4, Y_law17_ViewTrees, ↓EVd, isCall, sevalprocAttr]
   all_goals first | done | rfl
 obtain ⟨v7, h8, hm0⟩ := bsE hm0
 simp only [e4, Y_law17_ViewTrees, ↓EVd, isCall, sevalprocAttr]
 refine qc (ok_view_Tree _ _ h8) rfl ?_
 obtain ⟨v9, h10, hm0⟩ := bsE hm0
 simp only [e4, Y_law17_ViewTrees, ↓EVd, isCall, sevalprocAttr]
 refine qc (ok_ref17_Tree _ _ h10) rfl ?_
 obtain ⟨v11, h12, hm0⟩ := bsE hm0
 simp only [e4, Y_law17_ViewTrees, ↓EVd, isCall, sevalprocAttr]
 refine qc (ok_slices_Equal_api_Way_api_Way _ _ _ h12) rfl ?_
 rcases itbE hm0 with ⟨e14, hm0⟩ | ⟨e14, hm0⟩
 · obtain rfl := Option.some.inj hm0
   simp only [e4, e14, Y_law17_ViewTrees, ↓EVd, isCall, sevalprocAttr]
   all_goals first | done | rfl
 obtain ⟨v15, h16, hm0⟩ := bsE hm0
 simp only [e4, e14, Y_law17_ViewTrees, ↓EVd, isCall, sevalprocAttr]
 refine qc (ok_slices_EqualFunc_api_View_api_View_api_View_api_View _ _ _ h16) rfl ?_
 rcases itbE hm0 with ⟨e18, hm0⟩ | ⟨e18, hm0⟩
 · obtain rfl := Option.some.inj hm0
   simp only [e4, e14, e18, Y_law17_ViewTrees, ↓EVd, isCall, sevalprocAttr]
   all_goals first | done | rfl
 obtain ⟨v19, h20, hm0⟩ := bsE hm0
 simp only [e4, e14, e18, Y_law17_ViewTrees, ↓EVd, isCall, sevalprocAttr]
 refine qcq (ok_walk_Dirs _ _ _ h20) rfl (by simp only [e4, e14, e18, FQ, CLO, Y_law17_ViewTrees, ↓EVd, isCall, sevalprocAttr]; first | done | rfl) ?_
 obtain ⟨v21, h22, hm0⟩ := bsE hm0
 simp only [e4, e14, e18, Y_law17_ViewTrees, ↓EVd, isCall, sevalprocAttr]
 refine qc (ok_slices_Equal_api_Way_api_Way _ _ _ h22) rfl ?_
 rcases itbE hm0 with ⟨e24, hm0⟩ | ⟨e24, hm0⟩
 · obtain rfl := Option.some.inj hm0
   simp only [e4, e14, e18, e24, Y_law17_ViewTrees, ↓EVd, isCall, sevalprocAttr]
   all_goals first | done | rfl
 obtain ⟨o0, ho0, hm0⟩ := bsE hm0
 simp only [e4, e14, e18, e24, Y_law17_ViewTrees, ↓EVd, isCall, sevalprocAttr]
 refine cwp_cx 0 (fun s => (.inl ()) = o0) ?_ fun J0_0 hJ0_0 => ?_
 · rintro T0 H0 x27 rfl
   try dsimp only at hm0
   obtain ⟨v63, h64, hm0⟩ := bsE hm0
   simp only [e4, e14, e18, e24, Y_law17_ViewTrees, ↓EVd, isCall, sevalprocAttr]
   refine qc (ok_law17_awake  _ h64) rfl ?_
   obtain rfl := Option.some.inj hm0
   simp only [e4, e14, e18, e24, Y_law17_ViewTrees, ↓EVd, isCall, sevalprocAttr]
   all_goals first | done | rfl
 refine cwp_lp ho0 (fun v26 s => s.T 1 = .loc 0 6 0 0 ∧ s.T 3 = .sl 3 (v7.1.map encWay) ∧ s.T 43 = .sl 2 (v7.2.map encView) ∧ s.T 44 = int (v7.2.length : Int) ∧ s.T 45 = int v26 ∧ s.H 0 = some (.row 29 6 [encStack a0]) ∧ Lq 0 s.nx) ?_ ?_
 · refine TI.here ⟨?_, ?_, ?_, ?_, ?_, ?_, ?_⟩
   all_goals try simp only [e4, e14, e18, e24, Y_law17_ViewTrees, ↓EVd, isCall, sevalprocAttr]
   all_goals first | omega | exact lq (by omega) | exact nq (by omega) | rfl | (congr 1; omega)
 rintro I0 v26 T0 H0 x25 st0 kk0 hm1 hI0 hO0
 dsimp only [Lq, Nq] at kk0
 simp only [m_law17_ViewTrees_b0] at hm1
 rcases iteE hm1 with ⟨e29, hm1⟩ | ⟨e29, hm1⟩
 · obtain ⟨v30, e32, hm1⟩ := ixE encView hm1
   obtain ⟨v33, e35, hm1⟩ := ixE encWay hm1
   obtain ⟨v36, e38, hm1⟩ := ixE encNode hm1
   have g65 := And.intro (And.intro (And.intro ((e4)) ((e14))) (And.intro ((e18)) ((e24)))) (And.intro (And.intro ((e29)) ((e32))) (And.intro ((e35)) ((e38))))
   rcases iteE hm1 with ⟨e40, hm1⟩ | ⟨e40, hm1⟩
   · obtain ⟨v41, h42, hm1⟩ := bsE hm1
     simp only [kk0, g65, e40, Y_law17_ViewTrees, ↓EVd, isCall, sevalprocAttr]
     refine qd (ok_view_Opaque _ _ h42) rfl ?_
     obtain ⟨v43, h44, hm1⟩ := bsE hm1
     simp only [kk0, g65, e40, Y_law17_ViewTrees, ↓EVd, isCall, sevalprocAttr]
     refine qd (ok_ref17_Opaque _ _ h44) rfl ?_
     rcases itbE hm1 with ⟨e46, hm1⟩ | ⟨e46, hm1⟩
     · rcases itbE hm1 with ⟨e48, hm1⟩ | ⟨e48, hm1⟩
       · obtain ⟨v49, h50, hm1⟩ := bsE hm1
         simp only [kk0, g65, e40, e46, e48, Y_law17_ViewTrees, ↓EVd, isCall, sevalprocAttr]
         refine qd (ok_view_Opaque _ _ h50) rfl ?_
         rcases itbE hm1 with ⟨e52, hm1⟩ | ⟨e52, hm1⟩
         · rcases iteE hm1 with ⟨e54, hm1⟩ | ⟨e54, hm1⟩
           · obtain rfl := Option.some.inj hm1
             obtain rfl := hO0 _ rfl
             try dsimp only at hm0
             obtain rfl := Option.some.inj hm0
             simp only [kk0, g65, e40, e46, e48, e52, e54, Y_law17_ViewTrees, ↓EVd, isCall, sevalprocAttr]
             all_goals first | done | rfl
           obtain rfl := Option.some.inj hm1
           simp only [kk0, g65, e40, e46, e48, e52, e54, Y_law17_ViewTrees, ↓EVd, isCall, sevalprocAttr]
           refine TI.here (hI0 _ rfl _ ⟨?_, ?_, ?_, ?_, ?_, ?_, ?_⟩)
           all_goals try simp only [kk0, g65, e40, e46, e48, e52, e54, Y_law17_ViewTrees, ↓EVd, isCall, sevalprocAttr]
           all_goals first | omega | exact lq (by omega) | exact nq (by omega) | rfl | (congr 1; omega)
         obtain rfl := Option.some.inj hm1
         simp only [kk0, g65, e40, e46, e48, e52, Y_law17_ViewTrees, ↓EVd, isCall, sevalprocAttr]
         refine TI.here (hI0 _ rfl _ ⟨?_, ?_, ?_, ?_, ?_, ?_, ?_⟩)
         all_goals try simp only [kk0, g65, e40, e46, e48, e52, Y_law17_ViewTrees, ↓EVd, isCall, sevalprocAttr]
         all_goals first | omega | exact lq (by omega) | exact nq (by omega) | rfl | (congr 1; omega)
       obtain rfl := Option.some.inj hm1
       obtain rfl := hO0 _ rfl
       try dsimp only at hm0
       obtain rfl := Option.some.inj hm0
       simp only [kk0, g65, e40, e46, e48, Y_law17_ViewTrees, ↓EVd, isCall, sevalprocAttr]
       all_goals first | done | rfl
     rcases itbE hm1 with ⟨e56, hm1⟩ | ⟨e56, hm1⟩
     · obtain rfl := Option.some.inj hm1
       obtain rfl := hO0 _ rfl
       try dsimp only at hm0
       obtain rfl := Option.some.inj hm0
       simp only [kk0, g65, e40, e46, e56, Y_law17_ViewTrees, ↓EVd, isCall, sevalprocAttr]
       all_goals first | done | rfl
     obtain ⟨v57, h58, hm1⟩ := bsE hm1
     simp only [kk0, g65, e40, e46, e56, Y_law17_ViewTrees, ↓EVd, isCall, sevalprocAttr]
     refine qd (ok_view_Opaque _ _ h58) rfl ?_
     rcases itbE hm1 with ⟨e60, hm1⟩ | ⟨e60, hm1⟩
     · rcases iteE hm1 with ⟨e62, hm1⟩ | ⟨e62, hm1⟩
       · obtain rfl := Option.some.inj hm1
         obtain rfl := hO0 _ rfl
         try dsimp only at hm0
         obtain rfl := Option.some.inj hm0
         simp only [kk0, g65, e40, e46, e56, e60, e62, Y_law17_ViewTrees, ↓EVd, isCall, sevalprocAttr]
         all_goals first | done | rfl
       obtain rfl := Option.some.inj hm1
       simp only [kk0, g65, e40, e46, e56, e60, e62, Y_law17_ViewTrees, ↓EVd, isCall, sevalprocAttr]
       refine TI.here (hI0 _ rfl _ ⟨?_, ?_, ?_, ?_, ?_, ?_, ?_⟩)
       all_goals try simp only [kk0, g65, e40, e46, e56, e60, e62, Y_law17_ViewTrees, ↓EVd, isCall, sevalprocAttr]
       all_goals first | omega | exact lq (by omega) | exact nq (by omega) | rfl | (congr 1; omega)
     obtain rfl := Option.some.inj hm1
     simp only [kk0, g65, e40, e46, e56, e60, Y_law17_ViewTrees, ↓EVd, isCall, sevalprocAttr]
     refine TI.here (hI0 _ rfl _ ⟨?_, ?_, ?_, ?_, ?_, ?_, ?_⟩)
     all_goals try simp only [kk0, g65, e40, e46, e56, e60, Y_law17_ViewTrees, ↓EVd, isCall, sevalprocAttr]
     all_goals first | omega | exact lq (by omega) | exact nq (by omega) | rfl | (congr 1; omega)
   obtain rfl := Option.some.inj hm1
   obtain rfl := hO0 _ rfl
   try dsimp only at hm0
   obtain rfl := Option.some.inj hm0
   simp only [kk0, g65, e40, Y_law17_ViewTrees, ↓EVd, isCall, sevalprocAttr]
   all_goals first | done | rfl
 obtain rfl := Option.some.inj hm1
 simp only [kk0, e4, e14, e18, e24, e29, Y_law17_ViewTrees, ↓EVd, isCall, sevalprocAttr]
 refine TI.here (hJ0_0 _ (hO0 _ rfl))
end Go.Proofs.YtapdjibjnfeipaaGreatDoor.AL

/- Plain laws of chapter 17: the laws. -/
set_option linter.all false
namespace Go.Proofs.YtapdjibjnfeipaaGreatDoor.AL
open Go Go.Proofs
theorem awake17 : m_law17_awake = some true := by kernel_rfl
theorem equal_way {a b : List Way} (h : a.length ≤ 1000000000) : m_slices_Equal_api_Way_api_Way a b = some (decide (a = b)) := by
  unfold m_slices_Equal_api_Way_api_Way
  by_cases hl : a.length = b.length
  · rw [if_pos (by omega), eqLoop hl h]
    · by_cases he : a = b <;> simp [he]
    · intro i h1 h2
      simp only [m_slices_Equal_api_Way_api_Way_b0]
      rw [if_pos (by omega), ix_at h1, ix_at h2]
      simp only [Option.bind_some, decide_eq_true_eq]
      rw [wr_suc (by omega)]
    · simp only [m_slices_Equal_api_Way_api_Way_b0]
      rw [if_neg (by omega)]
  · rw [if_neg (by omega)]
    have : ¬ a = b := by rintro rfl; exact hl rfl
    simp [this]
theorem equalF_refl {a : List View} (hl : a.length ≤ 1000000) (h : ∀ x ∈ a, x.lower.length ≤ 1000000000) : m_slices_EqualFunc_api_View_api_View_api_View_api_View a a = some true := by
  unfold m_slices_EqualFunc_api_View_api_View_api_View_api_View
  rw [if_pos rfl]
  obtain ⟨r, g1, g2⟩ := iter_term (B := m_slices_EqualFunc_api_View_api_View_api_View_api_View_b0 a a) (R := fun r => r = .inl ()) (fun i t => t = (i : Int) ∧ i ≤ a.length) a.length (by
    rintro i t ⟨rfl, hi⟩
    refine ⟨hi, ?_⟩
    simp only [m_slices_EqualFunc_api_View_api_View_api_View_api_View_b0]
    by_cases hlt : i < a.length
    · rw [if_pos (by omega), ix_at hlt]
      simp only [Option.bind_some]
      rw [same_refl (h _ (List.getElem_mem hlt)), wr_suc (by omega)]
      exact .inl ⟨_, rfl, rfl, by omega⟩
    · rw [if_neg (by omega)]
      exact .inr ⟨_, rfl, rfl⟩) big 0 0 ⟨rfl, by omega⟩ (by rw [big_eq]; omega)
  subst g2
  rw [g1]
  rfl
theorem law_viewTrees (s : Stack) : m_law17_ViewTrees s = some true := by
  unfold m_law17_ViewTrees
  obtain ⟨r, h1, h2⟩ := stack_tot s
  rw [h1]
  simp only [Option.bind_some]
  cases r with
  | false => rw [if_pos (by simp), awake17]; rfl
  | true =>
    rw [if_neg (by simp)]
    have h := (h2 rfl).sv
    have hb := (h2 rfl).pb
    obtain ⟨t1, t2⟩ := tree_eq h hb
    have hwl := waysV_len hb (fr := [1]) (by simp)
    have hlen := t2.len
    rw [t1, rtree_eq h hb, myDirsV hb (by simp)]
    simp only [Option.bind_some]
    rw [equal_way (by omega), equalF_refl (by omega) (fun x hx => by have := t2.low x hx; omega)]
    simp only [Option.bind_some, decide_true, Bool.not_true, Bool.false_eq_true, if_false]
    obtain ⟨r, g1, g2⟩ := iter_term (B := m_law17_ViewTrees_b0 s ((walkP s.upper [1]).2.1, treeV s)) (R := fun r => r = .inl ()) (fun i t => t = (i : Int) ∧ i ≤ (treeV s).length) (treeV s).length (by
      rintro i t ⟨rfl, hi⟩
      refine ⟨hi, ?_⟩
      simp only [m_law17_ViewTrees_b0]
      by_cases hlt : i < (treeV s).length
      · have hlw : i < (walkP s.upper [1]).2.1.length := by omega
        obtain ⟨w, w1, w2, w3⟩ := t2.at' i _ (List.getElem?_eq_getElem hlt)
        rw [List.getElem?_eq_getElem hlw] at w1
        obtain rfl : _ = w := by simpa using w1
        obtain ⟨_, _, hkd⟩ := tree_way h hb hlw
        have hin := nodeP_live (b := s.upper) (ino := (walkP s.upper [1]).2.1[i].ino) (by omega)
        have hu := h.up.len
        rw [if_pos (by omega), ix_at hlt, ix_at hlw]
        simp only [Option.bind_some]
        rw [nodeP_in (by omega) (by omega) hb.len]
        simp only [Option.bind_some]
        rw [vopaque_eq (nodeP_nv h.up _), r17opaque_eq (nodeP_nv h.up _), if_pos w2, wr_suc (by omega)]
        simp only [Option.bind_some]
        by_cases ho : opqV (nodeP s.upper (walkP s.upper [1]).2.1[i].ino) = true
        · rw [if_pos ho, if_pos ho, if_pos ho, w3 ho, if_neg (by simp)]
          exact .inl ⟨_, rfl, rfl, by omega⟩
        · rw [if_neg ho, if_neg ho, if_neg ho]
          exact .inl ⟨_, rfl, rfl, by omega⟩
      · rw [if_neg (by omega)]
        exact .inr ⟨_, rfl, rfl⟩) big 0 0 ⟨rfl, by omega⟩ (by rw [big_eq]; omega)
    subst g2
    rw [g1, awake17]
    rfl
theorem ok_viewTrees (s : Stack) : Ok Tryz.prog 7 [encStack s] (bool true) := ok_law17_ViewTrees s true (law_viewTrees s)
end Go.Proofs.YtapdjibjnfeipaaGreatDoor.AL

/- The upper directories, and what each shows, are what the document says; an opaque one has nothing beneath: for every stack. -/
namespace Go.Proofs.YtapdjibjnfeipaaGreatDoor
theorem viewTrees_holds : Rows.ViewTreesCardSaid := card_viewTrees_of (holds_viewTrees_of fun s _ => AL.ok_viewTrees s)
#print axioms viewTrees_holds
end Go.Proofs.YtapdjibjnfeipaaGreatDoor

