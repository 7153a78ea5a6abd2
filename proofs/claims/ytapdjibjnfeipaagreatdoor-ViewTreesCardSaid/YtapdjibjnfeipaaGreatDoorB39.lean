/- What of the attributes of any stack, and of any node, may not be, is what the document says: part 39 of 50. -/
import Derived.Test.YtapdjibjnfeipaaGreatDoorB38
set_option linter.all false
/- Models of functions, and that the functions are as their models: written by gen.py. -/
set_option linter.all false
set_option maxRecDepth 100000
namespace Go.Proofs.YtapdjibjnfeipaaGreatDoor.AL
open Go Go.Proofs
def m_plain_odd (a0 : Entry) : Option (Bool) := (m_ref03_Right a0.name).bind fun v1 => some (!v1)
def Y_plain_odd := And.intro (And.intro ((@EV)) ((@R9))) (And.intro ((@R55)) ((@DEntry)))
set_option maxHeartbeats 2000000 in
theorem ok_plain_odd (a0 : Entry) (r : Bool) (hm0 : m_plain_odd a0 = some r) : Ok Tryz.prog 97 [encEntry a0] (bool r) := by
 unfold m_plain_odd at hm0
 refine okG fc_plain_odd ?_
 unfold c_plain_odd
 obtain ⟨v1, h2, hm0⟩ := bsE hm0
 simp only [Y_plain_odd, ↓EVd, isCall, sevalprocAttr]
 refine qc (ok_ref03_Right _ _ h2) rfl ?_
 obtain rfl := Option.some.inj hm0
 simp only [Y_plain_odd, ↓EVd, isCall, sevalprocAttr]
 all_goals first | done | rfl
def m_plain_Node_b0 (a0 : Node) : Int → Option (St (Int) ((Unit) ⊕ (Bool)))
 | v2 => if v2 < (a0.entries.length : Int) then (ix a0.entries v2).bind fun v6 => if v6.slot < 0 then some (.out (.inr false))
 else if 16 ≤ v6.slot then some (.out (.inr false))
 else if 0 < v2 then (ix a0.entries (wr (v2 - 1))).bind fun v15 => if v6.slot ≤ v15.slot then some (.out (.inr false))
 else some (.nx (wr (v2 + 1)))
 else some (.nx (wr (v2 + 1)))
 else some (.out (.inl ()))
def m_plain_Node (a0 : Node) : Option (Bool) := (iter (m_plain_Node_b0 a0) big 0).bind fun o => (match o with
 | (.inl _) => if 0 ≤ a0.kind then if a0.kind ≤ 4 then if (-9007199254740992) ≤ a0.nlink then if a0.nlink ≤ 9007199254740992 then if 0 ≤ a0.attr.has then if a0.attr.has ≤ 31 then if (a0.data.length : Int) ≤ 300 then if (a0.entries.length : Int) ≤ 16 then if (a0.attr.redirect.size : Int) ≤ 40 then (containsM (fun z => m_plain_odd z ) a0.entries).bind fun v38 => some (!v38)
 else some false
 else some false
 else some false
 else some false
 else some false
 else some false
 else some false
 else some false
 else some false
 | (.inr r) => some r)
def Y_plain_Node := And.intro (And.intro (And.intro ((@EV)) (And.intro ((@R3)) ((@R5)))) (And.intro (And.intro ((@R9)) ((@R55))) (And.intro ((@R61)) ((@R62))))) (And.intro (And.intro (And.intro ((@R66)) ((@R68))) (And.intro ((@R71)) ((@DEntry)))) (And.intro (And.intro ((@DOrigin)) ((@DAttr))) (And.intro ((@DNode)) ((@mixed)))))
set_option maxHeartbeats 2000000 in
theorem ok_plain_Node (a0 : Node) (r : Bool) (hm0 : m_plain_Node a0 = some r) : Ok Tryz.prog 74 [encNode a0] (bool r) := by
 unfold m_plain_Node at hm0
 refine okG fc_plain_Node ?_
 unfold c_plain_Node
 obtain ⟨o0, ho0, hm0⟩ := bsE hm0
 simp only [Y_plain_Node, ↓EVd, isCall, sevalprocAttr]
 refine cwp_cx 0 (fun s => (s.T 1 = .loc 0 13 0 0 ∧ s.H 0 = some (.row 68 13 [encNode a0]) ∧ Lq 0 s.nx) ∧ (.inl ()) = o0) ?_ fun J0_0 hJ0_0 => ?_
 · rintro T0 H0 x3 ⟨kk0_0, rfl⟩
   dsimp only [Lq, Nq] at kk0_0
   try dsimp only at hm0
   rcases iteE hm0 with ⟨e21, hm0⟩ | ⟨e21, hm0⟩
   · rcases iteE hm0 with ⟨e23, hm0⟩ | ⟨e23, hm0⟩
     · rcases iteE hm0 with ⟨e25, hm0⟩ | ⟨e25, hm0⟩
       · rcases iteE hm0 with ⟨e27, hm0⟩ | ⟨e27, hm0⟩
         · rcases iteE hm0 with ⟨e29, hm0⟩ | ⟨e29, hm0⟩
           · rcases iteE hm0 with ⟨e31, hm0⟩ | ⟨e31, hm0⟩
             · rcases iteE hm0 with ⟨e33, hm0⟩ | ⟨e33, hm0⟩
               · rcases iteE hm0 with ⟨e35, hm0⟩ | ⟨e35, hm0⟩
                 · have g40 := And.intro (And.intro (And.intro ((e21)) ((e23))) (And.intro ((e25)) ((e27)))) (And.intro (And.intro ((e29)) ((e31))) (And.intro ((e33)) ((e35))))
                   rcases iteE hm0 with ⟨e37, hm0⟩ | ⟨e37, hm0⟩
                   · obtain ⟨v38, h39, hm0⟩ := bsE hm0
                     simp only [kk0_0, g40, e37, Y_plain_Node, ↓EVd, isCall, sevalprocAttr]
                     refine qc (containsM_ok fc_slices_ContainsFunc_api_Entry_api_Entry fc_slices_IndexFunc_api_Entry_api_Entry elemOfT_62 aggN_55 (fi := []) (ca := []) encEntry a0.entries (fun z => m_plain_odd z ) _ h39 (fun z b hz => ok_plain_odd z  b hz) (fun z => by simp only [CLO]) rfl (by simp only [CLO]) (fun z => by simp only [Y_plain_Node, ↓EVd, isCall, sevalprocAttr])) rfl ?_
                     obtain rfl := Option.some.inj hm0
                     simp only [kk0_0, g40, e37, Y_plain_Node, ↓EVd, isCall, sevalprocAttr]
                     all_goals first | done | rfl
                   obtain rfl := Option.some.inj hm0
                   simp only [kk0_0, g40, e37, Y_plain_Node, ↓EVd, isCall, sevalprocAttr]
                   all_goals first | done | rfl
                 obtain rfl := Option.some.inj hm0
                 simp only [kk0_0, e21, e23, e25, e27, e29, e31, e33, e35, Y_plain_Node, ↓EVd, isCall, sevalprocAttr]
                 all_goals first | done | rfl
               obtain rfl := Option.some.inj hm0
               simp only [kk0_0, e21, e23, e25, e27, e29, e31, e33, Y_plain_Node, ↓EVd, isCall, sevalprocAttr]
               all_goals first | done | rfl
             obtain rfl := Option.some.inj hm0
             simp only [kk0_0, e21, e23, e25, e27, e29, e31, Y_plain_Node, ↓EVd, isCall, sevalprocAttr]
             all_goals first | done | rfl
           obtain rfl := Option.some.inj hm0
           simp only [kk0_0, e21, e23, e25, e27, e29, Y_plain_Node, ↓EVd, isCall, sevalprocAttr]
           all_goals first | done | rfl
         obtain rfl := Option.some.inj hm0
         simp only [kk0_0, e21, e23, e25, e27, Y_plain_Node, ↓EVd, isCall, sevalprocAttr]
         all_goals first | done | rfl
       obtain rfl := Option.some.inj hm0
       simp only [kk0_0, e21, e23, e25, Y_plain_Node, ↓EVd, isCall, sevalprocAttr]
       all_goals first | done | rfl
     obtain rfl := Option.some.inj hm0
     simp only [kk0_0, e21, e23, Y_plain_Node, ↓EVd, isCall, sevalprocAttr]
     all_goals first | done | rfl
   obtain rfl := Option.some.inj hm0
   simp only [kk0_0, e21, Y_plain_Node, ↓EVd, isCall, sevalprocAttr]
   all_goals first | done | rfl
 refine cwp_lp ho0 (fun v2 s => s.T 1 = .loc 0 13 0 0 ∧ s.T 6 = .sl 3 (a0.entries.map encEntry) ∧ s.T 7 = int (a0.entries.length : Int) ∧ s.T 8 = int v2 ∧ s.H 0 = some (.row 68 13 [encNode a0]) ∧ Lq 0 s.nx) ?_ ?_
 · refine TI.here ⟨?_, ?_, ?_, ?_, ?_, ?_⟩
   all_goals try simp only [Y_plain_Node, ↓EVd, isCall, sevalprocAttr]
   all_goals first | omega | exact lq (by omega) | exact nq (by omega) | rfl | (congr 1; omega)
 rintro I0 v2 T0 H0 x1 st0 kk0 hm1 hI0 hO0
 dsimp only [Lq, Nq] at kk0
 simp only [m_plain_Node_b0] at hm1
 rcases iteE hm1 with ⟨e5, hm1⟩ | ⟨e5, hm1⟩
 · obtain ⟨v6, e8, hm1⟩ := ixE encEntry hm1
   rcases iteE hm1 with ⟨e10, hm1⟩ | ⟨e10, hm1⟩
   · obtain rfl := Option.some.inj hm1
     obtain rfl := hO0 _ rfl
     try dsimp only at hm0
     obtain rfl := Option.some.inj hm0
     simp only [kk0, e5, e8, e10, Y_plain_Node, ↓EVd, isCall, sevalprocAttr]
     all_goals first | done | rfl
   rcases iteE hm1 with ⟨e12, hm1⟩ | ⟨e12, hm1⟩
   · obtain rfl := Option.some.inj hm1
     obtain rfl := hO0 _ rfl
     try dsimp only at hm0
     obtain rfl := Option.some.inj hm0
     simp only [kk0, e5, e8, e10, e12, Y_plain_Node, ↓EVd, isCall, sevalprocAttr]
     all_goals first | done | rfl
   rcases iteE hm1 with ⟨e14, hm1⟩ | ⟨e14, hm1⟩
   · obtain ⟨v15, e17, hm1⟩ := ixE encEntry hm1
     rcases iteE hm1 with ⟨e19, hm1⟩ | ⟨e19, hm1⟩
     · obtain rfl := Option.some.inj hm1
       obtain rfl := hO0 _ rfl
       try dsimp only at hm0
       obtain rfl := Option.some.inj hm0
       simp only [kk0, e5, e8, e10, e12, e14, e17, e19, Y_plain_Node, ↓EVd, isCall, sevalprocAttr]
       all_goals first | done | rfl
     obtain rfl := Option.some.inj hm1
     simp only [kk0, e5, e8, e10, e12, e14, e17, e19, Y_plain_Node, ↓EVd, isCall, sevalprocAttr]
     refine TI.here (hI0 _ rfl _ ⟨?_, ?_, ?_, ?_, ?_, ?_⟩)
     all_goals try simp only [kk0, e5, e8, e10, e12, e14, e17, e19, Y_plain_Node, ↓EVd, isCall, sevalprocAttr]
     all_goals first | omega | exact lq (by omega) | exact nq (by omega) | rfl | (congr 1; omega)
   obtain rfl := Option.some.inj hm1
   simp only [kk0, e5, e8, e10, e12, e14, Y_plain_Node, ↓EVd, isCall, sevalprocAttr]
   refine TI.here (hI0 _ rfl _ ⟨?_, ?_, ?_, ?_, ?_, ?_⟩)
   all_goals try simp only [kk0, e5, e8, e10, e12, e14, Y_plain_Node, ↓EVd, isCall, sevalprocAttr]
   all_goals first | omega | exact lq (by omega) | exact nq (by omega) | rfl | (congr 1; omega)
 obtain rfl := Option.some.inj hm1
 simp only [kk0, e5, Y_plain_Node, ↓EVd, isCall, sevalprocAttr]
 refine TI.here (hJ0_0 _ ⟨⟨?_, ?_, ?_⟩, hO0 _ rfl⟩)
 all_goals try simp only [kk0, e5, Y_plain_Node, ↓EVd, isCall, sevalprocAttr]
 all_goals first | omega | exact lq (by omega) | exact nq (by omega) | rfl | (congr 1; omega)
def m_plain_Branch_1 (a0 : Node) : Option (Bool) := (m_plain_Node a0).bind fun v1 => some (!v1)
def Y_plain_Branch_1 := And.intro (And.intro ((@EV)) (And.intro ((@R68)) ((@DEntry)))) (And.intro ((@DOrigin)) (And.intro ((@DAttr)) ((@DNode))))
set_option maxHeartbeats 2000000 in
theorem ok_plain_Branch_1 (a0 : Node) (r : Bool) (hm0 : m_plain_Branch_1 a0 = some r) : Ok Tryz.prog 73 [encNode a0] (bool r) := by
 unfold m_plain_Branch_1 at hm0
 refine okG fc_plain_Branch_1 ?_
 unfold c_plain_Branch_1
 obtain ⟨v1, h2, hm0⟩ := bsE hm0
 simp only [Y_plain_Branch_1, ↓EVd, isCall, sevalprocAttr]
 refine qc (ok_plain_Node _ _ h2) rfl ?_
 obtain rfl := Option.some.inj hm0
 simp only [Y_plain_Branch_1, ↓EVd, isCall, sevalprocAttr]
 all_goals first | done | rfl
def m_plain_Branch (a0 : Branch) (a1 : Int) : Option (Bool) := if (a0.nodes.length : Int) ≤ a1 then (containsM (fun z => m_plain_Branch_1 z ) a0.nodes).bind fun v3 => some (!v3)
 else some false
def Y_plain_Branch := And.intro (And.intro (And.intro ((@EV)) ((@R3))) (And.intro ((@R24)) (And.intro ((@R26)) ((@R68))))) (And.intro (And.intro ((@R82)) (And.intro ((@DBranch)) ((@DEntry)))) (And.intro ((@DOrigin)) (And.intro ((@DAttr)) ((@DNode)))))
set_option maxHeartbeats 2000000 in
theorem ok_plain_Branch (a0 : Branch) (a1 : Int) (r : Bool) (hm0 : m_plain_Branch a0 a1 = some r) : Ok Tryz.prog 42 [encBranch a0, int a1] (bool r) := by
 unfold m_plain_Branch at hm0
 refine okG fc_plain_Branch ?_
 unfold c_plain_Branch
 rcases iteE hm0 with ⟨e2, hm0⟩ | ⟨e2, hm0⟩
 · obtain ⟨v3, h4, hm0⟩ := bsE hm0
   simp only [e2, Y_plain_Branch, ↓EVd, isCall, sevalprocAttr]
   refine qc (containsM_ok fc_slices_ContainsFunc_api_Node_api_Node fc_slices_IndexFunc_api_Node_api_Node elemOfT_24 aggN_68 (fi := []) (ca := []) encNode a0.nodes (fun z => m_plain_Branch_1 z ) _ h4 (fun z b hz => ok_plain_Branch_1 z  b hz) (fun z => by simp only [CLO]) rfl (by simp only [CLO]) (fun z => by simp only [Y_plain_Branch, ↓EVd, isCall, sevalprocAttr])) rfl ?_
   obtain rfl := Option.some.inj hm0
   simp only [e2, Y_plain_Branch, ↓EVd, isCall, sevalprocAttr]
   all_goals first | done | rfl
 obtain rfl := Option.some.inj hm0
 simp only [e2, Y_plain_Branch, ↓EVd, isCall, sevalprocAttr]
 all_goals first | done | rfl
def m_plain_Stack_1 (a0 : Branch) (a1 : Int) : Option (Bool) := (m_plain_Branch a0 a1).bind fun v1 => some (!v1)
def Y_plain_Stack_1 := And.intro (And.intro (And.intro ((@EV)) ((@R3))) (And.intro ((@R26)) ((@DBranch)))) (And.intro (And.intro ((@DEntry)) ((@DOrigin))) (And.intro ((@DAttr)) ((@DNode))))
set_option maxHeartbeats 2000000 in
theorem ok_plain_Stack_1 (a0 : Branch) (a1 : Int) (r : Bool) (hm0 : m_plain_Stack_1 a0 a1 = some r) : Ok Tryz.prog 44 [encBranch a0, .ptr (int a1) 0] (bool r) := by
 unfold m_plain_Stack_1 at hm0
 refine okG fc_plain_Stack_1 ?_
 unfold c_plain_Stack_1
 obtain ⟨v1, h2, hm0⟩ := bsE hm0
 simp only [Y_plain_Stack_1, ↓EVd, isCall, sevalprocAttr]
 refine qc (ok_plain_Branch _ _ _ h2) rfl ?_
 obtain rfl := Option.some.inj hm0
 simp only [Y_plain_Stack_1, ↓EVd, isCall, sevalprocAttr]
 all_goals first | done | rfl
def m_plain_Stack (a0 : Stack) (a1 : Int) : Option (Bool) := if (a0.lowers.length : Int) ≤ 3 then (m_plain_Branch a0.upper a1).bind fun v3 => if v3 = true then (containsM (fun z => m_plain_Stack_1 z a1) a0.lowers).bind fun v7 => some (!v7)
 else some false
 else some false
def Y_plain_Stack := And.intro (And.intro (And.intro ((@EV)) (And.intro ((@R3)) ((@R26)))) (And.intro ((@R27)) (And.intro ((@R29)) ((@R86))))) (And.intro (And.intro ((@DGeo)) (And.intro ((@DBranch)) ((@DStack)))) (And.intro (And.intro ((@DEntry)) ((@DOrigin))) (And.intro ((@DAttr)) ((@DNode)))))
set_option maxHeartbeats 2000000 in
theorem ok_plain_Stack (a0 : Stack) (a1 : Int) (r : Bool) (hm0 : m_plain_Stack a0 a1 = some r) : Ok Tryz.prog 8 [encStack a0, int a1] (bool r) := by
 unfold m_plain_Stack at hm0
 refine okG fc_plain_Stack ?_
 unfold c_plain_Stack
 rcases iteE hm0 with ⟨e2, hm0⟩ | ⟨e2, hm0⟩
 · obtain ⟨v3, h4, hm0⟩ := bsE hm0
   simp only [e2, Y_plain_Stack, ↓EVd, isCall, sevalprocAttr]
   refine qc (ok_plain_Branch _ _ _ h4) rfl ?_
   rcases itbE hm0 with ⟨e6, hm0⟩ | ⟨e6, hm0⟩
   · obtain ⟨v7, h8, hm0⟩ := bsE hm0
     simp only [e2, e6, Y_plain_Stack, ↓EVd, isCall, sevalprocAttr]
     refine qcb (containsM_ok fc_slices_ContainsFunc_api_Branch_api_Branch fc_slices_IndexFunc_api_Branch_api_Branch elemOfT_27 aggN_26 (fi := []) (ca := [.ptr (int a1) 0]) encBranch a0.lowers (fun z => m_plain_Stack_1 z a1) _ h8 (fun z b hz => ok_plain_Stack_1 z a1 b hz) (fun z => by simp only [CLO]) rfl (by simp only [CLO]) (fun z => by simp only [Y_plain_Stack, ↓EVd, isCall, sevalprocAttr])) rfl (by simp only [e2, e6, FZ, CLO, Y_plain_Stack, ↓EVd, isCall, sevalprocAttr]) ?_
     obtain rfl := Option.some.inj hm0
     simp only [e2, e6, Y_plain_Stack, ↓EVd, isCall, sevalprocAttr]
     all_goals first | done | rfl
   obtain rfl := Option.some.inj hm0
   simp only [e2, e6, Y_plain_Stack, ↓EVd, isCall, sevalprocAttr]
   all_goals first | done | rfl
 obtain rfl := Option.some.inj hm0
 simp only [e2, Y_plain_Stack, ↓EVd, isCall, sevalprocAttr]
 all_goals first | done | rfl
end Go.Proofs.YtapdjibjnfeipaaGreatDoor.AL

