/- What any node of any stack should say of copies, and which say otherwise, is what the document says: part 36 of 45. -/
import Derived.Test.YtlgikchfddhocaaA35
set_option linter.all false
/- Models of functions, and that the functions are as their models: written by gen.py. -/
set_option linter.all false
set_option maxRecDepth 100000
namespace Go.Proofs.Ytlgikchfddhocaa.AL
open Go Go.Proofs
def m_ref03_letter (a0 : Int) : Option (Bool) := if 97 ≤ a0 then if a0 ≤ 122 then some true
 else if 48 ≤ a0 then if a0 ≤ 57 then some true
 else if a0 = 46 then some true
 else if a0 = 95 then some true
 else if a0 = 45 then some true
 else some false
 else if a0 = 46 then some true
 else if a0 = 95 then some true
 else if a0 = 45 then some true
 else some false
 else if 48 ≤ a0 then if a0 ≤ 57 then some true
 else if a0 = 46 then some true
 else if a0 = 95 then some true
 else if a0 = 45 then some true
 else some false
 else if a0 = 46 then some true
 else if a0 = 95 then some true
 else if a0 = 45 then some true
 else some false
def Y_ref03_letter := And.intro ((@EV)) ((@R5))
set_option maxHeartbeats 2000000 in
theorem ok_ref03_letter (a0 : Int) (r : Bool) (hm0 : m_ref03_letter a0 = some r) : Ok Try.prog 35 [ik .u8 a0] (bool r) := by
 unfold m_ref03_letter at hm0
 refine okG fc_ref03_letter ?_
 unfold c_ref03_letter
 rcases iteE hm0 with ⟨e2, hm0⟩ | ⟨e2, hm0⟩
 · rcases iteE hm0 with ⟨e4, hm0⟩ | ⟨e4, hm0⟩
   · obtain rfl := Option.some.inj hm0
     simp only [e2, e4, Y_ref03_letter, ↓EVd, isCall, sevalprocAttr]
     all_goals first | done | rfl
   rcases iteE hm0 with ⟨e6, hm0⟩ | ⟨e6, hm0⟩
   · rcases iteE hm0 with ⟨e8, hm0⟩ | ⟨e8, hm0⟩
     · obtain rfl := Option.some.inj hm0
       simp only [e2, e4, e6, e8, Y_ref03_letter, ↓EVd, isCall, sevalprocAttr]
       all_goals first | done | rfl
     rcases iteE hm0 with ⟨e10, hm0⟩ | ⟨e10, hm0⟩
     · obtain rfl := Option.some.inj hm0
       simp only [e2, e4, e6, e8, e10, Y_ref03_letter, ↓EVd, isCall, sevalprocAttr]
       all_goals first | done | rfl
     rcases iteE hm0 with ⟨e12, hm0⟩ | ⟨e12, hm0⟩
     · obtain rfl := Option.some.inj hm0
       simp only [e2, e4, e6, e8, e10, e12, Y_ref03_letter, ↓EVd, isCall, sevalprocAttr]
       all_goals first | done | rfl
     rcases iteE hm0 with ⟨e14, hm0⟩ | ⟨e14, hm0⟩
     · obtain rfl := Option.some.inj hm0
       simp only [e2, e4, e6, e8, e10, e12, e14, Y_ref03_letter, ↓EVd, isCall, sevalprocAttr]
       all_goals first | done | rfl
     obtain rfl := Option.some.inj hm0
     simp only [e2, e4, e6, e8, e10, e12, e14, Y_ref03_letter, ↓EVd, isCall, sevalprocAttr]
     all_goals first | done | rfl
   rcases iteE hm0 with ⟨e16, hm0⟩ | ⟨e16, hm0⟩
   · obtain rfl := Option.some.inj hm0
     simp only [e2, e4, e6, e16, Y_ref03_letter, ↓EVd, isCall, sevalprocAttr]
     all_goals first | done | rfl
   rcases iteE hm0 with ⟨e18, hm0⟩ | ⟨e18, hm0⟩
   · obtain rfl := Option.some.inj hm0
     simp only [e2, e4, e6, e16, e18, Y_ref03_letter, ↓EVd, isCall, sevalprocAttr]
     all_goals first | done | rfl
   rcases iteE hm0 with ⟨e20, hm0⟩ | ⟨e20, hm0⟩
   · obtain rfl := Option.some.inj hm0
     simp only [e2, e4, e6, e16, e18, e20, Y_ref03_letter, ↓EVd, isCall, sevalprocAttr]
     all_goals first | done | rfl
   obtain rfl := Option.some.inj hm0
   simp only [e2, e4, e6, e16, e18, e20, Y_ref03_letter, ↓EVd, isCall, sevalprocAttr]
   all_goals first | done | rfl
 rcases iteE hm0 with ⟨e22, hm0⟩ | ⟨e22, hm0⟩
 · rcases iteE hm0 with ⟨e24, hm0⟩ | ⟨e24, hm0⟩
   · obtain rfl := Option.some.inj hm0
     simp only [e2, e22, e24, Y_ref03_letter, ↓EVd, isCall, sevalprocAttr]
     all_goals first | done | rfl
   rcases iteE hm0 with ⟨e26, hm0⟩ | ⟨e26, hm0⟩
   · obtain rfl := Option.some.inj hm0
     simp only [e2, e22, e24, e26, Y_ref03_letter, ↓EVd, isCall, sevalprocAttr]
     all_goals first | done | rfl
   rcases iteE hm0 with ⟨e28, hm0⟩ | ⟨e28, hm0⟩
   · obtain rfl := Option.some.inj hm0
     simp only [e2, e22, e24, e26, e28, Y_ref03_letter, ↓EVd, isCall, sevalprocAttr]
     all_goals first | done | rfl
   rcases iteE hm0 with ⟨e30, hm0⟩ | ⟨e30, hm0⟩
   · obtain rfl := Option.some.inj hm0
     simp only [e2, e22, e24, e26, e28, e30, Y_ref03_letter, ↓EVd, isCall, sevalprocAttr]
     all_goals first | done | rfl
   obtain rfl := Option.some.inj hm0
   simp only [e2, e22, e24, e26, e28, e30, Y_ref03_letter, ↓EVd, isCall, sevalprocAttr]
   all_goals first | done | rfl
 rcases iteE hm0 with ⟨e32, hm0⟩ | ⟨e32, hm0⟩
 · obtain rfl := Option.some.inj hm0
   simp only [e2, e22, e32, Y_ref03_letter, ↓EVd, isCall, sevalprocAttr]
   all_goals first | done | rfl
 rcases iteE hm0 with ⟨e34, hm0⟩ | ⟨e34, hm0⟩
 · obtain rfl := Option.some.inj hm0
   simp only [e2, e22, e32, e34, Y_ref03_letter, ↓EVd, isCall, sevalprocAttr]
   all_goals first | done | rfl
 rcases iteE hm0 with ⟨e36, hm0⟩ | ⟨e36, hm0⟩
 · obtain rfl := Option.some.inj hm0
   simp only [e2, e22, e32, e34, e36, Y_ref03_letter, ↓EVd, isCall, sevalprocAttr]
   all_goals first | done | rfl
 obtain rfl := Option.some.inj hm0
 simp only [e2, e22, e32, e34, e36, Y_ref03_letter, ↓EVd, isCall, sevalprocAttr]
 all_goals first | done | rfl
def m_ref03_Right_b0 (a0 : ByteArray) : Int → Option (St (Int) ((Unit) ⊕ (Bool)))
 | v10 => if v10 < (a0.size : Int) then (ixB a0 v10).bind fun v14 => (m_ref03_letter (v14.toNat : Int)).bind fun v17 => if (!v17) = true then some (.out (.inr false))
 else some (.nx (wr (v10 + 1)))
 else some (.out (.inl ()))
def m_ref03_Right (a0 : ByteArray) : Option (Bool) := if (a0.size : Int) < 1 then some false
 else if 12 < (a0.size : Int) then some false
 else if a0 = (ByteArray.mk #[46]) then some false
 else if a0 = (ByteArray.mk #[46, 46]) then some false
 else (iter (m_ref03_Right_b0 a0) big 0).bind fun o => (match o with
 | (.inl _) => some true
 | (.inr r) => some r)
def Y_ref03_Right := And.intro (And.intro ((@EV)) ((@R3))) (And.intro ((@R5)) ((@R9)))
set_option maxHeartbeats 2000000 in
theorem ok_ref03_Right (a0 : ByteArray) (r : Bool) (hm0 : m_ref03_Right a0 = some r) : Ok Try.prog 10 [str a0] (bool r) := by
 unfold m_ref03_Right at hm0
 refine okG fc_ref03_Right ?_
 unfold c_ref03_Right
 rcases iteE hm0 with ⟨e2, hm0⟩ | ⟨e2, hm0⟩
 · obtain rfl := Option.some.inj hm0
   simp only [e2, Y_ref03_Right, ↓EVd, isCall, sevalprocAttr]
   all_goals first | done | rfl
 rcases iteE hm0 with ⟨e4, hm0⟩ | ⟨e4, hm0⟩
 · obtain rfl := Option.some.inj hm0
   simp only [e2, e4, Y_ref03_Right, ↓EVd, isCall, sevalprocAttr]
   all_goals first | done | rfl
 rcases iteE hm0 with ⟨e6, hm0⟩ | ⟨e6, hm0⟩
 · obtain rfl := Option.some.inj hm0
   simp only [e2, e4, e6, Y_ref03_Right, ↓EVd, isCall, sevalprocAttr]
   all_goals first | done | rfl
 rcases iteE hm0 with ⟨e8, hm0⟩ | ⟨e8, hm0⟩
 · obtain rfl := Option.some.inj hm0
   simp only [e2, e4, e6, e8, Y_ref03_Right, ↓EVd, isCall, sevalprocAttr]
   all_goals first | done | rfl
 obtain ⟨o0, ho0, hm0⟩ := bsE hm0
 simp only [e2, e4, e6, e8, Y_ref03_Right, ↓EVd, isCall, sevalprocAttr]
 refine cwp_cx 0 (fun s => (.inl ()) = o0) ?_ fun J0_0 hJ0_0 => ?_
 · rintro T0 H0 x11 rfl
   try dsimp only at hm0
   obtain rfl := Option.some.inj hm0
   simp only [e2, e4, e6, e8, Y_ref03_Right, ↓EVd, isCall, sevalprocAttr]
   all_goals first | done | rfl
 refine cwp_lp ho0 (fun v10 s => s.T 0 = str a0 ∧ s.T 3 = int v10) ?_ ?_
 · refine TI.here ⟨?_, ?_⟩
   all_goals try simp only [e2, e4, e6, e8, Y_ref03_Right, ↓EVd, isCall, sevalprocAttr]
   all_goals first | omega | exact lq (by omega) | exact nq (by omega) | rfl | (congr 1; omega)
 rintro I0 v10 T0 H0 x9 st0 kk0 hm1 hI0 hO0
 dsimp only [Lq, Nq] at kk0
 simp only [m_ref03_Right_b0] at hm1
 rcases iteE hm1 with ⟨e13, hm1⟩ | ⟨e13, hm1⟩
 · obtain ⟨v14, e16, hm1⟩ := ixBE hm1
   obtain ⟨v17, h18, hm1⟩ := bsE hm1
   simp only [kk0, e2, e4, e6, e8, e13, e16, Y_ref03_Right, ↓EVd, isCall, sevalprocAttr]
   refine qc (ok_ref03_letter _ _ h18) rfl ?_
   rcases itbE hm1 with ⟨e20, hm1⟩ | ⟨e20, hm1⟩
   · obtain rfl := Option.some.inj hm1
     obtain rfl := hO0 _ rfl
     try dsimp only at hm0
     obtain rfl := Option.some.inj hm0
     simp only [kk0, e2, e4, e6, e8, e13, e16, e20, Y_ref03_Right, ↓EVd, isCall, sevalprocAttr]
     all_goals first | done | rfl
   obtain rfl := Option.some.inj hm1
   simp only [kk0, e2, e4, e6, e8, e13, e16, e20, Y_ref03_Right, ↓EVd, isCall, sevalprocAttr]
   refine TI.here (hI0 _ rfl _ ⟨?_, ?_⟩)
   all_goals try simp only [kk0, e2, e4, e6, e8, e13, e16, e20, Y_ref03_Right, ↓EVd, isCall, sevalprocAttr]
   all_goals first | omega | exact lq (by omega) | exact nq (by omega) | rfl | (congr 1; omega)
 obtain rfl := Option.some.inj hm1
 simp only [kk0, e2, e4, e6, e8, e13, Y_ref03_Right, ↓EVd, isCall, sevalprocAttr]
 refine TI.here (hJ0_0 _ (hO0 _ rfl))
def m_plain_odd (a0 : Entry) : Option (Bool) := (m_ref03_Right a0.name).bind fun v1 => some (!v1)
def Y_plain_odd := And.intro (And.intro ((@EV)) ((@R9))) (And.intro ((@R83)) ((@DEntry)))
set_option maxHeartbeats 2000000 in
theorem ok_plain_odd (a0 : Entry) (r : Bool) (hm0 : m_plain_odd a0 = some r) : Ok Try.prog 78 [encEntry a0] (bool r) := by
 unfold m_plain_odd at hm0
 refine okG fc_plain_odd ?_
 unfold c_plain_odd
 obtain ⟨v1, h2, hm0⟩ := bsE hm0
 simp only [Y_plain_odd, ↓EVd, isCall, sevalprocAttr]
 refine qc (ok_ref03_Right _ _ h2) rfl ?_
 obtain rfl := Option.some.inj hm0
 simp only [Y_plain_odd, ↓EVd, isCall, sevalprocAttr]
 all_goals first | done | rfl
def m_plain_Node_b0 (a0 : Node) : Int → Option (St (Int) ((Unit) ⊕ (Bool)))
 | v2 => if v2 < (a0.entries.length : Int) then (ix a0.entries v2).bind fun v6 => if v6.slot < 0 then some (.out (.inr false))
 else if 16 ≤ v6.slot then some (.out (.inr false))
 else if 0 < v2 then (ix a0.entries (wr (v2 - 1))).bind fun v15 => if v6.slot ≤ v15.slot then some (.out (.inr false))
 else some (.nx (wr (v2 + 1)))
 else some (.nx (wr (v2 + 1)))
 else some (.out (.inl ()))
def m_plain_Node (a0 : Node) : Option (Bool) := (iter (m_plain_Node_b0 a0) big 0).bind fun o => (match o with
 | (.inl _) => if 0 ≤ a0.kind then if a0.kind ≤ 4 then if (-9007199254740992) ≤ a0.nlink then if a0.nlink ≤ 9007199254740992 then if 0 ≤ a0.attr.has then if a0.attr.has ≤ 31 then if (a0.data.length : Int) ≤ 300 then if (a0.entries.length : Int) ≤ 16 then if (a0.attr.redirect.size : Int) ≤ 40 then (containsM (fun z => m_plain_odd z ) a0.entries).bind fun v38 => some (!v38)
 else some false
 else some false
 else some false
 else some false
 else some false
 else some false
 else some false
 else some false
 else some false
 | (.inr r) => some r)
def Y_plain_Node := And.intro (And.intro (And.intro ((@EV)) (And.intro ((@R3)) ((@R5)))) (And.intro (And.intro ((@R9)) ((@R25))) (And.intro ((@R67)) ((@R71))))) (And.intro (And.intro (And.intro ((@R73)) ((@R83))) (And.intro ((@R110)) ((@DOrigin)))) (And.intro (And.intro ((@DAttr)) ((@DNode))) (And.intro ((@DEntry)) ((@mixed)))))
set_option maxHeartbeats 2000000 in
theorem ok_plain_Node (a0 : Node) (r : Bool) (hm0 : m_plain_Node a0 = some r) : Ok Try.prog 60 [encNode a0] (bool r) := by
 unfold m_plain_Node at hm0
 refine okG fc_plain_Node ?_
 unfold c_plain_Node
 obtain ⟨o0, ho0, hm0⟩ := bsE hm0
 simp only [Y_plain_Node, ↓EVd, isCall, sevalprocAttr]
 refine cwp_cx 0 (fun s => (s.T 1 = .loc 0 13 0 0 ∧ s.H 0 = some (.row 73 13 [encNode a0]) ∧ Lq 0 s.nx) ∧ (.inl ()) = o0) ?_ fun J0_0 hJ0_0 => ?_
 · rintro T0 H0 x3 ⟨kk0_0, rfl⟩
   dsimp only [Lq, Nq] at kk0_0
   try dsimp only at hm0
   rcases iteE hm0 with ⟨e21, hm0⟩ | ⟨e21, hm0⟩
   · rcases iteE hm0 with ⟨e23, hm0⟩ | ⟨e23, hm0⟩
     · rcases iteE hm0 with ⟨e25, hm0⟩ | ⟨e25, hm0⟩
       · rcases iteE hm0 with ⟨e27, hm0⟩ | ⟨e27, hm0⟩
         · rcases iteE hm0 with ⟨e29, hm0⟩ | ⟨e29, hm0⟩
           · rcases iteE hm0 with ⟨e31, hm0⟩ | ⟨e31, hm0⟩
             · rcases iteE hm0 with ⟨e33, hm0⟩ | ⟨e33, hm0⟩
               · rcases iteE hm0 with ⟨e35, hm0⟩ | ⟨e35, hm0⟩
                 · have g40 := And.intro (And.intro (And.intro ((e21)) ((e23))) (And.intro ((e25)) ((e27)))) (And.intro (And.intro ((e29)) ((e31))) (And.intro ((e33)) ((e35))))
                   rcases iteE hm0 with ⟨e37, hm0⟩ | ⟨e37, hm0⟩
                   · obtain ⟨v38, h39, hm0⟩ := bsE hm0
                     simp only [kk0_0, g40, e37, Y_plain_Node, ↓EVd, isCall, sevalprocAttr]
                     refine qc (containsM_ok fc_slices_ContainsFunc_api_Entry_api_Entry fc_slices_IndexFunc_api_Entry_api_Entry elemOfT_67 aggN_83 (fi := []) (ca := []) encEntry a0.entries (fun z => m_plain_odd z ) _ h39 (fun z b hz => ok_plain_odd z  b hz) (fun z => by simp only [CLO]) rfl (by simp only [CLO]) (fun z => by simp only [Y_plain_Node, ↓EVd, isCall, sevalprocAttr])) rfl ?_
                     obtain rfl := Option.some.inj hm0
                     simp only [kk0_0, g40, e37, Y_plain_Node, ↓EVd, isCall, sevalprocAttr]
                     all_goals first | done | rfl
                   obtain rfl := Option.some.inj hm0
                   simp only [kk0_0, g40, e37, Y_plain_Node, ↓EVd, isCall, sevalprocAttr]
                   all_goals first | done | rfl
                 obtain rfl := Option.some.inj hm0
                 simp only [kk0_0, e21, e23, e25, e27, e29, e31, e33, e35, Y_plain_Node, ↓EVd, isCall, sevalprocAttr]
                 all_goals first | done | rfl
               obtain rfl := Option.some.inj hm0
               simp only [kk0_0, e21, e23, e25, e27, e29, e31, e33, Y_plain_Node, ↓EVd, isCall, sevalprocAttr]
               all_goals first | done | rfl
             obtain rfl := Option.some.inj hm0
             simp only [kk0_0, e21, e23, e25, e27, e29, e31, Y_plain_Node, ↓EVd, isCall, sevalprocAttr]
             all_goals first | done | rfl
           obtain rfl := Option.some.inj hm0
           simp only [kk0_0, e21, e23, e25, e27, e29, Y_plain_Node, ↓EVd, isCall, sevalprocAttr]
           all_goals first | done | rfl
         obtain rfl := Option.some.inj hm0
         simp only [kk0_0, e21, e23, e25, e27, Y_plain_Node, ↓EVd, isCall, sevalprocAttr]
         all_goals first | done | rfl
       obtain rfl := Option.some.inj hm0
       simp only [kk0_0, e21, e23, e25, Y_plain_Node, ↓EVd, isCall, sevalprocAttr]
       all_goals first | done | rfl
     obtain rfl := Option.some.inj hm0
     simp only [kk0_0, e21, e23, Y_plain_Node, ↓EVd, isCall, sevalprocAttr]
     all_goals first | done | rfl
   obtain rfl := Option.some.inj hm0
   simp only [kk0_0, e21, Y_plain_Node, ↓EVd, isCall, sevalprocAttr]
   all_goals first | done | rfl
 refine cwp_lp ho0 (fun v2 s => s.T 1 = .loc 0 13 0 0 ∧ s.T 6 = .sl 3 (a0.entries.map encEntry) ∧ s.T 7 = int (a0.entries.length : Int) ∧ s.T 8 = int v2 ∧ s.H 0 = some (.row 73 13 [encNode a0]) ∧ Lq 0 s.nx) ?_ ?_
 · refine TI.here ⟨?_, ?_, ?_, ?_, ?_, ?_⟩
   all_goals try simp only [Y_plain_Node, ↓EVd, isCall, sevalprocAttr]
   all_goals first | omega | exact lq (by omega) | exact nq (by omega) | rfl | (congr 1; omega)
 rintro I0 v2 T0 H0 x1 st0 kk0 hm1 hI0 hO0
 dsimp only [Lq, Nq] at kk0
 simp only [m_plain_Node_b0] at hm1
 rcases iteE hm1 with ⟨e5, hm1⟩ | ⟨e5, hm1⟩
 · obtain ⟨v6, e8, hm1⟩ := ixE encEntry hm1
   rcases iteE hm1 with ⟨e10, hm1⟩ | ⟨e10, hm1⟩
   · obtain rfl := Option.some.inj hm1
     obtain rfl := hO0 _ rfl
     try dsimp only at hm0
     obtain rfl := Option.some.inj hm0
     simp only [kk0, e5, e8, e10, Y_plain_Node, ↓EVd, isCall, sevalprocAttr]
     all_goals first | done | rfl
   rcases iteE hm1 with ⟨e12, hm1⟩ | ⟨e12, hm1⟩
   · obtain rfl := Option.some.inj hm1
     obtain rfl := hO0 _ rfl
     try dsimp only at hm0
     obtain rfl := Option.some.inj hm0
     simp only [kk0, e5, e8, e10, e12, Y_plain_Node, ↓EVd, isCall, sevalprocAttr]
     all_goals first | done | rfl
   rcases iteE hm1 with ⟨e14, hm1⟩ | ⟨e14, hm1⟩
   · obtain ⟨v15, e17, hm1⟩ := ixE encEntry hm1
     rcases iteE hm1 with ⟨e19, hm1⟩ | ⟨e19, hm1⟩
     · obtain rfl := Option.some.inj hm1
       obtain rfl := hO0 _ rfl
       try dsimp only at hm0
       obtain rfl := Option.some.inj hm0
       simp only [kk0, e5, e8, e10, e12, e14, e17, e19, Y_plain_Node, ↓EVd, isCall, sevalprocAttr]
       all_goals first | done | rfl
     obtain rfl := Option.some.inj hm1
     simp only [kk0, e5, e8, e10, e12, e14, e17, e19, Y_plain_Node, ↓EVd, isCall, sevalprocAttr]
     refine TI.here (hI0 _ rfl _ ⟨?_, ?_, ?_, ?_, ?_, ?_⟩)
     all_goals try simp only [kk0, e5, e8, e10, e12, e14, e17, e19, Y_plain_Node, ↓EVd, isCall, sevalprocAttr]
     all_goals first | omega | exact lq (by omega) | exact nq (by omega) | rfl | (congr 1; omega)
   obtain rfl := Option.some.inj hm1
   simp only [kk0, e5, e8, e10, e12, e14, Y_plain_Node, ↓EVd, isCall, sevalprocAttr]
   refine TI.here (hI0 _ rfl _ ⟨?_, ?_, ?_, ?_, ?_, ?_⟩)
   all_goals try simp only [kk0, e5, e8, e10, e12, e14, Y_plain_Node, ↓EVd, isCall, sevalprocAttr]
   all_goals first | omega | exact lq (by omega) | exact nq (by omega) | rfl | (congr 1; omega)
 obtain rfl := Option.some.inj hm1
 simp only [kk0, e5, Y_plain_Node, ↓EVd, isCall, sevalprocAttr]
 refine TI.here (hJ0_0 _ ⟨⟨?_, ?_, ?_⟩, hO0 _ rfl⟩)
 all_goals try simp only [kk0, e5, Y_plain_Node, ↓EVd, isCall, sevalprocAttr]
 all_goals first | omega | exact lq (by omega) | exact nq (by omega) | rfl | (congr 1; omega)
def m_plain_Branch_1 (a0 : Node) : Option (Bool) := (m_plain_Node a0).bind fun v1 => some (!v1)
def Y_plain_Branch_1 := And.intro (And.intro ((@EV)) (And.intro ((@R73)) ((@DOrigin)))) (And.intro ((@DAttr)) (And.intro ((@DNode)) ((@DEntry))))
set_option maxHeartbeats 2000000 in
theorem ok_plain_Branch_1 (a0 : Node) (r : Bool) (hm0 : m_plain_Branch_1 a0 = some r) : Ok Try.prog 59 [encNode a0] (bool r) := by
 unfold m_plain_Branch_1 at hm0
 refine okG fc_plain_Branch_1 ?_
 unfold c_plain_Branch_1
 obtain ⟨v1, h2, hm0⟩ := bsE hm0
 simp only [Y_plain_Branch_1, ↓EVd, isCall, sevalprocAttr]
 refine qc (ok_plain_Node _ _ h2) rfl ?_
 obtain rfl := Option.some.inj hm0
 simp only [Y_plain_Branch_1, ↓EVd, isCall, sevalprocAttr]
 all_goals first | done | rfl
def m_plain_Branch (a0 : Branch) (a1 : Int) : Option (Bool) := if (a0.nodes.length : Int) ≤ a1 then (containsM (fun z => m_plain_Branch_1 z ) a0.nodes).bind fun v3 => some (!v3)
 else some false
def Y_plain_Branch := And.intro (And.intro (And.intro ((@EV)) ((@R3))) (And.intro ((@R36)) (And.intro ((@R38)) ((@R73))))) (And.intro (And.intro ((@R76)) (And.intro ((@DBranch)) ((@DOrigin)))) (And.intro ((@DAttr)) (And.intro ((@DNode)) ((@DEntry)))))
set_option maxHeartbeats 2000000 in
theorem ok_plain_Branch (a0 : Branch) (a1 : Int) (r : Bool) (hm0 : m_plain_Branch a0 a1 = some r) : Ok Try.prog 40 [encBranch a0, int a1] (bool r) := by
 unfold m_plain_Branch at hm0
 refine okG fc_plain_Branch ?_
 unfold c_plain_Branch
 rcases iteE hm0 with ⟨e2, hm0⟩ | ⟨e2, hm0⟩
 · obtain ⟨v3, h4, hm0⟩ := bsE hm0
   simp only [e2, Y_plain_Branch, ↓EVd, isCall, sevalprocAttr]
   refine qc (containsM_ok fc_slices_ContainsFunc_api_Node_api_Node fc_slices_IndexFunc_api_Node_api_Node elemOfT_36 aggN_73 (fi := []) (ca := []) encNode a0.nodes (fun z => m_plain_Branch_1 z ) _ h4 (fun z b hz => ok_plain_Branch_1 z  b hz) (fun z => by simp only [CLO]) rfl (by simp only [CLO]) (fun z => by simp only [Y_plain_Branch, ↓EVd, isCall, sevalprocAttr])) rfl ?_
   obtain rfl := Option.some.inj hm0
   simp only [e2, Y_plain_Branch, ↓EVd, isCall, sevalprocAttr]
   all_goals first | done | rfl
 obtain rfl := Option.some.inj hm0
 simp only [e2, Y_plain_Branch, ↓EVd, isCall, sevalprocAttr]
 all_goals first | done | rfl
def m_plain_Stack_1 (a0 : Branch) (a1 : Int) : Option (Bool) := (m_plain_Branch a0 a1).bind fun v1 => some (!v1)
def Y_plain_Stack_1 := And.intro (And.intro (And.intro ((@EV)) ((@R3))) (And.intro ((@R38)) ((@DBranch)))) (And.intro (And.intro ((@DOrigin)) ((@DAttr))) (And.intro ((@DNode)) ((@DEntry))))
set_option maxHeartbeats 2000000 in
theorem ok_plain_Stack_1 (a0 : Branch) (a1 : Int) (r : Bool) (hm0 : m_plain_Stack_1 a0 a1 = some r) : Ok Try.prog 42 [encBranch a0, .ptr (int a1) 0] (bool r) := by
 unfold m_plain_Stack_1 at hm0
 refine okG fc_plain_Stack_1 ?_
 unfold c_plain_Stack_1
 obtain ⟨v1, h2, hm0⟩ := bsE hm0
 simp only [Y_plain_Stack_1, ↓EVd, isCall, sevalprocAttr]
 refine qc (ok_plain_Branch _ _ _ h2) rfl ?_
 obtain rfl := Option.some.inj hm0
 simp only [Y_plain_Stack_1, ↓EVd, isCall, sevalprocAttr]
 all_goals first | done | rfl
def m_plain_Stack (a0 : Stack) (a1 : Int) : Option (Bool) := if (a0.lowers.length : Int) ≤ 3 then (m_plain_Branch a0.upper a1).bind fun v3 => if v3 = true then (containsM (fun z => m_plain_Stack_1 z a1) a0.lowers).bind fun v7 => some (!v7)
 else some false
 else some false
def Y_plain_Stack := And.intro (And.intro (And.intro ((@EV)) (And.intro ((@R3)) ((@R38)))) (And.intro ((@R39)) (And.intro ((@R41)) ((@R64))))) (And.intro (And.intro ((@DGeo)) (And.intro ((@DBranch)) ((@DStack)))) (And.intro (And.intro ((@DOrigin)) ((@DAttr))) (And.intro ((@DNode)) ((@DEntry)))))
set_option maxHeartbeats 2000000 in
theorem ok_plain_Stack (a0 : Stack) (a1 : Int) (r : Bool) (hm0 : m_plain_Stack a0 a1 = some r) : Ok Try.prog 20 [encStack a0, int a1] (bool r) := by
 unfold m_plain_Stack at hm0
 refine okG fc_plain_Stack ?_
 unfold c_plain_Stack
 rcases iteE hm0 with ⟨e2, hm0⟩ | ⟨e2, hm0⟩
 · obtain ⟨v3, h4, hm0⟩ := bsE hm0
   simp only [e2, Y_plain_Stack, ↓EVd, isCall, sevalprocAttr]
   refine qc (ok_plain_Branch _ _ _ h4) rfl ?_
   rcases itbE hm0 with ⟨e6, hm0⟩ | ⟨e6, hm0⟩
   · obtain ⟨v7, h8, hm0⟩ := bsE hm0
     simp only [e2, e6, Y_plain_Stack, ↓EVd, isCall, sevalprocAttr]
     refine qcb (containsM_ok fc_slices_ContainsFunc_api_Branch_api_Branch fc_slices_IndexFunc_api_Branch_api_Branch elemOfT_39 aggN_38 (fi := []) (ca := [.ptr (int a1) 0]) encBranch a0.lowers (fun z => m_plain_Stack_1 z a1) _ h8 (fun z b hz => ok_plain_Stack_1 z a1 b hz) (fun z => by simp only [CLO]) rfl (by simp only [CLO]) (fun z => by simp only [Y_plain_Stack, ↓EVd, isCall, sevalprocAttr])) rfl (by simp only [e2, e6, FZ, CLO, Y_plain_Stack, ↓EVd, isCall, sevalprocAttr]) ?_
     obtain rfl := Option.some.inj hm0
     simp only [e2, e6, Y_plain_Stack, ↓EVd, isCall, sevalprocAttr]
     all_goals first | done | rfl
   obtain rfl := Option.some.inj hm0
   simp only [e2, e6, Y_plain_Stack, ↓EVd, isCall, sevalprocAttr]
   all_goals first | done | rfl
 obtain rfl := Option.some.inj hm0
 simp only [e2, Y_plain_Stack, ↓EVd, isCall, sevalprocAttr]
 all_goals first | done | rfl
def m_ref13_At (a0 : Branch) (a1 : Int) : Option (Node) := if a1 < 1 then some (⟨0, 0, 0, 0, [], [], (⟨0, 0, noBytes, (⟨0, 0, 0⟩ : Origin), 0⟩ : Attr)⟩ : Node)
 else if (a0.nodes.length : Int) < a1 then some (⟨0, 0, 0, 0, [], [], (⟨0, 0, noBytes, (⟨0, 0, 0⟩ : Origin), 0⟩ : Attr)⟩ : Node)
 else (ix a0.nodes (wr (a1 - 1))).bind fun v5 => some v5
def Y_ref13_At := And.intro (And.intro (And.intro ((@EV)) ((@R3))) (And.intro ((@R36)) (And.intro ((@R38)) ((@R73))))) (And.intro (And.intro ((@DBranch)) ((@DOrigin))) (And.intro ((@DAttr)) (And.intro ((@DNode)) ((@DEntry)))))
set_option maxHeartbeats 2000000 in
theorem ok_ref13_At (a0 : Branch) (a1 : Int) (r : Node) (hm0 : m_ref13_At a0 a1 = some r) : Ok Try.prog 63 [encBranch a0, int a1] (encNode r) := by
 unfold m_ref13_At at hm0
 refine okG fc_ref13_At ?_
 unfold c_ref13_At
 rcases iteE hm0 with ⟨e2, hm0⟩ | ⟨e2, hm0⟩
 · obtain rfl := Option.some.inj hm0
   simp only [e2, Y_ref13_At, ↓EVd, isCall, sevalprocAttr]
   all_goals first | done | rfl | exact frzR_closed (by simp only [CLO]) | exact frzR_sub (by simp only [CLO]) (Sub.agg (Subs.cons (Sub.refl _) (Subs.cons (Sub.refl _) (Subs.cons (Sub.refl _) (Subs.cons (Sub.refl _) (Subs.cons (Sub.nilS _) (Subs.cons (Sub.nilS _) (Subs.cons (Sub.refl _) (Subs.cons (Sub.refl _) (Subs.cons (Sub.refl _) (Subs.cons (Sub.refl _) (Subs.cons (Sub.refl _) (Subs.cons (Sub.refl _) (Subs.cons (Sub.refl _) (Subs.nil)))))))))))))))
 rcases iteE hm0 with ⟨e4, hm0⟩ | ⟨e4, hm0⟩
 · obtain rfl := Option.some.inj hm0
   simp only [e2, e4, Y_ref13_At, ↓EVd, isCall, sevalprocAttr]
   all_goals first | done | rfl | exact frzR_closed (by simp only [CLO]) | exact frzR_sub (by simp only [CLO]) (Sub.agg (Subs.cons (Sub.refl _) (Subs.cons (Sub.refl _) (Subs.cons (Sub.refl _) (Subs.cons (Sub.refl _) (Subs.cons (Sub.nilS _) (Subs.cons (Sub.nilS _) (Subs.cons (Sub.refl _) (Subs.cons (Sub.refl _) (Subs.cons (Sub.refl _) (Subs.cons (Sub.refl _) (Subs.cons (Sub.refl _) (Subs.cons (Sub.refl _) (Subs.cons (Sub.refl _) (Subs.nil)))))))))))))))
 obtain ⟨v5, e7, hm0⟩ := ixE encNode hm0
 obtain rfl := Option.some.inj hm0
 simp only [e2, e4, e7, Y_ref13_At, ↓EVd, isCall, sevalprocAttr]
 all_goals first | done | rfl | exact frzR_closed (by simp only [CLO])
def m_ref15_Lower (a0 : Stack) (a1 : Place) : Option (Node) := if a1.layer < 1 then some (⟨0, 0, 0, 0, [], [], (⟨0, 0, noBytes, (⟨0, 0, 0⟩ : Origin), 0⟩ : Attr)⟩ : Node)
 else if (a0.lowers.length : Int) < a1.layer then some (⟨0, 0, 0, 0, [], [], (⟨0, 0, noBytes, (⟨0, 0, 0⟩ : Origin), 0⟩ : Attr)⟩ : Node)
 else (ix a0.lowers (wr (a1.layer - 1))).bind fun v5 => (m_ref13_At v5 a1.ino).bind fun v8 => some v8
def Y_ref15_Lower := And.intro (And.intro (And.intro (And.intro ((@EV)) ((@R3))) (And.intro ((@R38)) ((@R39)))) (And.intro (And.intro ((@R41)) ((@R48))) (And.intro ((@R73)) ((@DGeo))))) (And.intro (And.intro (And.intro ((@DBranch)) ((@DStack))) (And.intro ((@DPlace)) ((@DOrigin)))) (And.intro (And.intro ((@DAttr)) ((@DNode))) (And.intro ((@DEntry)) ((@mixed)))))
set_option maxHeartbeats 2000000 in
theorem ok_ref15_Lower (a0 : Stack) (a1 : Place) (r : Node) (hm0 : m_ref15_Lower a0 a1 = some r) : Ok Try.prog 47 [encStack a0, encPlace a1] (encNode r) := by
 unfold m_ref15_Lower at hm0
 refine okG fc_ref15_Lower ?_
 unfold c_ref15_Lower
 rcases iteE hm0 with ⟨e2, hm0⟩ | ⟨e2, hm0⟩
 · obtain rfl := Option.some.inj hm0
   simp only [e2, Y_ref15_Lower, ↓EVd, isCall, sevalprocAttr]
   all_goals first | done | rfl | exact frzR_closed (by simp only [CLO]) | exact frzR_sub (by simp only [CLO]) (Sub.agg (Subs.cons (Sub.refl _) (Subs.cons (Sub.refl _) (Subs.cons (Sub.refl _) (Subs.cons (Sub.refl _) (Subs.cons (Sub.nilS _) (Subs.cons (Sub.nilS _) (Subs.cons (Sub.refl _) (Subs.cons (Sub.refl _) (Subs.cons (Sub.refl _) (Subs.cons (Sub.refl _) (Subs.cons (Sub.refl _) (Subs.cons (Sub.refl _) (Subs.cons (Sub.refl _) (Subs.nil)))))))))))))))
 rcases iteE hm0 with ⟨e4, hm0⟩ | ⟨e4, hm0⟩
 · obtain rfl := Option.some.inj hm0
   simp only [e2, e4, Y_ref15_Lower, ↓EVd, isCall, sevalprocAttr]
   all_goals first | done | rfl | exact frzR_closed (by simp only [CLO]) | exact frzR_sub (by simp only [CLO]) (Sub.agg (Subs.cons (Sub.refl _) (Subs.cons (Sub.refl _) (Subs.cons (Sub.refl _) (Subs.cons (Sub.refl _) (Subs.cons (Sub.nilS _) (Subs.cons (Sub.nilS _) (Subs.cons (Sub.refl _) (Subs.cons (Sub.refl _) (Subs.cons (Sub.refl _) (Subs.cons (Sub.refl _) (Subs.cons (Sub.refl _) (Subs.cons (Sub.refl _) (Subs.cons (Sub.refl _) (Subs.nil)))))))))))))))
 obtain ⟨v5, e7, hm0⟩ := ixE encBranch hm0
 obtain ⟨v8, h9, hm0⟩ := bsE hm0
 simp only [e2, e4, e7, Y_ref15_Lower, ↓EVd, isCall, sevalprocAttr]
 refine qd (ok_ref13_At _ _ _ h9) rfl ?_
 obtain rfl := Option.some.inj hm0
 simp only [e2, e4, e7, Y_ref15_Lower, ↓EVd, isCall, sevalprocAttr]
 all_goals first | done | rfl | exact frzR_closed (by simp only [CLO])
def m_ref09_has (a0 : Int) (a1 : Int) : Option (Bool) := (ck (¬ a1 = 0)).bind fun _ => if ((wr (a0.tdiv a1)).tmod 2) = 1 then some true
 else some false
def Y_ref09_has := And.intro ((@EV)) ((@R3))
set_option maxHeartbeats 2000000 in
theorem ok_ref09_has (a0 : Int) (a1 : Int) (r : Bool) (hm0 : m_ref09_has a0 a1 = some r) : Ok Try.prog 79 [int a0, int a1] (bool r) := by
 unfold m_ref09_has at hm0
 refine okG fc_ref09_has ?_
 unfold c_ref09_has
 obtain ⟨e2, hm0⟩ := ckE hm0
 have e3 : ((2 : Int) = 0) = False := by decide
 rcases iteE hm0 with ⟨e5, hm0⟩ | ⟨e5, hm0⟩
 · obtain rfl := Option.some.inj hm0
   simp only [e2, e3, e5, Y_ref09_has, ↓EVd, isCall, sevalprocAttr]
   all_goals first | done | rfl
 obtain rfl := Option.some.inj hm0
 simp only [e2, e3, e5, Y_ref09_has, ↓EVd, isCall, sevalprocAttr]
 all_goals first | done | rfl
def m_ref09_Has (a0 : Attr) (a1 : Int) : Option (Bool) := if 0 ≤ a0.has then (m_ref09_has a0.has a1).bind fun v3 => some v3
 else some false
def Y_ref09_Has := And.intro (And.intro ((@EV)) ((@R3))) (And.intro ((@R71)) (And.intro ((@DOrigin)) ((@DAttr))))
set_option maxHeartbeats 2000000 in
theorem ok_ref09_Has (a0 : Attr) (a1 : Int) (r : Bool) (hm0 : m_ref09_Has a0 a1 = some r) : Ok Try.prog 64 [encAttr a0, int a1] (bool r) := by
 unfold m_ref09_Has at hm0
 refine okG fc_ref09_Has ?_
 unfold c_ref09_Has
 rcases iteE hm0 with ⟨e2, hm0⟩ | ⟨e2, hm0⟩
 · obtain ⟨v3, h4, hm0⟩ := bsE hm0
   simp only [e2, Y_ref09_Has, ↓EVd, isCall, sevalprocAttr]
   refine qc (ok_ref09_has _ _ _ h4) rfl ?_
   obtain rfl := Option.some.inj hm0
   simp only [e2, Y_ref09_Has, ↓EVd, isCall, sevalprocAttr]
   all_goals first | done | rfl
 obtain rfl := Option.some.inj hm0
 simp only [e2, Y_ref09_Has, ↓EVd, isCall, sevalprocAttr]
 all_goals first | done | rfl
def m_ref16_Opaque (a0 : Node) : Option (Bool) := (m_ref09_Has a0.attr 1).bind fun v1 => if v1 = true then if a0.attr.opaque0 = 121 then some true
 else some false
 else some false
def Y_ref16_Opaque := And.intro (And.intro (And.intro ((@EV)) ((@R3))) (And.intro ((@R71)) ((@R73)))) (And.intro (And.intro ((@DOrigin)) ((@DAttr))) (And.intro ((@DNode)) ((@DEntry))))
set_option maxHeartbeats 2000000 in
theorem ok_ref16_Opaque (a0 : Node) (r : Bool) (hm0 : m_ref16_Opaque a0 = some r) : Ok Try.prog 48 [encNode a0] (bool r) := by
 unfold m_ref16_Opaque at hm0
 refine okG fc_ref16_Opaque ?_
 unfold c_ref16_Opaque
 obtain ⟨v1, h2, hm0⟩ := bsE hm0
 simp only [Y_ref16_Opaque, ↓EVd, isCall, sevalprocAttr]
 refine qc (ok_ref09_Has _ _ _ h2) rfl ?_
 rcases itbE hm0 with ⟨e4, hm0⟩ | ⟨e4, hm0⟩
 · rcases iteE hm0 with ⟨e6, hm0⟩ | ⟨e6, hm0⟩
   · obtain rfl := Option.some.inj hm0
     simp only [e4, e6, Y_ref16_Opaque, ↓EVd, isCall, sevalprocAttr]
     all_goals first | done | rfl
   obtain rfl := Option.some.inj hm0
   simp only [e4, e6, Y_ref16_Opaque, ↓EVd, isCall, sevalprocAttr]
   all_goals first | done | rfl
 obtain rfl := Option.some.inj hm0
 simp only [e4, Y_ref16_Opaque, ↓EVd, isCall, sevalprocAttr]
 all_goals first | done | rfl
def m_ref16_entry_b0 (a0 : Stack) (a1 : Place) (a2 : ByteArray) (v1 : Node) : Int → Option (St (Int) ((Unit) ⊕ (Place × Bool)))
 | v6 => if v6 < (v1.entries.length : Int) then (ix v1.entries v6).bind fun v10 => if v10.name = a2 then (m_ref15_Lower a0 (⟨a1.layer, v10.ino⟩ : Place)).bind fun v16 => if v16.kind = 0 then some (.nx (wr (v6 + 1)))
 else some (.out (.inr ((⟨a1.layer, v10.ino⟩ : Place), true)))
 else some (.nx (wr (v6 + 1)))
 else some (.out (.inl ()))
def m_ref16_entry (a0 : Stack) (a1 : Place) (a2 : ByteArray) : Option (Place × Bool) := (m_ref15_Lower a0 a1).bind fun v1 => if v1.kind = 1 then (iter (m_ref16_entry_b0 a0 a1 a2 v1) big 0).bind fun o => (match o with
 | (.inl _) => some ((⟨0, 0⟩ : Place), false)
 | (.inr r) => some r)
 else some ((⟨0, 0⟩ : Place), false)
def Y_ref16_entry := And.intro (And.intro (And.intro (And.intro ((@EV)) ((@R3))) (And.intro ((@R9)) ((@R41)))) (And.intro (And.intro ((@R48)) ((@R67))) (And.intro ((@R73)) ((@R83))))) (And.intro (And.intro (And.intro ((@DGeo)) ((@DBranch))) (And.intro ((@DStack)) ((@DPlace)))) (And.intro (And.intro ((@DOrigin)) ((@DAttr))) (And.intro ((@DNode)) (And.intro ((@DEntry)) ((@mixed))))))
set_option maxHeartbeats 2000000 in
theorem ok_ref16_entry (a0 : Stack) (a1 : Place) (a2 : ByteArray) (r : Place × Bool) (hm0 : m_ref16_entry a0 a1 a2 = some r) : Ok Try.prog 46 [encStack a0, encPlace a1, str a2] (.tup [encPlace r.1, bool r.2]) := by
 unfold m_ref16_entry at hm0
 refine okG fc_ref16_entry ?_
 unfold c_ref16_entry
 obtain ⟨v1, h2, hm0⟩ := bsE hm0
 simp only [Y_ref16_entry, ↓EVd, isCall, sevalprocAttr]
 refine qc (ok_ref15_Lower _ _ _ h2) rfl ?_
 rcases iteE hm0 with ⟨e4, hm0⟩ | ⟨e4, hm0⟩
 · obtain ⟨o0, ho0, hm0⟩ := bsE hm0
   simp only [e4, Y_ref16_entry, ↓EVd, isCall, sevalprocAttr]
   refine cwp_cx 0 (fun s => (s.T 6 = .loc 2 2 0 0 ∧ s.H 2 = some (.row 48 2 [.agg [int 0, int 0]]) ∧ Lq 2 s.nx) ∧ (.inl ()) = o0) ?_ fun J0_0 hJ0_0 => ?_
   · rintro T0 H0 x7 ⟨kk0_0, rfl⟩
     dsimp only [Lq, Nq] at kk0_0
     try dsimp only at hm0
     have e20 : (.agg [int 0, int 0] : AV) = encPlace (⟨0, 0⟩ : Place) := _root_.id rfl
     obtain rfl := Option.some.inj hm0
     simp only [kk0_0, e4, e20, Y_ref16_entry, ↓EVd, isCall, sevalprocAttr]
     all_goals first | done | rfl | exact frzR_closed (by simp only [CLO]) | exact frzR_sub (by simp only [CLO]) (Sub.tup (Subs.cons (Sub.refl _) (Subs.cons (Sub.refl _) (Subs.nil))))
   refine cwp_lp ho0 (fun v6 s => s.T 2 = str a2 ∧ s.T 3 = .loc 0 6 0 0 ∧ s.T 4 = .loc 1 2 0 0 ∧ s.T 6 = .loc 2 2 0 0 ∧ s.T 8 = .loc 7 13 0 0 ∧ s.T 9 = int v6 ∧ s.H 0 = some (.row 41 6 [encStack a0]) ∧ s.H 1 = some (.row 48 2 [encPlace a1]) ∧ s.H 2 = some (.row 48 2 [.agg [int 0, int 0]]) ∧ s.H 7 = some (.row 73 13 [encNode v1]) ∧ Lq 0 s.nx ∧ Lq 1 s.nx ∧ Lq 2 s.nx ∧ Lq 7 s.nx) ?_ ?_
   · refine TI.here ⟨?_, ?_, ?_, ?_, ?_, ?_, ?_, ?_, ?_, ?_, ?_, ?_, ?_, ?_⟩
     all_goals try simp only [e4, Y_ref16_entry, ↓EVd, isCall, sevalprocAttr]
     all_goals first | omega | exact lq (by omega) | exact nq (by omega) | rfl | (congr 1; omega)
   rintro I0 v6 T0 H0 x5 st0 kk0 hm1 hI0 hO0
   dsimp only [Lq, Nq] at kk0
   simp only [m_ref16_entry_b0] at hm1
   rcases iteE hm1 with ⟨e9, hm1⟩ | ⟨e9, hm1⟩
   · obtain ⟨v10, e12, hm1⟩ := ixE encEntry hm1
     have e13 : (.agg [int a1.layer, int v10.ino] : AV) = encPlace (⟨a1.layer, v10.ino⟩ : Place) := _root_.id rfl
     rcases iteE hm1 with ⟨e15, hm1⟩ | ⟨e15, hm1⟩
     · obtain ⟨v16, h17, hm1⟩ := bsE hm1
       simp only [kk0, e4, e9, e12, e13, e15, Y_ref16_entry, ↓EVd, isCall, sevalprocAttr]
       refine qc (ok_ref15_Lower _ _ _ h17) rfl ?_
       rcases iteE hm1 with ⟨e19, hm1⟩ | ⟨e19, hm1⟩
       · obtain rfl := Option.some.inj hm1
         simp only [kk0, e4, e9, e12, e13, e15, e19, Y_ref16_entry, ↓EVd, isCall, sevalprocAttr]
         refine TI.here (hI0 _ rfl _ ⟨?_, ?_, ?_, ?_, ?_, ?_, ?_, ?_, ?_, ?_, ?_, ?_, ?_, ?_⟩)
         all_goals try simp only [kk0, e4, e9, e12, e13, e15, e19, Y_ref16_entry, ↓EVd, isCall, sevalprocAttr]
         all_goals first | omega | exact lq (by omega) | exact nq (by omega) | rfl | (congr 1; omega)
       obtain rfl := Option.some.inj hm1
       obtain rfl := hO0 _ rfl
       try dsimp only at hm0
       obtain rfl := Option.some.inj hm0
       simp only [kk0, e4, e9, e12, e13, e15, e19, Y_ref16_entry, ↓EVd, isCall, sevalprocAttr]
       all_goals first | done | rfl | exact frzR_closed (by simp only [CLO]) | exact frzR_sub (by simp only [CLO]) (Sub.tup (Subs.cons (Sub.refl _) (Subs.cons (Sub.refl _) (Subs.nil))))
     obtain rfl := Option.some.inj hm1
     simp only [kk0, e4, e9, e12, e13, e15, Y_ref16_entry, ↓EVd, isCall, sevalprocAttr]
     refine TI.here (hI0 _ rfl _ ⟨?_, ?_, ?_, ?_, ?_, ?_, ?_, ?_, ?_, ?_, ?_, ?_, ?_, ?_⟩)
     all_goals try simp only [kk0, e4, e9, e12, e13, e15, Y_ref16_entry, ↓EVd, isCall, sevalprocAttr]
     all_goals first | omega | exact lq (by omega) | exact nq (by omega) | rfl | (congr 1; omega)
   obtain rfl := Option.some.inj hm1
   simp only [kk0, e4, e9, Y_ref16_entry, ↓EVd, isCall, sevalprocAttr]
   refine TI.here (hJ0_0 _ ⟨⟨?_, ?_, ?_⟩, hO0 _ rfl⟩)
   all_goals try simp only [kk0, e4, e9, Y_ref16_entry, ↓EVd, isCall, sevalprocAttr]
   all_goals first | omega | exact lq (by omega) | exact nq (by omega) | rfl | (congr 1; omega)
 have e21 : (.agg [int 0, int 0] : AV) = encPlace (⟨0, 0⟩ : Place) := _root_.id rfl
 obtain rfl := Option.some.inj hm0
 simp only [e4, e21, Y_ref16_entry, ↓EVd, isCall, sevalprocAttr]
 all_goals first | done | rfl | exact frzR_closed (by simp only [CLO]) | exact frzR_sub (by simp only [CLO]) (Sub.tup (Subs.cons (Sub.refl _) (Subs.cons (Sub.refl _) (Subs.nil))))
def m_ref16_Find_b0 (a0 : Stack) (a1 : List Place) (a2 : ByteArray) : (List Place × Int) → Option (St (List Place × Int) ((List Place) ⊕ (Int × List Place)))
 | (v3, v4) => if v4 < (a1.length : Int) then (ix a1 v4).bind fun v10 => (m_ref16_entry a0 v10 a2).bind fun v13 => if (!v13.2) = true then some (.nx (v3, (wr (v4 + 1))))
 else (m_ref15_Lower a0 v13.1).bind fun v17 => if v17.kind = 1 then (ap 16 v3 ([v13.1] : List Place)).bind fun _ => (m_ref16_Opaque v17).bind fun v25 => if v25 = true then some (.out (.inr (1, (v3 ++ ([v13.1] : List Place)))))
 else some (.nx ((v3 ++ ([v13.1] : List Place)), (wr (v4 + 1))))
 else if 0 < (v3.length : Int) then some (.out (.inr (1, v3)))
 else if v17.kind = 2 then some (.out (.inr (v17.kind, ([v13.1] : List Place))))
 else if v17.kind = 3 then some (.out (.inr (v17.kind, ([v13.1] : List Place))))
 else some (.out (.inr (0, [])))
 else some (.out (.inl v3))
def m_ref16_Find (a0 : Stack) (a1 : List Place) (a2 : ByteArray) : Option (Int × List Place) := (iter (m_ref16_Find_b0 a0 a1 a2) big (([] : List Place), 0)).bind fun o => (match o with
 | (.inl v7) => if 0 < (v7.length : Int) then some (1, v7)
 else some (0, [])
 | (.inr r) => some r)
def Y_ref16_Find := And.intro (And.intro (And.intro (And.intro ((@EV)) ((@R3))) (And.intro ((@R9)) ((@R41)))) (And.intro (And.intro ((@R42)) ((@R48))) (And.intro ((@R73)) ((@DGeo))))) (And.intro (And.intro (And.intro ((@DBranch)) ((@DStack))) (And.intro ((@DPlace)) ((@DOrigin)))) (And.intro (And.intro ((@DAttr)) ((@DNode))) (And.intro ((@DEntry)) ((@mixed)))))
set_option maxHeartbeats 2000000 in
theorem ok_ref16_Find (a0 : Stack) (a1 : List Place) (a2 : ByteArray) (r : Int × List Place) (hm0 : m_ref16_Find a0 a1 a2 = some r) : Ok Try.prog 23 [encStack a0, .sl 2 (a1.map encPlace), str a2] (.tup [int r.1, .sl 2 (r.2.map encPlace)]) := by
 unfold m_ref16_Find at hm0
 refine okG fc_ref16_Find ?_
 unfold c_ref16_Find
 obtain ⟨o0, ho0, hm0⟩ := bsE hm0
 simp only [Y_ref16_Find, ↓EVd, isCall, sevalprocAttr]
 refine cwp_cx 0 (fun s => ∃ v7 : List Place, ∃ l6 : Nat, (s.T 8 = .msl l6 v7.length ∧ s.H l6 = some (.row 48 2 (v7.map encPlace)) ∧ Lq l6 s.nx) ∧ (.inl v7) = o0) ?_ fun J0_0 hJ0_0 => ?_
 · rintro T0 H0 x5 ⟨v7, l6, kk0_0, rfl⟩
   dsimp only [Lq, Nq] at kk0_0
   try dsimp only at hm0
   rcases iteE hm0 with ⟨e36, hm0⟩ | ⟨e36, hm0⟩
   · obtain rfl := Option.some.inj hm0
     simp only [kk0_0, e36, Y_ref16_Find, ↓EVd, isCall, sevalprocAttr]
     all_goals first | done | rfl | exact frzR_of 9 (by simp only [kk0_0, e36, FZ, CLO, Y_ref16_Find, ↓EVd, isCall, sevalprocAttr]) (Sub.tup (Subs.cons (Sub.refl _) (Subs.cons (Sub.refl _) (Subs.nil))))
   obtain rfl := Option.some.inj hm0
   simp only [kk0_0, e36, Y_ref16_Find, ↓EVd, isCall, sevalprocAttr]
   all_goals first | done | rfl | exact frzR_closed (by simp only [CLO]) | exact frzR_sub (by simp only [CLO]) (Sub.tup (Subs.cons (Sub.refl _) (Subs.cons (Sub.nilS _) (Subs.nil))))
 refine cwp_lp ho0 (fun (v3, v4) s => ∃ l2 : Nat, s.T 1 = .sl 2 (a1.map encPlace) ∧ s.T 2 = str a2 ∧ s.T 3 = .loc 0 6 0 0 ∧ s.T 8 = .msl l2 v3.length ∧ s.T 9 = int v4 ∧ s.H 0 = some (.row 41 6 [encStack a0]) ∧ s.H l2 = some (.row 48 2 (v3.map encPlace)) ∧ Lq 0 s.nx ∧ Lq l2 s.nx ∧ Nq 0 l2) ?_ ?_
 · refine TI.here ⟨3, ?_, ?_, ?_, ?_, ?_, ?_, ?_, ?_, ?_, ?_⟩
   all_goals try simp only [Y_ref16_Find, ↓EVd, isCall, sevalprocAttr]
   all_goals first | omega | exact lq (by omega) | exact nq (by omega) | rfl | (congr 1; omega)
 rintro I0 ⟨v3, v4⟩ T0 H0 x1 st0 ⟨l2, kk0⟩ hm1 hI0 hO0
 dsimp only [Lq, Nq] at kk0
 simp only [m_ref16_Find_b0] at hm1
 rcases iteE hm1 with ⟨e9, hm1⟩ | ⟨e9, hm1⟩
 · obtain ⟨v10, e12, hm1⟩ := ixE encPlace hm1
   obtain ⟨v13, h14, hm1⟩ := bsE hm1
   simp only [kk0, e9, e12, Y_ref16_Find, ↓EVd, isCall, sevalprocAttr]
   refine qd (ok_ref16_entry _ _ _ _ h14) rfl ?_
   rcases itbE hm1 with ⟨e16, hm1⟩ | ⟨e16, hm1⟩
   · obtain rfl := Option.some.inj hm1
     simp only [kk0, e9, e12, e16, Y_ref16_Find, ↓EVd, isCall, sevalprocAttr]
     refine TI.here (hI0 _ rfl _ ⟨l2, ?_, ?_, ?_, ?_, ?_, ?_, ?_, ?_, ?_, ?_⟩)
     all_goals try simp only [kk0, e9, e12, e16, Y_ref16_Find, ↓EVd, isCall, sevalprocAttr]
     all_goals first | omega | exact lq (by omega) | exact nq (by omega) | rfl | (congr 1; omega)
   obtain ⟨v17, h18, hm1⟩ := bsE hm1
   simp only [kk0, e9, e12, e16, Y_ref16_Find, ↓EVd, isCall, sevalprocAttr]
   refine qc (ok_ref15_Lower _ _ _ h18) rfl ?_
   rcases iteE hm1 with ⟨e20, hm1⟩ | ⟨e20, hm1⟩
   · obtain ⟨e23, hm1⟩ := apE hm1
     try simp only [ZL] at e23
     obtain ⟨v25, h26, hm1⟩ := bsE hm1
     simp only [kk0, e9, e12, e16, e20, e23, Y_ref16_Find, ↓EVd, isCall, sevalprocAttr]
     refine qc (ok_ref16_Opaque _ _ h26) rfl ?_
     rcases itbE hm1 with ⟨e28, hm1⟩ | ⟨e28, hm1⟩
     · obtain rfl := Option.some.inj hm1
       obtain rfl := hO0 _ rfl
       try dsimp only at hm0
       obtain rfl := Option.some.inj hm0
       simp only [kk0, e9, e12, e16, e20, e23, e28, Y_ref16_Find, ↓EVd, isCall, sevalprocAttr]
       all_goals first | done | rfl | exact frzR_of 9 (by simp only [kk0, e9, e12, e16, e20, e23, e28, FZ, CLO, Y_ref16_Find, ↓EVd, isCall, sevalprocAttr]) (Sub.tup (Subs.cons (Sub.refl _) (Subs.cons (Sub.refl _) (Subs.nil))))
     obtain rfl := Option.some.inj hm1
     simp only [kk0, e9, e12, e16, e20, e23, e28, Y_ref16_Find, ↓EVd, isCall, sevalprocAttr]
     refine TI.here (hI0 _ rfl _ ⟨(x1 + 30), ?_, ?_, ?_, ?_, ?_, ?_, ?_, ?_, ?_, ?_⟩)
     all_goals try simp only [kk0, e9, e12, e16, e20, e23, e28, Y_ref16_Find, ↓EVd, isCall, sevalprocAttr]
     all_goals first | omega | exact lq (by omega) | exact nq (by omega) | rfl | (congr 1; omega)
   rcases iteE hm1 with ⟨e30, hm1⟩ | ⟨e30, hm1⟩
   · obtain rfl := Option.some.inj hm1
     obtain rfl := hO0 _ rfl
     try dsimp only at hm0
     obtain rfl := Option.some.inj hm0
     simp only [kk0, e9, e12, e16, e20, e30, Y_ref16_Find, ↓EVd, isCall, sevalprocAttr]
     all_goals first | done | rfl | exact frzR_of 9 (by simp only [kk0, e9, e12, e16, e20, e30, FZ, CLO, Y_ref16_Find, ↓EVd, isCall, sevalprocAttr]) (Sub.tup (Subs.cons (Sub.refl _) (Subs.cons (Sub.refl _) (Subs.nil))))
   rcases iteE hm1 with ⟨e32, hm1⟩ | ⟨e32, hm1⟩
   · obtain rfl := Option.some.inj hm1
     obtain rfl := hO0 _ rfl
     try dsimp only at hm0
     obtain rfl := Option.some.inj hm0
     simp only [kk0, e9, e12, e16, e20, e30, e32, Y_ref16_Find, ↓EVd, isCall, sevalprocAttr]
     all_goals first | done | rfl | exact frzR_of 9 (by simp only [kk0, e9, e12, e16, e20, e30, e32, FZ, CLO, Y_ref16_Find, ↓EVd, isCall, sevalprocAttr]) (Sub.tup (Subs.cons (Sub.refl _) (Subs.cons (Sub.refl _) (Subs.nil))))
   rcases iteE hm1 with ⟨e34, hm1⟩ | ⟨e34, hm1⟩
   · obtain rfl := Option.some.inj hm1
     obtain rfl := hO0 _ rfl
     try dsimp only at hm0
     obtain rfl := Option.some.inj hm0
     simp only [kk0, e9, e12, e16, e20, e30, e32, e34, Y_ref16_Find, ↓EVd, isCall, sevalprocAttr]
     all_goals first | done | rfl | exact frzR_of 9 (by simp only [kk0, e9, e12, e16, e20, e30, e32, e34, FZ, CLO, Y_ref16_Find, ↓EVd, isCall, sevalprocAttr]) (Sub.tup (Subs.cons (Sub.refl _) (Subs.cons (Sub.refl _) (Subs.nil))))
   obtain rfl := Option.some.inj hm1
   obtain rfl := hO0 _ rfl
   try dsimp only at hm0
   obtain rfl := Option.some.inj hm0
   simp only [kk0, e9, e12, e16, e20, e30, e32, e34, Y_ref16_Find, ↓EVd, isCall, sevalprocAttr]
   all_goals first | done | rfl | exact frzR_closed (by simp only [CLO]) | exact frzR_sub (by simp only [CLO]) (Sub.tup (Subs.cons (Sub.refl _) (Subs.cons (Sub.nilS _) (Subs.nil))))
 obtain rfl := Option.some.inj hm1
 simp only [kk0, e9, Y_ref16_Find, ↓EVd, isCall, sevalprocAttr]
 refine TI.here (hJ0_0 _ ⟨v3, l2, ⟨?_, ?_, ?_⟩, hO0 _ rfl⟩)
 all_goals try simp only [kk0, e9, Y_ref16_Find, ↓EVd, isCall, sevalprocAttr]
 all_goals first | omega | exact lq (by omega) | exact nq (by omega) | rfl | (congr 1; omega)
def m_ref16_Look_b0 (a0 : Stack) (a2 : List ByteArray) : (List Place × Int) → Option (St (List Place × Int) ((List Place) ⊕ (List Place × Bool)))
 | (v2, v3) => if v3 < (a2.length : Int) then (ix a2 v3).bind fun v8 => (m_ref16_Find a0 v2 v8).bind fun v11 => if v11.1 = 1 then some (.nx (v11.2, (wr (v3 + 1))))
 else some (.out (.inr ([], false)))
 else some (.out (.inl v2))
def m_ref16_Look (a0 : Stack) (a1 : List Place) (a2 : List ByteArray) : Option (List Place × Bool) := (iter (m_ref16_Look_b0 a0 a2) big (a1, 0)).bind fun o => (match o with
 | (.inl v5) => some (v5, true)
 | (.inr r) => some r)
def Y_ref16_Look := And.intro (And.intro (And.intro (And.intro ((@EV)) ((@R3))) (And.intro ((@R9)) ((@R30)))) (And.intro (And.intro ((@R41)) ((@R42))) (And.intro ((@R48)) ((@DGeo))))) (And.intro (And.intro (And.intro ((@DBranch)) ((@DStack))) (And.intro ((@DPlace)) ((@DOrigin)))) (And.intro (And.intro ((@DAttr)) ((@DNode))) (And.intro ((@DEntry)) ((@mixed)))))
set_option maxHeartbeats 2000000 in
theorem ok_ref16_Look (a0 : Stack) (a1 : List Place) (a2 : List ByteArray) (r : List Place × Bool) (hm0 : m_ref16_Look a0 a1 a2 = some r) : Ok Try.prog 26 [encStack a0, .sl 2 (a1.map encPlace), .sl 1 (a2.map str)] (.tup [.sl 2 (r.1.map encPlace), bool r.2]) := by
 unfold m_ref16_Look at hm0
 refine okG fc_ref16_Look ?_
 unfold c_ref16_Look
 obtain ⟨o0, ho0, hm0⟩ := bsE hm0
 simp only [Y_ref16_Look, ↓EVd, isCall, sevalprocAttr]
 refine cwp_cx 0 (fun s => ∃ v5 : List Place, (s.T 8 = .sl 2 (v5.map encPlace)) ∧ (.inl v5) = o0) ?_ fun J0_0 hJ0_0 => ?_
 · rintro T0 H0 x4 ⟨v5, kk0_0, rfl⟩
   dsimp only [Lq, Nq] at kk0_0
   try dsimp only at hm0
   obtain rfl := Option.some.inj hm0
   simp only [kk0_0, Y_ref16_Look, ↓EVd, isCall, sevalprocAttr]
   all_goals first | done | rfl | exact frzR_closed (by simp only [CLO]) | exact frzR_sub (by simp only [CLO]) (Sub.tup (Subs.cons (Sub.refl _) (Subs.cons (Sub.refl _) (Subs.nil))))
 refine cwp_lp ho0 (fun (v2, v3) s => s.T 2 = .sl 1 (a2.map str) ∧ s.T 3 = .loc 0 6 0 0 ∧ s.T 8 = .sl 2 (v2.map encPlace) ∧ s.T 9 = int v3 ∧ s.H 0 = some (.row 41 6 [encStack a0]) ∧ Lq 0 s.nx) ?_ ?_
 · refine TI.here ⟨?_, ?_, ?_, ?_, ?_, ?_⟩
   all_goals try simp only [Y_ref16_Look, ↓EVd, isCall, sevalprocAttr]
   all_goals first | omega | exact lq (by omega) | exact nq (by omega) | rfl | (congr 1; omega)
 rintro I0 ⟨v2, v3⟩ T0 H0 x1 st0 kk0 hm1 hI0 hO0
 dsimp only [Lq, Nq] at kk0
 simp only [m_ref16_Look_b0] at hm1
 rcases iteE hm1 with ⟨e7, hm1⟩ | ⟨e7, hm1⟩
 · obtain ⟨v8, e10, hm1⟩ := ixE str hm1
   obtain ⟨v11, h12, hm1⟩ := bsE hm1
   simp only [kk0, e7, e10, Y_ref16_Look, ↓EVd, isCall, sevalprocAttr]
   refine qd (ok_ref16_Find _ _ _ _ h12) rfl ?_
   rcases iteE hm1 with ⟨e14, hm1⟩ | ⟨e14, hm1⟩
   · obtain rfl := Option.some.inj hm1
     simp only [kk0, e7, e10, e14, Y_ref16_Look, ↓EVd, isCall, sevalprocAttr]
     refine TI.here (hI0 _ rfl _ ⟨?_, ?_, ?_, ?_, ?_, ?_⟩)
     all_goals try simp only [kk0, e7, e10, e14, Y_ref16_Look, ↓EVd, isCall, sevalprocAttr]
     all_goals first | omega | exact lq (by omega) | exact nq (by omega) | rfl | (congr 1; omega)
   obtain rfl := Option.some.inj hm1
   obtain rfl := hO0 _ rfl
   try dsimp only at hm0
   obtain rfl := Option.some.inj hm0
   simp only [kk0, e7, e10, e14, Y_ref16_Look, ↓EVd, isCall, sevalprocAttr]
   all_goals first | done | rfl | exact frzR_closed (by simp only [CLO]) | exact frzR_sub (by simp only [CLO]) (Sub.tup (Subs.cons (Sub.nilS _) (Subs.cons (Sub.refl _) (Subs.nil))))
 obtain rfl := Option.some.inj hm1
 simp only [kk0, e7, Y_ref16_Look, ↓EVd, isCall, sevalprocAttr]
 refine TI.here (hJ0_0 _ ⟨v2, ?_, hO0 _ rfl⟩)
 all_goals try simp only [kk0, e7, Y_ref16_Look, ↓EVd, isCall, sevalprocAttr]
 all_goals first | omega | exact lq (by omega) | exact nq (by omega) | rfl | (congr 1; omega)
def m_ref16_Roots_b0 (a0 : Stack) : (List Place × Int) → Option (St (List Place × Int) ((List Place) ⊕ (List Place)))
 | (v3, v4) => if v4 ≤ (a0.lowers.length : Int) then (m_ref15_Lower a0 (⟨v4, 1⟩ : Place)).bind fun v11 => if v11.kind = 1 then (ap 16 v3 ([(⟨v4, 1⟩ : Place)] : List Place)).bind fun _ => (m_ref16_Opaque v11).bind fun v19 => if v19 = true then some (.out (.inr (v3 ++ ([(⟨v4, 1⟩ : Place)] : List Place))))
 else some (.nx ((v3 ++ ([(⟨v4, 1⟩ : Place)] : List Place)), (wr (v4 + 1))))
 else some (.nx (v3, (wr (v4 + 1))))
 else some (.out (.inl v3))
def m_ref16_Roots (a0 : Stack) : Option (List Place) := (iter (m_ref16_Roots_b0 a0) big (([] : List Place), 1)).bind fun o => (match o with
 | (.inl v7) => some v7
 | (.inr r) => some r)
def Y_ref16_Roots := And.intro (And.intro (And.intro (And.intro ((@EV)) ((@R3))) (And.intro ((@R38)) ((@R39)))) (And.intro (And.intro ((@R41)) ((@R42))) (And.intro ((@R48)) ((@R73))))) (And.intro (And.intro (And.intro ((@DGeo)) ((@DBranch))) (And.intro ((@DStack)) ((@DPlace)))) (And.intro (And.intro ((@DOrigin)) ((@DAttr))) (And.intro ((@DNode)) ((@DEntry)))))
set_option maxHeartbeats 2000000 in
theorem ok_ref16_Roots (a0 : Stack) (r : List Place) (hm0 : m_ref16_Roots a0 = some r) : Ok Try.prog 28 [encStack a0] (.sl 2 (r.map encPlace)) := by
 unfold m_ref16_Roots at hm0
 refine okG fc_ref16_Roots ?_
 unfold c_ref16_Roots
 obtain ⟨o0, ho0, hm0⟩ := bsE hm0
 simp only [Y_ref16_Roots, ↓EVd, isCall, sevalprocAttr]
 refine cwp_cx 0 (fun s => ∃ v7 : List Place, ∃ l6 : Nat, (s.T 3 = .msl l6 v7.length ∧ s.H l6 = some (.row 48 2 (v7.map encPlace)) ∧ Lq l6 s.nx) ∧ (.inl v7) = o0) ?_ fun J0_0 hJ0_0 => ?_
 · rintro T0 H0 x5 ⟨v7, l6, kk0_0, rfl⟩
   dsimp only [Lq, Nq] at kk0_0
   try dsimp only at hm0
   obtain rfl := Option.some.inj hm0
   simp only [kk0_0, Y_ref16_Roots, ↓EVd, isCall, sevalprocAttr]
   all_goals first | done | rfl | exact frzR_e (by simp only [kk0_0, FZ, CLO, Y_ref16_Roots, ↓EVd, isCall, sevalprocAttr])
 refine cwp_lp ho0 (fun (v3, v4) s => ∃ l2 : Nat, s.T 1 = .loc 0 6 0 0 ∧ s.T 3 = .msl l2 v3.length ∧ s.T 4 = int v4 ∧ s.H 0 = some (.row 41 6 [encStack a0]) ∧ s.H l2 = some (.row 48 2 (v3.map encPlace)) ∧ Lq 0 s.nx ∧ Lq l2 s.nx ∧ Nq 0 l2) ?_ ?_
 · refine TI.here ⟨2, ?_, ?_, ?_, ?_, ?_, ?_, ?_, ?_⟩
   all_goals try simp only [Y_ref16_Roots, ↓EVd, isCall, sevalprocAttr]
   all_goals first | omega | exact lq (by omega) | exact nq (by omega) | rfl | (congr 1; omega)
 rintro I0 ⟨v3, v4⟩ T0 H0 x1 st0 ⟨l2, kk0⟩ hm1 hI0 hO0
 dsimp only [Lq, Nq] at kk0
 simp only [m_ref16_Roots_b0] at hm1
 rcases iteE hm1 with ⟨e9, hm1⟩ | ⟨e9, hm1⟩
 · have e10 : (.agg [int v4, int 1] : AV) = encPlace (⟨v4, 1⟩ : Place) := _root_.id rfl
   obtain ⟨v11, h12, hm1⟩ := bsE hm1
   simp only [kk0, e9, e10, Y_ref16_Roots, ↓EVd, isCall, sevalprocAttr]
   refine qc (ok_ref15_Lower _ _ _ h12) rfl ?_
   rcases iteE hm1 with ⟨e14, hm1⟩ | ⟨e14, hm1⟩
   · obtain ⟨e17, hm1⟩ := apE hm1
     try simp only [ZL] at e17
     obtain ⟨v19, h20, hm1⟩ := bsE hm1
     simp only [kk0, e9, e10, e14, e17, Y_ref16_Roots, ↓EVd, isCall, sevalprocAttr]
     refine qc (ok_ref16_Opaque _ _ h20) rfl ?_
     rcases itbE hm1 with ⟨e22, hm1⟩ | ⟨e22, hm1⟩
     · obtain rfl := Option.some.inj hm1
       obtain rfl := hO0 _ rfl
       try dsimp only at hm0
       obtain rfl := Option.some.inj hm0
       simp only [kk0, e9, e10, e14, e17, e22, Y_ref16_Roots, ↓EVd, isCall, sevalprocAttr]
       all_goals first | done | rfl | exact frzR_e (by simp only [kk0, e9, e10, e14, e17, e22, FZ, CLO, Y_ref16_Roots, ↓EVd, isCall, sevalprocAttr])
     obtain rfl := Option.some.inj hm1
     simp only [kk0, e9, e10, e14, e17, e22, Y_ref16_Roots, ↓EVd, isCall, sevalprocAttr]
     refine TI.here (hI0 _ rfl _ ⟨(x1 + 20), ?_, ?_, ?_, ?_, ?_, ?_, ?_, ?_⟩)
     all_goals try simp only [kk0, e9, e10, e14, e17, e22, Y_ref16_Roots, ↓EVd, isCall, sevalprocAttr]
     all_goals first | omega | exact lq (by omega) | exact nq (by omega) | rfl | (congr 1; omega)
   obtain rfl := Option.some.inj hm1
   simp only [kk0, e9, e10, e14, Y_ref16_Roots, ↓EVd, isCall, sevalprocAttr]
   refine TI.here (hI0 _ rfl _ ⟨l2, ?_, ?_, ?_, ?_, ?_, ?_, ?_, ?_⟩)
   all_goals try simp only [kk0, e9, e10, e14, Y_ref16_Roots, ↓EVd, isCall, sevalprocAttr]
   all_goals first | omega | exact lq (by omega) | exact nq (by omega) | rfl | (congr 1; omega)
 obtain rfl := Option.some.inj hm1
 simp only [kk0, e9, Y_ref16_Roots, ↓EVd, isCall, sevalprocAttr]
 refine TI.here (hJ0_0 _ ⟨v3, l2, ⟨?_, ?_, ?_⟩, hO0 _ rfl⟩)
 all_goals try simp only [kk0, e9, Y_ref16_Roots, ↓EVd, isCall, sevalprocAttr]
 all_goals first | omega | exact lq (by omega) | exact nq (by omega) | rfl | (congr 1; omega)
def m_ref03_Sort_b1 (a0 : List ByteArray) (v3 : List ByteArray) (v4 : Int) : Int → Option (St (Int) (Int))
 | v11 => if v11 < (v3.length : Int) then (ix v3 v11).bind fun v16 => (ix a0 v4).bind fun v19 => if (Op.bytesLess v16.toList v19.toList) = true then some (.nx (wr (v11 + 1)))
 else some (.out v11)
 else some (.out v11)
def m_ref03_Sort_b2 (v13 : Int) : (Int × List ByteArray) → Option (St (Int × List ByteArray) (List ByteArray))
 | (v39, v40) => if v13 < v39 then (ix v40 (wr (v39 - 1))).bind fun v45 => (ix v40 v39).bind fun v48 => some (.nx ((wr (v39 - 1)), (v40.set (v39).toNat v45)))
 else some (.out v40)
def m_ref03_Sort_b3 (v13 : Int) : (Int × List ByteArray) → Option (St (Int × List ByteArray) (List ByteArray))
 | (v59, v60) => if v13 < v59 then (ix v60 (wr (v59 - 1))).bind fun v65 => (ix v60 v59).bind fun v68 => some (.nx ((wr (v59 - 1)), (v60.set (v59).toNat v65)))
 else some (.out v60)
def m_ref03_Sort_b0 (a0 : List ByteArray) : (List ByteArray × Int) → Option (St (List ByteArray × Int) (List ByteArray))
 | (v3, v4) => if v4 < (a0.length : Int) then (iter (m_ref03_Sort_b1 a0 v3 v4) big 0).bind fun o => (match o with
 | v13 => if v13 < (v3.length : Int) then (ix v3 v13).bind fun v26 => (ix a0 v4).bind fun v29 => if v26 = v29 then some (.nx (v3, (wr (v4 + 1))))
 else (ap 16 v3 ([noBytes] : List ByteArray)).bind fun _ => (iter (m_ref03_Sort_b2 v13) big ((wr (((v3 ++ ([noBytes] : List ByteArray)).length : Int) - 1)), (v3 ++ ([noBytes] : List ByteArray)))).bind fun o => (match o with
 | v42 => (ix v42 v13).bind fun v51 => some (.nx ((v42.set (v13).toNat v29), (wr (v4 + 1)))))
 else (ap 16 v3 ([noBytes] : List ByteArray)).bind fun _ => (iter (m_ref03_Sort_b3 v13) big ((wr (((v3 ++ ([noBytes] : List ByteArray)).length : Int) - 1)), (v3 ++ ([noBytes] : List ByteArray)))).bind fun o => (match o with
 | v62 => (ix a0 v4).bind fun v71 => (ix v62 v13).bind fun v74 => some (.nx ((v62.set (v13).toNat v71), (wr (v4 + 1))))))
 else some (.out v3)
def m_ref03_Sort (a0 : List ByteArray) : Option (List ByteArray) := (iter (m_ref03_Sort_b0 a0) big (([] : List ByteArray), 0)).bind fun o => (match o with
 | v7 => some v7)
def Y_ref03_Sort := And.intro (And.intro ((@EV)) ((@R3))) (And.intro ((@R9)) (And.intro ((@R30)) ((@mixed))))
set_option maxHeartbeats 2000000 in
theorem ok_ref03_Sort (a0 : List ByteArray) (r : List ByteArray) (hm0 : m_ref03_Sort a0 = some r) : Ok Try.prog 18 [.sl 1 (a0.map str)] (.sl 1 (r.map str)) := by
 unfold m_ref03_Sort at hm0
 refine okG fc_ref03_Sort ?_
 unfold c_ref03_Sort
 obtain ⟨o0, ho0, hm0⟩ := bsE hm0
 simp only [Y_ref03_Sort, ↓EVd, isCall, sevalprocAttr]
 refine cwp_cx 0 (fun s => ∃ v7 : List ByteArray, ∃ l6 : Nat, (s.T 3 = .msl l6 v7.length ∧ s.H l6 = some (.row 9 1 (v7.map str)) ∧ Lq l6 s.nx) ∧ v7 = o0) ?_ fun J0_0 hJ0_0 => ?_
 · rintro T0 H0 x5 ⟨v7, l6, kk0_0, rfl⟩
   dsimp only [Lq, Nq] at kk0_0
   try dsimp only at hm0
   obtain rfl := Option.some.inj hm0
   simp only [kk0_0, Y_ref03_Sort, ↓EVd, isCall, sevalprocAttr]
   all_goals first | done | rfl | exact frzR_e (by simp only [kk0_0, FZ, CLO, Y_ref03_Sort, ↓EVd, isCall, sevalprocAttr])
 refine cwp_lp ho0 (fun (v3, v4) s => ∃ l2 : Nat, s.T 0 = .sl 1 (a0.map str) ∧ s.T 3 = .msl l2 v3.length ∧ s.T 4 = int v4 ∧ s.H l2 = some (.row 9 1 (v3.map str)) ∧ Lq l2 s.nx) ?_ ?_
 · refine TI.here ⟨1, ?_, ?_, ?_, ?_, ?_⟩
   all_goals try simp only [Y_ref03_Sort, ↓EVd, isCall, sevalprocAttr]
   all_goals first | omega | exact lq (by omega) | exact nq (by omega) | rfl | (congr 1; omega)
 rintro I0 ⟨v3, v4⟩ T0 H0 x1 st0 ⟨l2, kk0⟩ hm1 hI0 hO0
 dsimp only [Lq, Nq] at kk0
 simp only [m_ref03_Sort_b0] at hm1
 rcases iteE hm1 with ⟨e9, hm1⟩ | ⟨e9, hm1⟩
 · obtain ⟨o1, ho1, hm1⟩ := bsE hm1
   simp only [kk0, e9, Y_ref03_Sort, ↓EVd, isCall, sevalprocAttr]
   refine cwp_cx 2 (fun s => ∃ v13 : Int, (s.T 0 = .sl 1 (a0.map str) ∧ s.T 3 = .msl l2 v3.length ∧ s.T 4 = int v4 ∧ s.T 5 = int v13 ∧ s.H l2 = some (.row 9 1 (v3.map str)) ∧ Lq l2 s.nx) ∧ v13 = o1) ?_ fun J1_0 hJ1_0 => ?_
   · rintro T1 H1 x12 ⟨v13, kk1_0, rfl⟩
     dsimp only [Lq, Nq] at kk1_0
     try dsimp only at hm1
     rcases iteE hm1 with ⟨e25, hm1⟩ | ⟨e25, hm1⟩
     · obtain ⟨v26, e28, hm1⟩ := ixE str hm1
       obtain ⟨v29, e31, hm1⟩ := ixE str hm1
       rcases iteE hm1 with ⟨e33, hm1⟩ | ⟨e33, hm1⟩
       · obtain rfl := Option.some.inj hm1
         simp only [kk1_0, e9, e25, e28, e31, e33, Y_ref03_Sort, ↓EVd, isCall, sevalprocAttr]
         refine TI.here (hI0 _ rfl _ ⟨l2, ?_, ?_, ?_, ?_, ?_⟩)
         all_goals try simp only [kk1_0, e9, e25, e28, e31, e33, Y_ref03_Sort, ↓EVd, isCall, sevalprocAttr]
         all_goals first | omega | exact lq (by omega) | exact nq (by omega) | rfl | (congr 1; omega)
       obtain ⟨e36, hm1⟩ := apE hm1
       try simp only [ZL] at e36
       obtain ⟨o2, ho2, hm1⟩ := bsE hm1
       simp only [kk1_0, e9, e25, e28, e31, e33, e36, Y_ref03_Sort, ↓EVd, isCall, sevalprocAttr]
       refine cwp_cx 4 (fun s => ∃ v42 : List ByteArray, (s.T 0 = .sl 1 (a0.map str) ∧ s.T 3 = .msl (x12 + 17) v42.length ∧ s.T 4 = int v4 ∧ s.T 5 = int v13 ∧ s.H (x12 + 17) = some (.row 9 1 (v42.map str)) ∧ Lq (x12 + 17) s.nx) ∧ v42 = o2) ?_ fun J2_0 hJ2_0 => ?_
       · rintro T2 H2 x41 ⟨v42, kk2_0, rfl⟩
         dsimp only [Lq, Nq] at kk2_0
         try dsimp only at hm1
         obtain ⟨v51, e53, hm1⟩ := ixE str hm1
         obtain rfl := Option.some.inj hm1
         simp only [kk2_0, e9, e25, e28, e31, e33, e36, e53, Y_ref03_Sort, ↓EVd, isCall, sevalprocAttr]
         refine TI.here (hI0 _ rfl _ ⟨(x12 + 17), ?_, ?_, ?_, ?_, ?_⟩)
         all_goals try simp only [kk2_0, e9, e25, e28, e31, e33, e36, e53, Y_ref03_Sort, ↓EVd, isCall, sevalprocAttr]
         all_goals first | omega | exact lq (by omega) | exact nq (by omega) | rfl | (congr 1; omega)
       refine cwp_lp ho2 (fun (v39, v40) s => s.T 0 = .sl 1 (a0.map str) ∧ s.T 3 = .msl (x12 + 17) v40.length ∧ s.T 4 = int v4 ∧ s.T 5 = int v13 ∧ s.T 6 = int v39 ∧ s.H (x12 + 17) = some (.row 9 1 (v40.map str)) ∧ Lq (x12 + 17) s.nx) ?_ ?_
       · refine TI.here ⟨?_, ?_, ?_, ?_, ?_, ?_, ?_⟩
         all_goals try simp only [kk1_0, e9, e25, e28, e31, e33, e36, Y_ref03_Sort, ↓EVd, isCall, sevalprocAttr]
         all_goals first | omega | exact lq (by omega) | exact nq (by omega) | rfl | (congr 1; omega)
       rintro I2 ⟨v39, v40⟩ T2 H2 x38 st2 kk2 hm2 hI2 hO2
       dsimp only [Lq, Nq] at kk2
       simp only [m_ref03_Sort_b2] at hm2
       rcases iteE hm2 with ⟨e44, hm2⟩ | ⟨e44, hm2⟩
       · obtain ⟨v45, e47, hm2⟩ := ixE str hm2
         obtain ⟨v48, e50, hm2⟩ := ixE str hm2
         obtain rfl := Option.some.inj hm2
         simp only [kk2, e9, e25, e28, e31, e33, e36, e44, e47, e50, Y_ref03_Sort, ↓EVd, isCall, sevalprocAttr]
         refine TI.here (hI2 _ rfl _ ⟨?_, ?_, ?_, ?_, ?_, ?_, ?_⟩)
         all_goals try simp only [kk2, e9, e25, e28, e31, e33, e36, e44, e47, e50, Y_ref03_Sort, ↓EVd, isCall, sevalprocAttr]
         all_goals first | omega | exact lq (by omega) | exact nq (by omega) | rfl | (congr 1; omega)
       obtain rfl := Option.some.inj hm2
       simp only [kk2, e9, e25, e28, e31, e33, e36, e44, Y_ref03_Sort, ↓EVd, isCall, sevalprocAttr]
       refine TI.here (hJ2_0 _ ⟨v40, ⟨?_, ?_, ?_, ?_, ?_, ?_⟩, hO2 _ rfl⟩)
       all_goals try simp only [kk2, e9, e25, e28, e31, e33, e36, e44, Y_ref03_Sort, ↓EVd, isCall, sevalprocAttr]
       all_goals first | omega | exact lq (by omega) | exact nq (by omega) | rfl | (congr 1; omega)
     obtain ⟨e56, hm1⟩ := apE hm1
     try simp only [ZL] at e56
     obtain ⟨o3, ho3, hm1⟩ := bsE hm1
     simp only [kk1_0, e9, e25, e56, Y_ref03_Sort, ↓EVd, isCall, sevalprocAttr]
     refine cwp_cx 4 (fun s => ∃ v62 : List ByteArray, (s.T 0 = .sl 1 (a0.map str) ∧ s.T 3 = .msl (x12 + 17) v62.length ∧ s.T 4 = int v4 ∧ s.T 5 = int v13 ∧ s.H (x12 + 17) = some (.row 9 1 (v62.map str)) ∧ Lq (x12 + 17) s.nx) ∧ v62 = o3) ?_ fun J3_0 hJ3_0 => ?_
     · rintro T3 H3 x61 ⟨v62, kk3_0, rfl⟩
       dsimp only [Lq, Nq] at kk3_0
       try dsimp only at hm1
       obtain ⟨v71, e73, hm1⟩ := ixE str hm1
       obtain ⟨v74, e76, hm1⟩ := ixE str hm1
       obtain rfl := Option.some.inj hm1
       simp only [kk3_0, e9, e25, e56, e73, e76, Y_ref03_Sort, ↓EVd, isCall, sevalprocAttr]
       refine TI.here (hI0 _ rfl _ ⟨(x12 + 17), ?_, ?_, ?_, ?_, ?_⟩)
       all_goals try simp only [kk3_0, e9, e25, e56, e73, e76, Y_ref03_Sort, ↓EVd, isCall, sevalprocAttr]
       all_goals first | omega | exact lq (by omega) | exact nq (by omega) | rfl | (congr 1; omega)
     refine cwp_lp ho3 (fun (v59, v60) s => s.T 0 = .sl 1 (a0.map str) ∧ s.T 3 = .msl (x12 + 17) v60.length ∧ s.T 4 = int v4 ∧ s.T 5 = int v13 ∧ s.T 6 = int v59 ∧ s.H (x12 + 17) = some (.row 9 1 (v60.map str)) ∧ Lq (x12 + 17) s.nx) ?_ ?_
     · refine TI.here ⟨?_, ?_, ?_, ?_, ?_, ?_, ?_⟩
       all_goals try simp only [kk1_0, e9, e25, e56, Y_ref03_Sort, ↓EVd, isCall, sevalprocAttr]
       all_goals first | omega | exact lq (by omega) | exact nq (by omega) | rfl | (congr 1; omega)
     rintro I3 ⟨v59, v60⟩ T3 H3 x58 st3 kk3 hm2 hI3 hO3
     dsimp only [Lq, Nq] at kk3
     simp only [m_ref03_Sort_b3] at hm2
     rcases iteE hm2 with ⟨e64, hm2⟩ | ⟨e64, hm2⟩
     · obtain ⟨v65, e67, hm2⟩ := ixE str hm2
       obtain ⟨v68, e70, hm2⟩ := ixE str hm2
       obtain rfl := Option.some.inj hm2
       simp only [kk3, e9, e25, e56, e64, e67, e70, Y_ref03_Sort, ↓EVd, isCall, sevalprocAttr]
       refine TI.here (hI3 _ rfl _ ⟨?_, ?_, ?_, ?_, ?_, ?_, ?_⟩)
       all_goals try simp only [kk3, e9, e25, e56, e64, e67, e70, Y_ref03_Sort, ↓EVd, isCall, sevalprocAttr]
       all_goals first | omega | exact lq (by omega) | exact nq (by omega) | rfl | (congr 1; omega)
     obtain rfl := Option.some.inj hm2
     simp only [kk3, e9, e25, e56, e64, Y_ref03_Sort, ↓EVd, isCall, sevalprocAttr]
     refine TI.here (hJ3_0 _ ⟨v60, ⟨?_, ?_, ?_, ?_, ?_, ?_⟩, hO3 _ rfl⟩)
     all_goals try simp only [kk3, e9, e25, e56, e64, Y_ref03_Sort, ↓EVd, isCall, sevalprocAttr]
     all_goals first | omega | exact lq (by omega) | exact nq (by omega) | rfl | (congr 1; omega)
   refine cwp_lp ho1 (fun v11 s => s.T 0 = .sl 1 (a0.map str) ∧ s.T 3 = .msl l2 v3.length ∧ s.T 4 = int v4 ∧ s.T 5 = int v11 ∧ s.H l2 = some (.row 9 1 (v3.map str)) ∧ Lq l2 s.nx) ?_ ?_
   · refine TI.here ⟨?_, ?_, ?_, ?_, ?_, ?_⟩
     all_goals try simp only [kk0, e9, Y_ref03_Sort, ↓EVd, isCall, sevalprocAttr]
     all_goals first | omega | exact lq (by omega) | exact nq (by omega) | rfl | (congr 1; omega)
   rintro I1 v11 T1 H1 x10 st1 kk1 hm2 hI1 hO1
   dsimp only [Lq, Nq] at kk1
   simp only [m_ref03_Sort_b1] at hm2
   rcases iteE hm2 with ⟨e15, hm2⟩ | ⟨e15, hm2⟩
   · obtain ⟨v16, e18, hm2⟩ := ixE str hm2
     obtain ⟨v19, e21, hm2⟩ := ixE str hm2
     rcases itbE hm2 with ⟨e23, hm2⟩ | ⟨e23, hm2⟩
     · obtain rfl := Option.some.inj hm2
       simp only [kk1, e9, e15, e18, e21, e23, Y_ref03_Sort, ↓EVd, isCall, sevalprocAttr]
       refine TI.here (hI1 _ rfl _ ⟨?_, ?_, ?_, ?_, ?_, ?_⟩)
       all_goals try simp only [kk1, e9, e15, e18, e21, e23, Y_ref03_Sort, ↓EVd, isCall, sevalprocAttr]
       all_goals first | omega | exact lq (by omega) | exact nq (by omega) | rfl | (congr 1; omega)
     obtain rfl := Option.some.inj hm2
     simp only [kk1, e9, e15, e18, e21, e23, Y_ref03_Sort, ↓EVd, isCall, sevalprocAttr]
     refine TI.here (hJ1_0 _ ⟨v11, ⟨?_, ?_, ?_, ?_, ?_, ?_⟩, hO1 _ rfl⟩)
     all_goals try simp only [kk1, e9, e15, e18, e21, e23, Y_ref03_Sort, ↓EVd, isCall, sevalprocAttr]
     all_goals first | omega | exact lq (by omega) | exact nq (by omega) | rfl | (congr 1; omega)
   obtain rfl := Option.some.inj hm2
   simp only [kk1, e9, e15, Y_ref03_Sort, ↓EVd, isCall, sevalprocAttr]
   refine TI.here (hJ1_0 _ ⟨v11, ⟨?_, ?_, ?_, ?_, ?_, ?_⟩, hO1 _ rfl⟩)
   all_goals try simp only [kk1, e9, e15, Y_ref03_Sort, ↓EVd, isCall, sevalprocAttr]
   all_goals first | omega | exact lq (by omega) | exact nq (by omega) | rfl | (congr 1; omega)
 obtain rfl := Option.some.inj hm1
 simp only [kk0, e9, Y_ref03_Sort, ↓EVd, isCall, sevalprocAttr]
 refine TI.here (hJ0_0 _ ⟨v3, l2, ⟨?_, ?_, ?_⟩, hO0 _ rfl⟩)
 all_goals try simp only [kk0, e9, Y_ref03_Sort, ↓EVd, isCall, sevalprocAttr]
 all_goals first | omega | exact lq (by omega) | exact nq (by omega) | rfl | (congr 1; omega)
def m_ref16_Names_b1 (a0 : Stack) (a1 : List Place) (v13 : Node) : (List ByteArray × Int) → Option (St (List ByteArray × Int) (List ByteArray))
 | (v17, v18) => if v18 < (v13.entries.length : Int) then if v13.kind = 1 then (ix v13.entries v18).bind fun v26 => (m_ref16_Find a0 a1 v26.name).bind fun v29 => if v29.1 = 0 then some (.nx (v17, (wr (v18 + 1))))
 else (ap 16 v17 ([v26.name] : List ByteArray)).bind fun _ => some (.nx ((v17 ++ ([v26.name] : List ByteArray)), (wr (v18 + 1))))
 else some (.out v17)
 else some (.out v17)
def m_ref16_Names_b0 (a0 : Stack) (a1 : List Place) : (List ByteArray × Int) → Option (St (List ByteArray × Int) (List ByteArray))
 | (v3, v4) => if v4 < (a1.length : Int) then (ix a1 v4).bind fun v10 => (m_ref15_Lower a0 v10).bind fun v13 => (iter (m_ref16_Names_b1 a0 a1 v13) big (v3, 0)).bind fun o => (match o with
 | v21 => some (.nx (v21, (wr (v4 + 1)))))
 else some (.out v3)
def m_ref16_Names (a0 : Stack) (a1 : List Place) : Option (List ByteArray) := (iter (m_ref16_Names_b0 a0 a1) big (([] : List ByteArray), 0)).bind fun o => (match o with
 | v7 => (m_ref03_Sort v7).bind fun v37 => some v37)
def Y_ref16_Names := And.intro (And.intro (And.intro (And.intro ((@EV)) ((@R3))) (And.intro ((@R9)) ((@R30)))) (And.intro (And.intro ((@R41)) ((@R42))) (And.intro ((@R48)) (And.intro ((@R67)) ((@R73)))))) (And.intro (And.intro (And.intro ((@R83)) ((@DGeo))) (And.intro ((@DBranch)) (And.intro ((@DStack)) ((@DPlace))))) (And.intro (And.intro ((@DOrigin)) ((@DAttr))) (And.intro ((@DNode)) (And.intro ((@DEntry)) ((@mixed))))))
set_option maxHeartbeats 2000000 in
theorem ok_ref16_Names (a0 : Stack) (a1 : List Place) (r : List ByteArray) (hm0 : m_ref16_Names a0 a1 = some r) : Ok Try.prog 30 [encStack a0, .sl 2 (a1.map encPlace)] (.sl 1 (r.map str)) := by
 unfold m_ref16_Names at hm0
 refine okG fc_ref16_Names ?_
 unfold c_ref16_Names
 obtain ⟨o0, ho0, hm0⟩ := bsE hm0
 simp only [Y_ref16_Names, ↓EVd, isCall, sevalprocAttr]
 refine cwp_cx 0 (fun s => ∃ v7 : List ByteArray, ∃ l6 : Nat, (s.T 5 = .msl l6 v7.length ∧ s.H l6 = some (.row 9 1 (v7.map str)) ∧ Lq l6 s.nx) ∧ v7 = o0) ?_ fun J0_0 hJ0_0 => ?_
 · rintro T0 H0 x5 ⟨v7, l6, kk0_0, rfl⟩
   dsimp only [Lq, Nq] at kk0_0
   try dsimp only at hm0
   obtain ⟨v37, h38, hm0⟩ := bsE hm0
   simp only [kk0_0, Y_ref16_Names, ↓EVd, isCall, sevalprocAttr]
   refine qcq (ok_ref03_Sort _ _ h38) rfl (by simp only [kk0_0, FQ, CLO, Y_ref16_Names, ↓EVd, isCall, sevalprocAttr]; first | done | rfl) ?_
   obtain rfl := Option.some.inj hm0
   simp only [kk0_0, Y_ref16_Names, ↓EVd, isCall, sevalprocAttr]
   all_goals first | done | rfl | exact frzR_closed (by simp only [CLO])
 refine cwp_lp ho0 (fun (v3, v4) s => ∃ l2 : Nat, s.T 1 = .sl 2 (a1.map encPlace) ∧ s.T 2 = .loc 0 6 0 0 ∧ s.T 5 = .msl l2 v3.length ∧ s.T 6 = int v4 ∧ s.H 0 = some (.row 41 6 [encStack a0]) ∧ s.H l2 = some (.row 9 1 (v3.map str)) ∧ Lq 0 s.nx ∧ Lq l2 s.nx ∧ Nq 0 l2) ?_ ?_
 · refine TI.here ⟨2, ?_, ?_, ?_, ?_, ?_, ?_, ?_, ?_, ?_⟩
   all_goals try simp only [Y_ref16_Names, ↓EVd, isCall, sevalprocAttr]
   all_goals first | omega | exact lq (by omega) | exact nq (by omega) | rfl | (congr 1; omega)
 rintro I0 ⟨v3, v4⟩ T0 H0 x1 st0 ⟨l2, kk0⟩ hm1 hI0 hO0
 dsimp only [Lq, Nq] at kk0
 simp only [m_ref16_Names_b0] at hm1
 rcases iteE hm1 with ⟨e9, hm1⟩ | ⟨e9, hm1⟩
 · obtain ⟨v10, e12, hm1⟩ := ixE encPlace hm1
   obtain ⟨v13, h14, hm1⟩ := bsE hm1
   simp only [kk0, e9, e12, Y_ref16_Names, ↓EVd, isCall, sevalprocAttr]
   refine qd (ok_ref15_Lower _ _ _ h14) rfl ?_
   obtain ⟨o1, ho1, hm1⟩ := bsE hm1
   simp only [kk0, e9, e12, Y_ref16_Names, ↓EVd, isCall, sevalprocAttr]
   refine cwp_cx 2 (fun s => ∃ v21 : List ByteArray, ∃ l20 : Nat, (s.T 1 = .sl 2 (a1.map encPlace) ∧ s.T 2 = .loc 0 6 0 0 ∧ s.T 5 = .msl l20 v21.length ∧ s.T 6 = int v4 ∧ s.H 0 = some (.row 41 6 [encStack a0]) ∧ s.H l20 = some (.row 9 1 (v21.map str)) ∧ Lq 0 s.nx ∧ Lq l20 s.nx ∧ Nq 0 l20) ∧ v21 = o1) ?_ fun J1_0 hJ1_0 => ?_
   · rintro T1 H1 x19 ⟨v21, l20, kk1_0, rfl⟩
     dsimp only [Lq, Nq] at kk1_0
     try dsimp only at hm1
     obtain rfl := Option.some.inj hm1
     simp only [kk1_0, e9, e12, Y_ref16_Names, ↓EVd, isCall, sevalprocAttr]
     refine TI.here (hI0 _ rfl _ ⟨l20, ?_, ?_, ?_, ?_, ?_, ?_, ?_, ?_, ?_⟩)
     all_goals try simp only [kk1_0, e9, e12, Y_ref16_Names, ↓EVd, isCall, sevalprocAttr]
     all_goals first | omega | exact lq (by omega) | exact nq (by omega) | rfl | (congr 1; omega)
   refine cwp_lp ho1 (fun (v17, v18) s => ∃ l16 : Nat, s.T 1 = .sl 2 (a1.map encPlace) ∧ s.T 2 = .loc 0 6 0 0 ∧ s.T 5 = .msl l16 v17.length ∧ s.T 6 = int v4 ∧ s.T 7 = .loc (x1 + 10) 13 0 0 ∧ s.T 8 = int v18 ∧ s.H 0 = some (.row 41 6 [encStack a0]) ∧ s.H (x1 + 10) = some (.row 73 13 [encNode v13]) ∧ s.H l16 = some (.row 9 1 (v17.map str)) ∧ Lq 0 s.nx ∧ Lq (x1 + 10) s.nx ∧ Lq l16 s.nx ∧ Nq 0 (x1 + 10) ∧ Nq 0 l16 ∧ Nq (x1 + 10) l16) ?_ ?_
   · refine TI.here ⟨l2, ?_, ?_, ?_, ?_, ?_, ?_, ?_, ?_, ?_, ?_, ?_, ?_, ?_, ?_, ?_⟩
     all_goals try simp only [kk0, e9, e12, Y_ref16_Names, ↓EVd, isCall, sevalprocAttr]
     all_goals first | omega | exact lq (by omega) | exact nq (by omega) | rfl | (congr 1; omega)
   rintro I1 ⟨v17, v18⟩ T1 H1 x15 st1 ⟨l16, kk1⟩ hm2 hI1 hO1
   dsimp only [Lq, Nq] at kk1
   simp only [m_ref16_Names_b1] at hm2
   rcases iteE hm2 with ⟨e23, hm2⟩ | ⟨e23, hm2⟩
   · rcases iteE hm2 with ⟨e25, hm2⟩ | ⟨e25, hm2⟩
     · obtain ⟨v26, e28, hm2⟩ := ixE encEntry hm2
       obtain ⟨v29, h30, hm2⟩ := bsE hm2
       simp only [kk1, e9, e12, e23, e25, e28, Y_ref16_Names, ↓EVd, isCall, sevalprocAttr]
       refine qd (ok_ref16_Find _ _ _ _ h30) rfl ?_
       rcases iteE hm2 with ⟨e32, hm2⟩ | ⟨e32, hm2⟩
       · obtain rfl := Option.some.inj hm2
         simp only [kk1, e9, e12, e23, e25, e28, e32, Y_ref16_Names, ↓EVd, isCall, sevalprocAttr]
         refine TI.here (hI1 _ rfl _ ⟨l16, ?_, ?_, ?_, ?_, ?_, ?_, ?_, ?_, ?_, ?_, ?_, ?_, ?_, ?_, ?_⟩)
         all_goals try simp only [kk1, e9, e12, e23, e25, e28, e32, Y_ref16_Names, ↓EVd, isCall, sevalprocAttr]
         all_goals first | omega | exact lq (by omega) | exact nq (by omega) | rfl | (congr 1; omega)
       obtain ⟨e35, hm2⟩ := apE hm2
       try simp only [ZL] at e35
       obtain rfl := Option.some.inj hm2
       simp only [kk1, e9, e12, e23, e25, e28, e32, e35, Y_ref16_Names, ↓EVd, isCall, sevalprocAttr]
       refine TI.here (hI1 _ rfl _ ⟨(x15 + 34), ?_, ?_, ?_, ?_, ?_, ?_, ?_, ?_, ?_, ?_, ?_, ?_, ?_, ?_, ?_⟩)
       all_goals try simp only [kk1, e9, e12, e23, e25, e28, e32, e35, Y_ref16_Names, ↓EVd, isCall, sevalprocAttr]
       all_goals first | omega | exact lq (by omega) | exact nq (by omega) | rfl | (congr 1; omega)
     obtain rfl := Option.some.inj hm2
     simp only [kk1, e9, e12, e23, e25, Y_ref16_Names, ↓EVd, isCall, sevalprocAttr]
     refine TI.here (hJ1_0 _ ⟨v17, l16, ⟨?_, ?_, ?_, ?_, ?_, ?_, ?_, ?_, ?_⟩, hO1 _ rfl⟩)
     all_goals try simp only [kk1, e9, e12, e23, e25, Y_ref16_Names, ↓EVd, isCall, sevalprocAttr]
     all_goals first | omega | exact lq (by omega) | exact nq (by omega) | rfl | (congr 1; omega)
   obtain rfl := Option.some.inj hm2
   simp only [kk1, e9, e12, e23, Y_ref16_Names, ↓EVd, isCall, sevalprocAttr]
   refine TI.here (hJ1_0 _ ⟨v17, l16, ⟨?_, ?_, ?_, ?_, ?_, ?_, ?_, ?_, ?_⟩, hO1 _ rfl⟩)
   all_goals try simp only [kk1, e9, e12, e23, Y_ref16_Names, ↓EVd, isCall, sevalprocAttr]
   all_goals first | omega | exact lq (by omega) | exact nq (by omega) | rfl | (congr 1; omega)
 obtain rfl := Option.some.inj hm1
 simp only [kk0, e9, Y_ref16_Names, ↓EVd, isCall, sevalprocAttr]
 refine TI.here (hJ0_0 _ ⟨v3, l2, ⟨?_, ?_, ?_⟩, hO0 _ rfl⟩)
 all_goals try simp only [kk0, e9, Y_ref16_Names, ↓EVd, isCall, sevalprocAttr]
 all_goals first | omega | exact lq (by omega) | exact nq (by omega) | rfl | (congr 1; omega)
end Go.Proofs.Ytlgikchfddhocaa.AL

/- Loops of models, in plain words. -/
set_option linter.all false
namespace Go.Proofs.Ytlgikchfddhocaa.AL
open Go Go.Proofs

/-! ### Loops -/
theorem iter_term {S ρ : Type} {B : S → Option (St S ρ)} {R : ρ → Prop} (I : Nat → S → Prop) (N : Nat) (hs : ∀ i s, I i s → i ≤ N ∧ ((∃ s', B s = some (.nx s') ∧ I (i + 1) s') ∨ ∃ r, B s = some (.out r) ∧ R r)) :
    ∀ (fuel i : Nat) (s : S), I i s → N < fuel + i → ∃ r, iter B fuel s = some r ∧ R r
  | 0, i, s, h, hf => by have := (hs i s h).1; omega
  | fuel + 1, i, s, h, hf => by
    rw [iter_succ]
    rcases (hs i s h).2 with ⟨s', h1, h2⟩ | ⟨r, h1, h2⟩
    · rw [h1]
      exact iter_term I N hs fuel (i + 1) s' h2 (by omega)
    · rw [h1]
      exact ⟨r, rfl, h2⟩
theorem big_eq : big = 1000000000000000000 := rfl
theorem ix_at {α : Type} {xs : List α} {i : Nat} (h : i < xs.length) : ix xs (i : Int) = some xs[i] := by
  unfold ix
  rw [if_pos (by omega)]
  simp [h]
theorem ix_of {α : Type} {xs : List α} {n : Int} (h0 : 0 ≤ n) (h : n < xs.length) : ix xs n = some (xs[n.toNat]'(by omega)) := by
  unfold ix
  rw [if_pos h0]
  simp
theorem wr_suc {i : Nat} (h : i < 4611686018427387904) : wr ((i : Int) + 1) = ((i + 1 : Nat) : Int) := by rw [wr_in (by omega) (by omega)]; omega
theorem ap_of {α : Type} {k : Nat} {xs ys : List α} (h : (xs.length + ys.length) * k ≤ 140737488355328) (hk : 0 < k) : ap k xs ys = some (xs ++ ys) := by
  unfold ap
  have : xs.length + ys.length ≤ (xs.length + ys.length) * k := Nat.le_mul_of_pos_right _ hk
  have h2 : xs.length + ys.length ≤ 9223372036854775807 := by omega
  rw [if_pos ⟨h, h2⟩]
/-- Over the places of a list, from the first to the last. -/
theorem iter_fold {α σ S ρ : Type} {B : S → Option (St S ρ)} (mk : Nat → σ → S) (xs : List α) (step : σ → α → σ) (fin : σ → ρ) (I : Nat → σ → Prop) (hs : ∀ i s (h : i < xs.length), I i s → B (mk i s) = some (.nx (mk (i + 1) (step s xs[i]))) ∧ I (i + 1) (step s xs[i]))
    (he : ∀ s, I xs.length s → B (mk xs.length s) = some (.out (fin s))) {s0 : σ} (h0 : I 0 s0) {fuel : Nat} (hf : xs.length < fuel) : iter B fuel (mk 0 s0) = some (fin (xs.foldl step s0)) ∧ I xs.length (xs.foldl step s0) := by
  have key : ∀ (d i : Nat) (s : σ) (fuel : Nat), d + i = xs.length → I i s → d < fuel → iter B fuel (mk i s) = some (fin ((xs.drop i).foldl step s)) ∧ I xs.length ((xs.drop i).foldl step s) := by
    intro d
    induction d with
    | zero =>
      intro i s fuel hd hi hf
      obtain rfl : i = xs.length := by omega
      cases fuel with
      | zero => omega
      | succ fuel =>
        rw [iter_succ, he s hi]
        simp [hi]
    | succ d ih =>
      intro i s fuel hd hi hf
      cases fuel with
      | zero => omega
      | succ fuel =>
        have hlt : i < xs.length := by omega
        obtain ⟨h1, h2⟩ := hs i s hlt hi
        rw [iter_succ, h1]
        have := ih (i + 1) _ fuel (by omega) h2 (by omega)
        rw [List.drop_eq_getElem_cons hlt]
        exact this
  have := key xs.length 0 s0 fuel (by omega) h0 hf
  simpa using this
theorem eqLoop {α : Type} [DecidableEq α] {a b : List α} {B : Int → Option (St Int (Unit ⊕ Bool))} (hl : a.length = b.length) (hlen : a.length ≤ 1000000000)
    (hB : ∀ (i : Nat) (h : i < a.length) (h' : i < b.length), B (i : Int) = if a[i] = b[i] then some (.nx ((i + 1 : Nat) : Int)) else some (.out (.inr false))) (hE : B (a.length : Int) = some (.out (.inl ()))) :
    iter B big 0 = some (if a = b then .inl () else .inr false) := by
  obtain ⟨r, h1, h2⟩ := iter_term (B := B) (R := fun r => r = if a = b then .inl () else .inr false) (fun i t => t = (i : Int) ∧ i ≤ a.length ∧ ∀ j (h : j < a.length) (h' : j < b.length), j < i → a[j] = b[j]) a.length (by
    rintro i t ⟨rfl, hi, hj⟩
    refine ⟨hi, ?_⟩
    by_cases hlt : i < a.length
    · rw [hB i hlt (by omega)]
      by_cases he : a[i] = b[i]
      · rw [if_pos he]
        refine .inl ⟨_, rfl, rfl, by omega, fun j h h' hji => ?_⟩
        by_cases e : j = i
        · subst e; exact he
        · exact hj j h h' (by omega)
      · rw [if_neg he]
        refine .inr ⟨_, rfl, ?_⟩
        rw [if_neg]
        rintro rfl
        exact he rfl
    · obtain rfl : i = a.length := by omega
      rw [hE]
      refine .inr ⟨_, rfl, ?_⟩
      rw [if_pos (List.ext_getElem hl fun j h h' => hj j h h' h)]) big 0 0 ⟨rfl, by omega, fun j _ _ h => by omega⟩ (by rw [big_eq]; omega)
  rw [h1, h2]
theorem contains_tot {α : Type} {p : α → Option Bool} {f : α → Bool} : ∀ (l : List α), (∀ x ∈ l, p x = some (f x)) → l.length < 1000000 → containsM p l = some (l.any f) := by
  have key : ∀ (l : List α) (i : Nat), (∀ x ∈ l, p x = some (f x)) → ∃ r, idxM p l i = some r ∧ (0 ≤ r ↔ l.any f = true) := by
    intro l
    induction l with
    | nil => intro i _; exact ⟨-1, rfl, by simp⟩
    | cons x l ih =>
      intro i h
      unfold idxM
      rw [h x (by simp)]
      simp only [Option.bind_some]
      by_cases hx : f x = true
      · rw [if_pos hx]; exact ⟨_, rfl, by simp [hx]⟩
      · rw [if_neg hx]
        obtain ⟨r, h1, h2⟩ := ih (i + 1) (fun y hy => h y (by simp [hy]))
        exact ⟨r, h1, by rw [h2]; simp [hx]⟩
  intro l h hl
  obtain ⟨r, h1, h2⟩ := key l 0 h
  unfold containsM indexM ck
  rw [if_pos (by omega)]
  simp only [Option.bind_some]
  rw [h1]
  simp only [Option.bind_some]
  congr 1
  cases ha : l.any f with
  | true => simp [h2.2 ha]
  | false =>
    have : ¬ 0 ≤ r := fun h => by have := h2.1 h; rw [ha] at this; cases this
    simp [this]
theorem tot_fun {α : Type} {p : α → Option Bool} (h : ∀ x, ∃ r, p x = some r) : ∃ f : α → Bool, ∀ x, p x = some (f x) := ⟨fun x => Classical.choose (h x), fun x => Classical.choose_spec (h x)⟩
end Go.Proofs.Ytlgikchfddhocaa.AL

/- Plain laws: the guard of chapter 16's statements. -/
set_option linter.all false
namespace Go.Proofs.Ytlgikchfddhocaa.AL
open Go Go.Proofs
theorem letter_tot (n : Int) : ∃ r, m_ref03_letter n = some r := by
  unfold m_ref03_letter
  repeat' split
  all_goals exact ⟨_, rfl⟩
theorem right_tot (s : ByteArray) : ∃ r, m_ref03_Right s = some r := by
  unfold m_ref03_Right
  by_cases h1 : (s.size : Int) < 1
  · rw [if_pos h1]; exact ⟨_, rfl⟩
  rw [if_neg h1]
  by_cases h2 : 12 < (s.size : Int)
  · rw [if_pos h2]; exact ⟨_, rfl⟩
  rw [if_neg h2]
  split
  · exact ⟨_, rfl⟩
  split
  · exact ⟨_, rfl⟩
  obtain ⟨r, h3, _⟩ := iter_term (B := m_ref03_Right_b0 s) (R := fun _ => True) (fun i t => t = (i : Int) ∧ i ≤ s.size) s.size (by
    rintro i t ⟨rfl, hi⟩
    refine ⟨hi, ?_⟩
    simp only [m_ref03_Right_b0]
    by_cases hlt : i < s.size
    · rw [if_pos (by omega)]
      have hx : ixB s (i : Int) = some s[i] := by
        unfold ixB
        rw [if_pos (by omega)]
        simp [hlt]
      rw [hx]
      simp only [Option.bind_some]
      obtain ⟨r, hr⟩ := letter_tot (s[i].toNat : Int)
      rw [hr]
      simp only [Option.bind_some]
      split
      · exact .inr ⟨_, rfl, trivial⟩
      · rw [wr_suc (by omega)]
        exact .inl ⟨_, rfl, rfl, by omega⟩
    · rw [if_neg (by omega)]
      exact .inr ⟨_, rfl, trivial⟩) big 0 0 ⟨rfl, by omega⟩ (by rw [big_eq]; omega)
  rw [h3]
  cases r with
  | inl u => exact ⟨_, rfl⟩
  | inr r => exact ⟨_, rfl⟩
theorem odd_tot (e : Entry) : ∃ r, m_plain_odd e = some r := by
  unfold m_plain_odd
  obtain ⟨r, hr⟩ := right_tot e.name
  rw [hr]
  exact ⟨_, rfl⟩
/-! ### Nodes -/
structure NB (x : Node) : Prop where
  ents : x.entries.length ≤ 16
  has0 : 0 ≤ x.attr.has
  has1 : x.attr.has ≤ 31
theorem node_tot (x : Node) : ∃ r, m_plain_Node x = some r ∧ (r = true → NB x) := by
  unfold m_plain_Node
  obtain ⟨r, h3, h4⟩ := iter_term (B := m_plain_Node_b0 x) (R := fun r => match r with | .inl _ => True | .inr r => r = false) (fun i t => t = (i : Int) ∧ i ≤ x.entries.length ∧ ∀ (h : 0 < i) (h' : i - 1 < x.entries.length), (i : Int) - 1 ≤ x.entries[i - 1].slot ∧ x.entries[i - 1].slot < 16) 16 (by
    rintro i t ⟨rfl, hi, hp⟩
    refine ⟨?_, ?_⟩
    · by_cases h0 : 0 < i
      · have := hp h0 (by omega); omega
      · omega
    simp only [m_plain_Node_b0]
    by_cases hlt : i < x.entries.length
    · have hi16 : i ≤ 16 := by
        by_cases h0 : 0 < i
        · have := hp h0 (by omega); omega
        · omega
      rw [if_pos (by omega), ix_at hlt]
      simp only [Option.bind_some]
      by_cases c1 : x.entries[i].slot < 0
      · rw [if_pos c1]; exact .inr ⟨_, rfl, rfl⟩
      rw [if_neg c1]
      by_cases c2 : 16 ≤ x.entries[i].slot
      · rw [if_pos c2]; exact .inr ⟨_, rfl, rfl⟩
      rw [if_neg c2]
      by_cases c3 : 0 < i
      · have hw : wr ((i : Int) - 1) = ((i - 1 : Nat) : Int) := by rw [wr_in (by omega) (by omega)]; omega
        have hlt' : i - 1 < x.entries.length := by omega
        rw [if_pos (by omega), hw, ix_at hlt']
        simp only [Option.bind_some]
        by_cases c4 : x.entries[i].slot ≤ x.entries[i - 1].slot
        · rw [if_pos c4]; exact .inr ⟨_, rfl, rfl⟩
        · rw [if_neg c4, wr_suc (by omega)]
          refine .inl ⟨_, rfl, rfl, by omega, fun h h' => ?_⟩
          have := hp c3 hlt'
          simp only [Nat.add_sub_cancel]
          omega
      · rw [if_neg (by omega), wr_suc (by omega)]
        refine .inl ⟨_, rfl, rfl, by omega, fun h h' => ?_⟩
        simp only [Nat.add_sub_cancel]
        omega
    · rw [if_neg (by omega)]
      exact .inr ⟨_, rfl, trivial⟩) big 0 0 ⟨rfl, by omega, fun h => by omega⟩ (by rw [big_eq]; omega)
  rw [h3]
  cases r with
  | inr r => simp only at h4; subst h4; exact ⟨_, rfl, fun h => by cases h⟩
  | inl u =>
    simp only [Option.bind_some]
    repeat' (first
      | exact ⟨_, rfl, fun h => by cases h⟩
      | split)
    rename_i c1 c2 c3 c4 c5 c6 c7 c8 c9
    obtain ⟨f, hf⟩ := tot_fun odd_tot
    rw [contains_tot (f := f) x.entries (fun y _ => hf y) (by omega)]
    exact ⟨_, rfl, fun _ => ⟨by omega, c5, c6⟩⟩
theorem branch_tot (b : Branch) : ∃ r, m_plain_Branch b 24 = some r ∧ (r = true → b.nodes.length ≤ 24 ∧ ∀ x ∈ b.nodes, NB x) := by
  unfold m_plain_Branch
  by_cases h : (b.nodes.length : Int) ≤ 24
  · rw [if_pos h]
    have ht : ∀ x, ∃ r, m_plain_Branch_1 x = some r := fun x => by
      obtain ⟨r, h1, _⟩ := node_tot x
      unfold m_plain_Branch_1
      rw [h1]
      exact ⟨_, rfl⟩
    obtain ⟨f, hf⟩ := tot_fun ht
    rw [contains_tot (f := f) b.nodes (fun y _ => hf y) (by omega)]
    refine ⟨_, rfl, fun hr => ⟨by omega, fun x hx => ?_⟩⟩
    have hx' : f x = false := by
      simp only [Bool.not_eq_true', List.any_eq_false] at hr
      simpa using hr x hx
    obtain ⟨r, h1, h2⟩ := node_tot x
    have := hf x
    unfold m_plain_Branch_1 at this
    rw [h1, hx'] at this
    simp only [Option.bind_some, Option.some.injEq, Bool.not_eq_false'] at this
    exact h2 this
  · rw [if_neg h]
    exact ⟨_, rfl, fun h => by cases h⟩
structure SB (s : Stack) : Prop where
  low : s.lowers.length ≤ 3
  up : s.upper.nodes.length ≤ 24 ∧ ∀ x ∈ s.upper.nodes, NB x
  lows : ∀ b ∈ s.lowers, b.nodes.length ≤ 24 ∧ ∀ x ∈ b.nodes, NB x
theorem stack_tot (s : Stack) : ∃ r, m_plain_Stack s 24 = some r ∧ (r = true → SB s) := by
  unfold m_plain_Stack
  by_cases h : (s.lowers.length : Int) ≤ 3
  · rw [if_pos h]
    obtain ⟨r, h1, h2⟩ := branch_tot s.upper
    rw [h1]
    simp only [Option.bind_some]
    cases r with
    | false => exact ⟨false, by simp, fun h => by cases h⟩
    | true =>
      rw [if_pos rfl]
      have ht : ∀ x, ∃ r, m_plain_Stack_1 x 24 = some r := fun x => by
        obtain ⟨r, h1, _⟩ := branch_tot x
        unfold m_plain_Stack_1
        rw [h1]
        exact ⟨_, rfl⟩
      obtain ⟨f, hf⟩ := tot_fun ht
      rw [contains_tot (f := f) s.lowers (fun y _ => hf y) (by omega)]
      refine ⟨_, rfl, fun hr => ⟨by omega, h2 rfl, fun x hx => ?_⟩⟩
      have hx' : f x = false := by
        simp only [Bool.not_eq_true', List.any_eq_false] at hr
        simpa using hr x hx
      obtain ⟨r, h1, h2⟩ := branch_tot x
      have := hf x
      unfold m_plain_Stack_1 at this
      rw [h1, hx'] at this
      simp only [Option.bind_some, Option.some.injEq, Bool.not_eq_false'] at this
      exact h2 this
  · rw [if_neg h]
    exact ⟨_, rfl, fun h => by cases h⟩
end Go.Proofs.Ytlgikchfddhocaa.AL

