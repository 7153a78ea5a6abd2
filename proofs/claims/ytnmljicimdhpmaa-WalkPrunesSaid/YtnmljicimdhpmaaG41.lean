/- A law of the given program is proved: part 41 of 55. -/
import Derived.Test.YtnmljicimdhpmaaG40
set_option linter.all false
/- Models of functions, and that the functions are as their models: written by gen.py. -/
set_option linter.all false
set_option maxRecDepth 100000
namespace Go.Proofs.Ytnmljicimdhpmaa.AL
open Go Go.Proofs
def m_ref03_letter (a0 : Int) : Option (Bool) := if 97 ≤ a0 then if a0 ≤ 122 then some true
 else if 48 ≤ a0 then if a0 ≤ 57 then some true
 else if a0 = 46 then some true
 else if a0 = 95 then some true
 else if a0 = 45 then some true
 else some false
 else if a0 = 46 then some true
 else if a0 = 95 then some true
 else if a0 = 45 then some true
 else some false
 else if 48 ≤ a0 then if a0 ≤ 57 then some true
 else if a0 = 46 then some true
 else if a0 = 95 then some true
 else if a0 = 45 then some true
 else some false
 else if a0 = 46 then some true
 else if a0 = 95 then some true
 else if a0 = 45 then some true
 else some false
def Y_ref03_letter := And.intro ((@EV)) ((@R5))
set_option maxHeartbeats 2000000 in
theorem ok_ref03_letter (a0 : Int) (r : Bool) (hm0 : m_ref03_letter a0 = some r) : Ok Try.prog 105 [ik .u8 a0] (bool r) := by
 unfold m_ref03_letter at hm0
 refine okG fc_ref03_letter ?_
 unfold c_ref03_letter
 rcases iteE hm0 with ⟨e2, hm0⟩ | ⟨e2, hm0⟩
 · rcases iteE hm0 with ⟨e4, hm0⟩ | ⟨e4, hm0⟩
   · obtain rfl := Option.some.inj hm0
     simp only [e2, e4, Y_ref03_letter, ↓EVd, isCall, sevalprocAttr]
     all_goals first | done | rfl
   rcases iteE hm0 with ⟨e6, hm0⟩ | ⟨e6, hm0⟩
   · rcases iteE hm0 with ⟨e8, hm0⟩ | ⟨e8, hm0⟩
     · obtain rfl := Option.some.inj hm0
       simp only [e2, e4, e6, e8, Y_ref03_letter, ↓EVd, isCall, sevalprocAttr]
       all_goals first | done | rfl
     rcases iteE hm0 with ⟨e10, hm0⟩ | ⟨e10, hm0⟩
     · obtain rfl := Option.some.inj hm0
       simp only [e2, e4, e6, e8, e10, Y_ref03_letter, ↓EVd, isCall, sevalprocAttr]
       all_goals first | done | rfl
     rcases iteE hm0 with ⟨e12, hm0⟩ | ⟨e12, hm0⟩
     · obtain rfl := Option.some.inj hm0
       simp only [e2, e4, e6, e8, e10, e12, Y_ref03_letter, ↓EVd, isCall, sevalprocAttr]
       all_goals first | done | rfl
     rcases iteE hm0 with ⟨e14, hm0⟩ | ⟨e14, hm0⟩
     · obtain rfl := Option.some.inj hm0
       simp only [e2, e4, e6, e8, e10, e12, e14, Y_ref03_letter, ↓EVd, isCall, sevalprocAttr]
       all_goals first | done | rfl
     obtain rfl := Option.some.inj hm0
     simp only [e2, e4, e6, e8, e10, e12, e14, Y_ref03_letter, ↓EVd, isCall, sevalprocAttr]
     all_goals first | done | rfl
   rcases iteE hm0 with ⟨e16, hm0⟩ | ⟨e16, hm0⟩
   · obtain rfl := Option.some.inj hm0
     simp only [e2, e4, e6, e16, Y_ref03_letter, ↓EVd, isCall, sevalprocAttr]
     all_goals first | done | rfl
   rcases iteE hm0 with ⟨e18, hm0⟩ | ⟨e18, hm0⟩
   · obtain rfl := Option.some.inj hm0
     simp only [e2, e4, e6, e16, e18, Y_ref03_letter, ↓EVd, isCall, sevalprocAttr]
     all_goals first | done | rfl
   rcases iteE hm0 with ⟨e20, hm0⟩ | ⟨e20, hm0⟩
   · obtain rfl := Option.some.inj hm0
     simp only [e2, e4, e6, e16, e18, e20, Y_ref03_letter, ↓EVd, isCall, sevalprocAttr]
     all_goals first | done | rfl
   obtain rfl := Option.some.inj hm0
   simp only [e2, e4, e6, e16, e18, e20, Y_ref03_letter, ↓EVd, isCall, sevalprocAttr]
   all_goals first | done | rfl
 rcases iteE hm0 with ⟨e22, hm0⟩ | ⟨e22, hm0⟩
 · rcases iteE hm0 with ⟨e24, hm0⟩ | ⟨e24, hm0⟩
   · obtain rfl := Option.some.inj hm0
     simp only [e2, e22, e24, Y_ref03_letter, ↓EVd, isCall, sevalprocAttr]
     all_goals first | done | rfl
   rcases iteE hm0 with ⟨e26, hm0⟩ | ⟨e26, hm0⟩
   · obtain rfl := Option.some.inj hm0
     simp only [e2, e22, e24, e26, Y_ref03_letter, ↓EVd, isCall, sevalprocAttr]
     all_goals first | done | rfl
   rcases iteE hm0 with ⟨e28, hm0⟩ | ⟨e28, hm0⟩
   · obtain rfl := Option.some.inj hm0
     simp only [e2, e22, e24, e26, e28, Y_ref03_letter, ↓EVd, isCall, sevalprocAttr]
     all_goals first | done | rfl
   rcases iteE hm0 with ⟨e30, hm0⟩ | ⟨e30, hm0⟩
   · obtain rfl := Option.some.inj hm0
     simp only [e2, e22, e24, e26, e28, e30, Y_ref03_letter, ↓EVd, isCall, sevalprocAttr]
     all_goals first | done | rfl
   obtain rfl := Option.some.inj hm0
   simp only [e2, e22, e24, e26, e28, e30, Y_ref03_letter, ↓EVd, isCall, sevalprocAttr]
   all_goals first | done | rfl
 rcases iteE hm0 with ⟨e32, hm0⟩ | ⟨e32, hm0⟩
 · obtain rfl := Option.some.inj hm0
   simp only [e2, e22, e32, Y_ref03_letter, ↓EVd, isCall, sevalprocAttr]
   all_goals first | done | rfl
 rcases iteE hm0 with ⟨e34, hm0⟩ | ⟨e34, hm0⟩
 · obtain rfl := Option.some.inj hm0
   simp only [e2, e22, e32, e34, Y_ref03_letter, ↓EVd, isCall, sevalprocAttr]
   all_goals first | done | rfl
 rcases iteE hm0 with ⟨e36, hm0⟩ | ⟨e36, hm0⟩
 · obtain rfl := Option.some.inj hm0
   simp only [e2, e22, e32, e34, e36, Y_ref03_letter, ↓EVd, isCall, sevalprocAttr]
   all_goals first | done | rfl
 obtain rfl := Option.some.inj hm0
 simp only [e2, e22, e32, e34, e36, Y_ref03_letter, ↓EVd, isCall, sevalprocAttr]
 all_goals first | done | rfl
def m_ref03_Right_b0 (a0 : ByteArray) : Int → Option (St (Int) ((Unit) ⊕ (Bool)))
 | v10 => if v10 < (a0.size : Int) then (ixB a0 v10).bind fun v14 => (m_ref03_letter (v14.toNat : Int)).bind fun v17 => if (!v17) = true then some (.out (.inr false))
 else some (.nx (wr (v10 + 1)))
 else some (.out (.inl ()))
def m_ref03_Right (a0 : ByteArray) : Option (Bool) := if (a0.size : Int) < 1 then some false
 else if 12 < (a0.size : Int) then some false
 else if a0 = (ByteArray.mk #[46]) then some false
 else if a0 = (ByteArray.mk #[46, 46]) then some false
 else (iter (m_ref03_Right_b0 a0) big 0).bind fun o => (match o with
 | (.inl _) => some true
 | (.inr r) => some r)
def Y_ref03_Right := And.intro (And.intro ((@EV)) ((@R3))) (And.intro ((@R5)) ((@R9)))
set_option maxHeartbeats 2000000 in
theorem ok_ref03_Right (a0 : ByteArray) (r : Bool) (hm0 : m_ref03_Right a0 = some r) : Ok Try.prog 96 [str a0] (bool r) := by
 unfold m_ref03_Right at hm0
 refine okG fc_ref03_Right ?_
 unfold c_ref03_Right
 rcases iteE hm0 with ⟨e2, hm0⟩ | ⟨e2, hm0⟩
 · obtain rfl := Option.some.inj hm0
   simp only [e2, Y_ref03_Right, ↓EVd, isCall, sevalprocAttr]
   all_goals first | done | rfl
 rcases iteE hm0 with ⟨e4, hm0⟩ | ⟨e4, hm0⟩
 · obtain rfl := Option.some.inj hm0
   simp only [e2, e4, Y_ref03_Right, ↓EVd, isCall, sevalprocAttr]
   all_goals first | done | rfl
 rcases iteE hm0 with ⟨e6, hm0⟩ | ⟨e6, hm0⟩
 · obtain rfl := Option.some.inj hm0
   simp only [e2, e4, e6, Y_ref03_Right, ↓EVd, isCall, sevalprocAttr]
   all_goals first | done | rfl
 rcases iteE hm0 with ⟨e8, hm0⟩ | ⟨e8, hm0⟩
 · obtain rfl := Option.some.inj hm0
   simp only [e2, e4, e6, e8, Y_ref03_Right, ↓EVd, isCall, sevalprocAttr]
   all_goals first | done | rfl
 obtain ⟨o0, ho0, hm0⟩ := bsE hm0
 simp only [e2, e4, e6, e8, Y_ref03_Right, ↓EVd, isCall, sevalprocAttr]
 refine cwp_cx 0 (fun s => (.inl ()) = o0) ?_ fun J0_0 hJ0_0 => ?_
 · rintro T0 H0 x11 rfl
   try dsimp only at hm0
   obtain rfl := Option.some.inj hm0
   simp only [e2, e4, e6, e8, Y_ref03_Right, ↓EVd, isCall, sevalprocAttr]
   all_goals first | done | rfl
 refine cwp_lp ho0 (fun v10 s => s.T 0 = str a0 ∧ s.T 3 = int v10) ?_ ?_
 · refine TI.here ⟨?_, ?_⟩
   all_goals try simp only [e2, e4, e6, e8, Y_ref03_Right, ↓EVd, isCall, sevalprocAttr]
   all_goals first | omega | exact lq (by omega) | exact nq (by omega) | rfl | (congr 1; omega)
 rintro I0 v10 T0 H0 x9 st0 kk0 hm1 hI0 hO0
 dsimp only [Lq, Nq] at kk0
 simp only [m_ref03_Right_b0] at hm1
 rcases iteE hm1 with ⟨e13, hm1⟩ | ⟨e13, hm1⟩
 · obtain ⟨v14, e16, hm1⟩ := ixBE hm1
   obtain ⟨v17, h18, hm1⟩ := bsE hm1
   simp only [kk0, e2, e4, e6, e8, e13, e16, Y_ref03_Right, ↓EVd, isCall, sevalprocAttr]
   refine qc (ok_ref03_letter _ _ h18) rfl ?_
   rcases itbE hm1 with ⟨e20, hm1⟩ | ⟨e20, hm1⟩
   · obtain rfl := Option.some.inj hm1
     obtain rfl := hO0 _ rfl
     try dsimp only at hm0
     obtain rfl := Option.some.inj hm0
     simp only [kk0, e2, e4, e6, e8, e13, e16, e20, Y_ref03_Right, ↓EVd, isCall, sevalprocAttr]
     all_goals first | done | rfl
   obtain rfl := Option.some.inj hm1
   simp only [kk0, e2, e4, e6, e8, e13, e16, e20, Y_ref03_Right, ↓EVd, isCall, sevalprocAttr]
   refine TI.here (hI0 _ rfl _ ⟨?_, ?_⟩)
   all_goals try simp only [kk0, e2, e4, e6, e8, e13, e16, e20, Y_ref03_Right, ↓EVd, isCall, sevalprocAttr]
   all_goals first | omega | exact lq (by omega) | exact nq (by omega) | rfl | (congr 1; omega)
 obtain rfl := Option.some.inj hm1
 simp only [kk0, e2, e4, e6, e8, e13, Y_ref03_Right, ↓EVd, isCall, sevalprocAttr]
 refine TI.here (hJ0_0 _ (hO0 _ rfl))
def m_plain_odd (a0 : Entry) : Option (Bool) := (m_ref03_Right a0.name).bind fun v1 => some (!v1)
def Y_plain_odd := And.intro (And.intro ((@EV)) ((@R9))) (And.intro ((@R54)) ((@DEntry)))
set_option maxHeartbeats 2000000 in
theorem ok_plain_odd (a0 : Entry) (r : Bool) (hm0 : m_plain_odd a0 = some r) : Ok Try.prog 66 [encEntry a0] (bool r) := by
 unfold m_plain_odd at hm0
 refine okG fc_plain_odd ?_
 unfold c_plain_odd
 obtain ⟨v1, h2, hm0⟩ := bsE hm0
 simp only [Y_plain_odd, ↓EVd, isCall, sevalprocAttr]
 refine qc (ok_ref03_Right _ _ h2) rfl ?_
 obtain rfl := Option.some.inj hm0
 simp only [Y_plain_odd, ↓EVd, isCall, sevalprocAttr]
 all_goals first | done | rfl
def m_plain_Node_b0 (a0 : Node) : Int → Option (St (Int) ((Unit) ⊕ (Bool)))
 | v2 => if v2 < (a0.entries.length : Int) then (ix a0.entries v2).bind fun v6 => if v6.slot < 0 then some (.out (.inr false))
 else if 16 ≤ v6.slot then some (.out (.inr false))
 else if 0 < v2 then (ix a0.entries (wr (v2 - 1))).bind fun v15 => if v6.slot ≤ v15.slot then some (.out (.inr false))
 else some (.nx (wr (v2 + 1)))
 else some (.nx (wr (v2 + 1)))
 else some (.out (.inl ()))
def m_plain_Node (a0 : Node) : Option (Bool) := (iter (m_plain_Node_b0 a0) big 0).bind fun o => (match o with
 | (.inl _) => if 0 ≤ a0.kind then if a0.kind ≤ 4 then if (-9007199254740992) ≤ a0.nlink then if a0.nlink ≤ 9007199254740992 then if 0 ≤ a0.attr.has then if a0.attr.has ≤ 31 then if (a0.data.length : Int) ≤ 300 then if (a0.entries.length : Int) ≤ 16 then if (a0.attr.redirect.size : Int) ≤ 40 then (containsM (fun z => m_plain_odd z ) a0.entries).bind fun v38 => some (!v38)
 else some false
 else some false
 else some false
 else some false
 else some false
 else some false
 else some false
 else some false
 else some false
 | (.inr r) => some r)
def Y_plain_Node := And.intro (And.intro (And.intro ((@EV)) (And.intro ((@R3)) ((@R5)))) (And.intro (And.intro ((@R9)) ((@R39))) (And.intro ((@R40)) ((@R44))))) (And.intro (And.intro (And.intro ((@R46)) ((@R54))) (And.intro ((@R100)) ((@DOrigin)))) (And.intro (And.intro ((@DAttr)) ((@DNode))) (And.intro ((@DEntry)) ((@mixed)))))
set_option maxHeartbeats 2000000 in
theorem ok_plain_Node (a0 : Node) (r : Bool) (hm0 : m_plain_Node a0 = some r) : Ok Try.prog 24 [encNode a0] (bool r) := by
 unfold m_plain_Node at hm0
 refine okG fc_plain_Node ?_
 unfold c_plain_Node
 obtain ⟨o0, ho0, hm0⟩ := bsE hm0
 simp only [Y_plain_Node, ↓EVd, isCall, sevalprocAttr]
 refine cwp_cx 0 (fun s => (s.T 1 = .loc 0 13 0 0 ∧ s.H 0 = some (.row 46 13 [encNode a0]) ∧ Lq 0 s.nx) ∧ (.inl ()) = o0) ?_ fun J0_0 hJ0_0 => ?_
 · rintro T0 H0 x3 ⟨kk0_0, rfl⟩
   dsimp only [Lq, Nq] at kk0_0
   try dsimp only at hm0
   rcases iteE hm0 with ⟨e21, hm0⟩ | ⟨e21, hm0⟩
   · rcases iteE hm0 with ⟨e23, hm0⟩ | ⟨e23, hm0⟩
     · rcases iteE hm0 with ⟨e25, hm0⟩ | ⟨e25, hm0⟩
       · rcases iteE hm0 with ⟨e27, hm0⟩ | ⟨e27, hm0⟩
         · rcases iteE hm0 with ⟨e29, hm0⟩ | ⟨e29, hm0⟩
           · rcases iteE hm0 with ⟨e31, hm0⟩ | ⟨e31, hm0⟩
             · rcases iteE hm0 with ⟨e33, hm0⟩ | ⟨e33, hm0⟩
               · rcases iteE hm0 with ⟨e35, hm0⟩ | ⟨e35, hm0⟩
                 · have g40 := And.intro (And.intro (And.intro ((e21)) ((e23))) (And.intro ((e25)) ((e27)))) (And.intro (And.intro ((e29)) ((e31))) (And.intro ((e33)) ((e35))))
                   rcases iteE hm0 with ⟨e37, hm0⟩ | ⟨e37, hm0⟩
                   · obtain ⟨v38, h39, hm0⟩ := bsE hm0
                     simp only [kk0_0, g40, e37, Y_plain_Node, ↓EVd, isCall, sevalprocAttr]
                     refine qc (containsM_ok fc_slices_ContainsFunc_api_Entry_api_Entry fc_slices_IndexFunc_api_Entry_api_Entry elemOfT_40 aggN_54 (fi := []) (ca := []) encEntry a0.entries (fun z => m_plain_odd z ) _ h39 (fun z b hz => ok_plain_odd z  b hz) (fun z => by simp only [CLO]) rfl (by simp only [CLO]) (fun z => by simp only [Y_plain_Node, ↓EVd, isCall, sevalprocAttr])) rfl ?_
                     obtain rfl := Option.some.inj hm0
                     simp only [kk0_0, g40, e37, Y_plain_Node, ↓EVd, isCall, sevalprocAttr]
                     all_goals first | done | rfl
                   obtain rfl := Option.some.inj hm0
                   simp only [kk0_0, g40, e37, Y_plain_Node, ↓EVd, isCall, sevalprocAttr]
                   all_goals first | done | rfl
                 obtain rfl := Option.some.inj hm0
                 simp only [kk0_0, e21, e23, e25, e27, e29, e31, e33, e35, Y_plain_Node, ↓EVd, isCall, sevalprocAttr]
                 all_goals first | done | rfl
               obtain rfl := Option.some.inj hm0
               simp only [kk0_0, e21, e23, e25, e27, e29, e31, e33, Y_plain_Node, ↓EVd, isCall, sevalprocAttr]
               all_goals first | done | rfl
             obtain rfl := Option.some.inj hm0
             simp only [kk0_0, e21, e23, e25, e27, e29, e31, Y_plain_Node, ↓EVd, isCall, sevalprocAttr]
             all_goals first | done | rfl
           obtain rfl := Option.some.inj hm0
           simp only [kk0_0, e21, e23, e25, e27, e29, Y_plain_Node, ↓EVd, isCall, sevalprocAttr]
           all_goals first | done | rfl
         obtain rfl := Option.some.inj hm0
         simp only [kk0_0, e21, e23, e25, e27, Y_plain_Node, ↓EVd, isCall, sevalprocAttr]
         all_goals first | done | rfl
       obtain rfl := Option.some.inj hm0
       simp only [kk0_0, e21, e23, e25, Y_plain_Node, ↓EVd, isCall, sevalprocAttr]
       all_goals first | done | rfl
     obtain rfl := Option.some.inj hm0
     simp only [kk0_0, e21, e23, Y_plain_Node, ↓EVd, isCall, sevalprocAttr]
     all_goals first | done | rfl
   obtain rfl := Option.some.inj hm0
   simp only [kk0_0, e21, Y_plain_Node, ↓EVd, isCall, sevalprocAttr]
   all_goals first | done | rfl
 refine cwp_lp ho0 (fun v2 s => s.T 1 = .loc 0 13 0 0 ∧ s.T 6 = .sl 3 (a0.entries.map encEntry) ∧ s.T 7 = int (a0.entries.length : Int) ∧ s.T 8 = int v2 ∧ s.H 0 = some (.row 46 13 [encNode a0]) ∧ Lq 0 s.nx) ?_ ?_
 · refine TI.here ⟨?_, ?_, ?_, ?_, ?_, ?_⟩
   all_goals try simp only [Y_plain_Node, ↓EVd, isCall, sevalprocAttr]
   all_goals first | omega | exact lq (by omega) | exact nq (by omega) | rfl | (congr 1; omega)
 rintro I0 v2 T0 H0 x1 st0 kk0 hm1 hI0 hO0
 dsimp only [Lq, Nq] at kk0
 simp only [m_plain_Node_b0] at hm1
 rcases iteE hm1 with ⟨e5, hm1⟩ | ⟨e5, hm1⟩
 · obtain ⟨v6, e8, hm1⟩ := ixE encEntry hm1
   rcases iteE hm1 with ⟨e10, hm1⟩ | ⟨e10, hm1⟩
   · obtain rfl := Option.some.inj hm1
     obtain rfl := hO0 _ rfl
     try dsimp only at hm0
     obtain rfl := Option.some.inj hm0
     simp only [kk0, e5, e8, e10, Y_plain_Node, ↓EVd, isCall, sevalprocAttr]
     all_goals first | done | rfl
   rcases iteE hm1 with ⟨e12, hm1⟩ | ⟨e12, hm1⟩
   · obtain rfl := Option.some.inj hm1
     obtain rfl := hO0 _ rfl
     try dsimp only at hm0
     obtain rfl := Option.some.inj hm0
     simp only [kk0, e5, e8, e10, e12, Y_plain_Node, ↓EVd, isCall, sevalprocAttr]
     all_goals first | done | rfl
   rcases iteE hm1 with ⟨e14, hm1⟩ | ⟨e14, hm1⟩
   · obtain ⟨v15, e17, hm1⟩ := ixE encEntry hm1
     rcases iteE hm1 with ⟨e19, hm1⟩ | ⟨e19, hm1⟩
     · obtain rfl := Option.some.inj hm1
       obtain rfl := hO0 _ rfl
       try dsimp only at hm0
       obtain rfl := Option.some.inj hm0
       simp only [kk0, e5, e8, e10, e12, e14, e17, e19, Y_plain_Node, ↓EVd, isCall, sevalprocAttr]
       all_goals first | done | rfl
     obtain rfl := Option.some.inj hm1
     simp only [kk0, e5, e8, e10, e12, e14, e17, e19, Y_plain_Node, ↓EVd, isCall, sevalprocAttr]
     refine TI.here (hI0 _ rfl _ ⟨?_, ?_, ?_, ?_, ?_, ?_⟩)
     all_goals try simp only [kk0, e5, e8, e10, e12, e14, e17, e19, Y_plain_Node, ↓EVd, isCall, sevalprocAttr]
     all_goals first | omega | exact lq (by omega) | exact nq (by omega) | rfl | (congr 1; omega)
   obtain rfl := Option.some.inj hm1
   simp only [kk0, e5, e8, e10, e12, e14, Y_plain_Node, ↓EVd, isCall, sevalprocAttr]
   refine TI.here (hI0 _ rfl _ ⟨?_, ?_, ?_, ?_, ?_, ?_⟩)
   all_goals try simp only [kk0, e5, e8, e10, e12, e14, Y_plain_Node, ↓EVd, isCall, sevalprocAttr]
   all_goals first | omega | exact lq (by omega) | exact nq (by omega) | rfl | (congr 1; omega)
 obtain rfl := Option.some.inj hm1
 simp only [kk0, e5, Y_plain_Node, ↓EVd, isCall, sevalprocAttr]
 refine TI.here (hJ0_0 _ ⟨⟨?_, ?_, ?_⟩, hO0 _ rfl⟩)
 all_goals try simp only [kk0, e5, Y_plain_Node, ↓EVd, isCall, sevalprocAttr]
 all_goals first | omega | exact lq (by omega) | exact nq (by omega) | rfl | (congr 1; omega)
def m_plain_Branch_1 (a0 : Node) : Option (Bool) := (m_plain_Node a0).bind fun v1 => some (!v1)
def Y_plain_Branch_1 := And.intro (And.intro ((@EV)) (And.intro ((@R46)) ((@DOrigin)))) (And.intro ((@DAttr)) (And.intro ((@DNode)) ((@DEntry))))
set_option maxHeartbeats 2000000 in
theorem ok_plain_Branch_1 (a0 : Node) (r : Bool) (hm0 : m_plain_Branch_1 a0 = some r) : Ok Try.prog 60 [encNode a0] (bool r) := by
 unfold m_plain_Branch_1 at hm0
 refine okG fc_plain_Branch_1 ?_
 unfold c_plain_Branch_1
 obtain ⟨v1, h2, hm0⟩ := bsE hm0
 simp only [Y_plain_Branch_1, ↓EVd, isCall, sevalprocAttr]
 refine qc (ok_plain_Node _ _ h2) rfl ?_
 obtain rfl := Option.some.inj hm0
 simp only [Y_plain_Branch_1, ↓EVd, isCall, sevalprocAttr]
 all_goals first | done | rfl
def m_plain_Branch (a0 : Branch) (a1 : Int) : Option (Bool) := if (a0.nodes.length : Int) ≤ a1 then (containsM (fun z => m_plain_Branch_1 z ) a0.nodes).bind fun v3 => some (!v3)
 else some false
def Y_plain_Branch := And.intro (And.intro (And.intro ((@EV)) ((@R3))) (And.intro ((@R24)) (And.intro ((@R26)) ((@R46))))) (And.intro (And.intro ((@R57)) (And.intro ((@DBranch)) ((@DOrigin)))) (And.intro ((@DAttr)) (And.intro ((@DNode)) ((@DEntry)))))
set_option maxHeartbeats 2000000 in
theorem ok_plain_Branch (a0 : Branch) (a1 : Int) (r : Bool) (hm0 : m_plain_Branch a0 a1 = some r) : Ok Try.prog 20 [encBranch a0, int a1] (bool r) := by
 unfold m_plain_Branch at hm0
 refine okG fc_plain_Branch ?_
 unfold c_plain_Branch
 rcases iteE hm0 with ⟨e2, hm0⟩ | ⟨e2, hm0⟩
 · obtain ⟨v3, h4, hm0⟩ := bsE hm0
   simp only [e2, Y_plain_Branch, ↓EVd, isCall, sevalprocAttr]
   refine qc (containsM_ok fc_slices_ContainsFunc_api_Node_api_Node fc_slices_IndexFunc_api_Node_api_Node elemOfT_24 aggN_46 (fi := []) (ca := []) encNode a0.nodes (fun z => m_plain_Branch_1 z ) _ h4 (fun z b hz => ok_plain_Branch_1 z  b hz) (fun z => by simp only [CLO]) rfl (by simp only [CLO]) (fun z => by simp only [Y_plain_Branch, ↓EVd, isCall, sevalprocAttr])) rfl ?_
   obtain rfl := Option.some.inj hm0
   simp only [e2, Y_plain_Branch, ↓EVd, isCall, sevalprocAttr]
   all_goals first | done | rfl
 obtain rfl := Option.some.inj hm0
 simp only [e2, Y_plain_Branch, ↓EVd, isCall, sevalprocAttr]
 all_goals first | done | rfl
end Go.Proofs.Ytnmljicimdhpmaa.AL

