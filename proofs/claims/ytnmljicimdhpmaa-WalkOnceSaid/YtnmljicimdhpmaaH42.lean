/- A law of the given program is proved: part 42 of 49. -/
import Derived.Test.YtnmljicimdhpmaaH41
set_option linter.all false
/- Models of functions, and that the functions are as their models: written by gen.py. -/
set_option linter.all false
set_option maxRecDepth 100000
namespace Go.Proofs.Ytnmljicimdhpmaa.AL
open Go Go.Proofs
def m_ref03_letter (a0 : Int) : Option (Bool) := if 97 ≤ a0 then if a0 ≤ 122 then some true
 else if 48 ≤ a0 then if a0 ≤ 57 then some true
 else if a0 = 46 then some true
 else if a0 = 95 then some true
 else if a0 = 45 then some true
 else some false
 else if a0 = 46 then some true
 else if a0 = 95 then some true
 else if a0 = 45 then some true
 else some false
 else if 48 ≤ a0 then if a0 ≤ 57 then some true
 else if a0 = 46 then some true
 else if a0 = 95 then some true
 else if a0 = 45 then some true
 else some false
 else if a0 = 46 then some true
 else if a0 = 95 then some true
 else if a0 = 45 then some true
 else some false
def Y_ref03_letter := And.intro ((@EV)) ((@R5))
set_option maxHeartbeats 2000000 in
theorem ok_ref03_letter (a0 : Int) (r : Bool) (hm0 : m_ref03_letter a0 = some r) : Ok Try.prog 105 [ik .u8 a0] (bool r) := by
 unfold m_ref03_letter at hm0
 refine okG fc_ref03_letter ?_
 unfold c_ref03_letter
 rcases iteE hm0 with ⟨e2, hm0⟩ | ⟨e2, hm0⟩
 · rcases iteE hm0 with ⟨e4, hm0⟩ | ⟨e4, hm0⟩
   · obtain rfl := Option.some.inj hm0
     simp only [e2, e4, Y_ref03_letter, ↓EVd, isCall, sevalprocAttr]
     all_goals first | done | rfl
   rcases iteE hm0 with ⟨e6, hm0⟩ | ⟨e6, hm0⟩
   · rcases iteE hm0 with ⟨e8, hm0⟩ | ⟨e8, hm0⟩
     · obtain rfl := Option.some.inj hm0
       simp only [e2, e4, e6, e8, Y_ref03_letter, ↓EVd, isCall, sevalprocAttr]
       all_goals first | done | rfl
     rcases iteE hm0 with ⟨e10, hm0⟩ | ⟨e10, hm0⟩
     · obtain rfl := Option.some.inj hm0
       simp only [e2, e4, e6, e8, e10, Y_ref03_letter, ↓EVd, isCall, sevalprocAttr]
       all_goals first | done | rfl
     rcases iteE hm0 with ⟨e12, hm0⟩ | ⟨e12, hm0⟩
     · obtain rfl := Option.some.inj hm0
       simp only [e2, e4, e6, e8, e10, e12, Y_ref03_letter, ↓EVd, isCall, sevalprocAttr]
       all_goals first | done | rfl
     rcases iteE hm0 with ⟨e14, hm0⟩ | ⟨e14, hm0⟩
     · obtain rfl := Option.some.inj hm0
       simp only [e2, e4, e6, e8, e10, e12, e14, Y_ref03_letter, ↓EVd, isCall, sevalprocAttr]
       all_goals first | done | rfl
     obtain rfl := Option.some.inj hm0
     simp only [e2, e4, e6, e8, e10, e12, e14, Y_ref03_letter, ↓EVd, isCall, sevalprocAttr]
     all_goals first | done | rfl
   rcases iteE hm0 with ⟨e16, hm0⟩ | ⟨e16, hm0⟩
   · obtain rfl := Option.some.inj hm0
     simp only [e2, e4, e6, e16, Y_ref03_letter, ↓EVd, isCall, sevalprocAttr]
     all_goals first | done | rfl
   rcases iteE hm0 with ⟨e18, hm0⟩ | ⟨e18, hm0⟩
   · obtain rfl := Option.some.inj hm0
     simp only [e2, e4, e6, e16, e18, Y_ref03_letter, ↓EVd, isCall, sevalprocAttr]
     all_goals first | done | rfl
   rcases iteE hm0 with ⟨e20, hm0⟩ | ⟨e20, hm0⟩
   · obtain rfl := Option.some.inj hm0
     simp only [e2, e4, e6, e16, e18, e20, Y_ref03_letter, ↓EVd, isCall, sevalprocAttr]
     all_goals first | done | rfl
   obtain rfl := Option.some.inj hm0
   simp only [e2, e4, e6, e16, e18, e20, Y_ref03_letter, ↓EVd, isCall, sevalprocAttr]
   all_goals first | done | rfl
 rcases iteE hm0 with ⟨e22, hm0⟩ | ⟨e22, hm0⟩
 · rcases iteE hm0 with ⟨e24, hm0⟩ | ⟨e24, hm0⟩
   · obtain rfl := Option.some.inj hm0
     simp only [e2, e22, e24, Y_ref03_letter, ↓EVd, isCall, sevalprocAttr]
     all_goals first | done | rfl
   rcases iteE hm0 with ⟨e26, hm0⟩ | ⟨e26, hm0⟩
   · obtain rfl := Option.some.inj hm0
     simp only [e2, e22, e24, e26, Y_ref03_letter, ↓EVd, isCall, sevalprocAttr]
     all_goals first | done | rfl
   rcases iteE hm0 with ⟨e28, hm0⟩ | ⟨e28, hm0⟩
   · obtain rfl := Option.some.inj hm0
     simp only [e2, e22, e24, e26, e28, Y_ref03_letter, ↓EVd, isCall, sevalprocAttr]
     all_goals first | done | rfl
   rcases iteE hm0 with ⟨e30, hm0⟩ | ⟨e30, hm0⟩
   · obtain rfl := Option.some.inj hm0
     simp only [e2, e22, e24, e26, e28, e30, Y_ref03_letter, ↓EVd, isCall, sevalprocAttr]
     all_goals first | done | rfl
   obtain rfl := Option.some.inj hm0
   simp only [e2, e22, e24, e26, e28, e30, Y_ref03_letter, ↓EVd, isCall, sevalprocAttr]
   all_goals first | done | rfl
 rcases iteE hm0 with ⟨e32, hm0⟩ | ⟨e32, hm0⟩
 · obtain rfl := Option.some.inj hm0
   simp only [e2, e22, e32, Y_ref03_letter, ↓EVd, isCall, sevalprocAttr]
   all_goals first | done | rfl
 rcases iteE hm0 with ⟨e34, hm0⟩ | ⟨e34, hm0⟩
 · obtain rfl := Option.some.inj hm0
   simp only [e2, e22, e32, e34, Y_ref03_letter, ↓EVd, isCall, sevalprocAttr]
   all_goals first | done | rfl
 rcases iteE hm0 with ⟨e36, hm0⟩ | ⟨e36, hm0⟩
 · obtain rfl := Option.some.inj hm0
   simp only [e2, e22, e32, e34, e36, Y_ref03_letter, ↓EVd, isCall, sevalprocAttr]
   all_goals first | done | rfl
 obtain rfl := Option.some.inj hm0
 simp only [e2, e22, e32, e34, e36, Y_ref03_letter, ↓EVd, isCall, sevalprocAttr]
 all_goals first | done | rfl
def m_ref03_Right_b0 (a0 : ByteArray) : Int → Option (St (Int) ((Unit) ⊕ (Bool)))
 | v10 => if v10 < (a0.size : Int) then (ixB a0 v10).bind fun v14 => (m_ref03_letter (v14.toNat : Int)).bind fun v17 => if (!v17) = true then some (.out (.inr false))
 else some (.nx (wr (v10 + 1)))
 else some (.out (.inl ()))
def m_ref03_Right (a0 : ByteArray) : Option (Bool) := if (a0.size : Int) < 1 then some false
 else if 12 < (a0.size : Int) then some false
 else if a0 = (ByteArray.mk #[46]) then some false
 else if a0 = (ByteArray.mk #[46, 46]) then some false
 else (iter (m_ref03_Right_b0 a0) big 0).bind fun o => (match o with
 | (.inl _) => some true
 | (.inr r) => some r)
def Y_ref03_Right := And.intro (And.intro ((@EV)) ((@R3))) (And.intro ((@R5)) ((@R9)))
set_option maxHeartbeats 2000000 in
theorem ok_ref03_Right (a0 : ByteArray) (r : Bool) (hm0 : m_ref03_Right a0 = some r) : Ok Try.prog 96 [str a0] (bool r) := by
 unfold m_ref03_Right at hm0
 refine okG fc_ref03_Right ?_
 unfold c_ref03_Right
 rcases iteE hm0 with ⟨e2, hm0⟩ | ⟨e2, hm0⟩
 · obtain rfl := Option.some.inj hm0
   simp only [e2, Y_ref03_Right, ↓EVd, isCall, sevalprocAttr]
   all_goals first | done | rfl
 rcases iteE hm0 with ⟨e4, hm0⟩ | ⟨e4, hm0⟩
 · obtain rfl := Option.some.inj hm0
   simp only [e2, e4, Y_ref03_Right, ↓EVd, isCall, sevalprocAttr]
   all_goals first | done | rfl
 rcases iteE hm0 with ⟨e6, hm0⟩ | ⟨e6, hm0⟩
 · obtain rfl := Option.some.inj hm0
   simp only [e2, e4, e6, Y_ref03_Right, ↓EVd, isCall, sevalprocAttr]
   all_goals first | done | rfl
 rcases iteE hm0 with ⟨e8, hm0⟩ | ⟨e8, hm0⟩
 · obtain rfl := Option.some.inj hm0
   simp only [e2, e4, e6, e8, Y_ref03_Right, ↓EVd, isCall, sevalprocAttr]
   all_goals first | done | rfl
 obtain ⟨o0, ho0, hm0⟩ := bsE hm0
 simp only [e2, e4, e6, e8, Y_ref03_Right, ↓EVd, isCall, sevalprocAttr]
 refine cwp_cx 0 (fun s => (.inl ()) = o0) ?_ fun J0_0 hJ0_0 => ?_
 · rintro T0 H0 x11 rfl
   try dsimp only at hm0
   obtain rfl := Option.some.inj hm0
   simp only [e2, e4, e6, e8, Y_ref03_Right, ↓EVd, isCall, sevalprocAttr]
   all_goals first | done | rfl
 refine cwp_lp ho0 (fun v10 s => s.T 0 = str a0 ∧ s.T 3 = int v10) ?_ ?_
 · refine TI.here ⟨?_, ?_⟩
   all_goals try simp only [e2, e4, e6, e8, Y_ref03_Right, ↓EVd, isCall, sevalprocAttr]
   all_goals first | omega | exact lq (by omega) | exact nq (by omega) | rfl | (congr 1; omega)
 rintro I0 v10 T0 H0 x9 st0 kk0 hm1 hI0 hO0
 dsimp only [Lq, Nq] at kk0
 simp only [m_ref03_Right_b0] at hm1
 rcases iteE hm1 with ⟨e13, hm1⟩ | ⟨e13, hm1⟩
 · obtain ⟨v14, e16, hm1⟩ := ixBE hm1
   obtain ⟨v17, h18, hm1⟩ := bsE hm1
   simp only [kk0, e2, e4, e6, e8, e13, e16, Y_ref03_Right, ↓EVd, isCall, sevalprocAttr]
   refine qc (ok_ref03_letter _ _ h18) rfl ?_
   rcases itbE hm1 with ⟨e20, hm1⟩ | ⟨e20, hm1⟩
   · obtain rfl := Option.some.inj hm1
     obtain rfl := hO0 _ rfl
     try dsimp only at hm0
     obtain rfl := Option.some.inj hm0
     simp only [kk0, e2, e4, e6, e8, e13, e16, e20, Y_ref03_Right, ↓EVd, isCall, sevalprocAttr]
     all_goals first | done | rfl
   obtain rfl := Option.some.inj hm1
   simp only [kk0, e2, e4, e6, e8, e13, e16, e20, Y_ref03_Right, ↓EVd, isCall, sevalprocAttr]
   refine TI.here (hI0 _ rfl _ ⟨?_, ?_⟩)
   all_goals try simp only [kk0, e2, e4, e6, e8, e13, e16, e20, Y_ref03_Right, ↓EVd, isCall, sevalprocAttr]
   all_goals first | omega | exact lq (by omega) | exact nq (by omega) | rfl | (congr 1; omega)
 obtain rfl := Option.some.inj hm1
 simp only [kk0, e2, e4, e6, e8, e13, Y_ref03_Right, ↓EVd, isCall, sevalprocAttr]
 refine TI.here (hJ0_0 _ (hO0 _ rfl))
def m_plain_odd (a0 : Entry) : Option (Bool) := (m_ref03_Right a0.name).bind fun v1 => some (!v1)
def Y_plain_odd := And.intro (And.intro ((@EV)) ((@R9))) (And.intro ((@R54)) ((@DEntry)))
set_option maxHeartbeats 2000000 in
theorem ok_plain_odd (a0 : Entry) (r : Bool) (hm0 : m_plain_odd a0 = some r) : Ok Try.prog 66 [encEntry a0] (bool r) := by
 unfold m_plain_odd at hm0
 refine okG fc_plain_odd ?_
 unfold c_plain_odd
 obtain ⟨v1, h2, hm0⟩ := bsE hm0
 simp only [Y_plain_odd, ↓EVd, isCall, sevalprocAttr]
 refine qc (ok_ref03_Right _ _ h2) rfl ?_
 obtain rfl := Option.some.inj hm0
 simp only [Y_plain_odd, ↓EVd, isCall, sevalprocAttr]
 all_goals first | done | rfl
def m_plain_Node_b0 (a0 : Node) : Int → Option (St (Int) ((Unit) ⊕ (Bool)))
 | v2 => if v2 < (a0.entries.length : Int) then (ix a0.entries v2).bind fun v6 => if v6.slot < 0 then some (.out (.inr false))
 else if 16 ≤ v6.slot then some (.out (.inr false))
 else if 0 < v2 then (ix a0.entries (wr (v2 - 1))).bind fun v15 => if v6.slot ≤ v15.slot then some (.out (.inr false))
 else some (.nx (wr (v2 + 1)))
 else some (.nx (wr (v2 + 1)))
 else some (.out (.inl ()))
def m_plain_Node (a0 : Node) : Option (Bool) := (iter (m_plain_Node_b0 a0) big 0).bind fun o => (match o with
 | (.inl _) => if 0 ≤ a0.kind then if a0.kind ≤ 4 then if (-9007199254740992) ≤ a0.nlink then if a0.nlink ≤ 9007199254740992 then if 0 ≤ a0.attr.has then if a0.attr.has ≤ 31 then if (a0.data.length : Int) ≤ 300 then if (a0.entries.length : Int) ≤ 16 then if (a0.attr.redirect.size : Int) ≤ 40 then (containsM (fun z => m_plain_odd z ) a0.entries).bind fun v38 => some (!v38)
 else some false
 else some false
 else some false
 else some false
 else some false
 else some false
 else some false
 else some false
 else some false
 | (.inr r) => some r)
def Y_plain_Node := And.intro (And.intro (And.intro ((@EV)) (And.intro ((@R3)) ((@R5)))) (And.intro (And.intro ((@R9)) ((@R39))) (And.intro ((@R40)) ((@R44))))) (And.intro (And.intro (And.intro ((@R46)) ((@R54))) (And.intro ((@R100)) ((@DOrigin)))) (And.intro (And.intro ((@DAttr)) ((@DNode))) (And.intro ((@DEntry)) ((@mixed)))))
set_option maxHeartbeats 2000000 in
theorem ok_plain_Node (a0 : Node) (r : Bool) (hm0 : m_plain_Node a0 = some r) : Ok Try.prog 24 [encNode a0] (bool r) := by
 unfold m_plain_Node at hm0
 refine okG fc_plain_Node ?_
 unfold c_plain_Node
 obtain ⟨o0, ho0, hm0⟩ := bsE hm0
 simp only [Y_plain_Node, ↓EVd, isCall, sevalprocAttr]
 refine cwp_cx 0 (fun s => (s.T 1 = .loc 0 13 0 0 ∧ s.H 0 = some (.row 46 13 [encNode a0]) ∧ Lq 0 s.nx) ∧ (.inl ()) = o0) ?_ fun J0_0 hJ0_0 => ?_
 · rintro T0 H0 x3 ⟨kk0_0, rfl⟩
   dsimp only [Lq, Nq] at kk0_0
   try dsimp only at hm0
   rcases iteE hm0 with ⟨e21, hm0⟩ | ⟨e21, hm0⟩
   · rcases iteE hm0 with ⟨e23, hm0⟩ | ⟨e23, hm0⟩
     · rcases iteE hm0 with ⟨e25, hm0⟩ | ⟨e25, hm0⟩
       · rcases iteE hm0 with ⟨e27, hm0⟩ | ⟨e27, hm0⟩
         · rcases iteE hm0 with ⟨e29, hm0⟩ | ⟨e29, hm0⟩
           · rcases iteE hm0 with ⟨e31, hm0⟩ | ⟨e31, hm0⟩
             · rcases iteE hm0 with ⟨e33, hm0⟩ | ⟨e33, hm0⟩
               · rcases iteE hm0 with ⟨e35, hm0⟩ | ⟨e35, hm0⟩
                 · have g40 := And.intro (And.intro (And.intro ((e21)) ((e23))) (And.intro ((e25)) ((e27)))) (And.intro (And.intro ((e29)) ((e31))) (And.intro ((e33)) ((e35))))
                   rcases iteE hm0 with ⟨e37, hm0⟩ | ⟨e37, hm0⟩
                   · obtain ⟨v38, h39, hm0⟩ := bsE hm0
                     simp only [kk0_0, g40, e37, Y_plain_Node, ↓EVd, isCall, sevalprocAttr]
                     refine qc (containsM_ok fc_slices_ContainsFunc_api_Entry_api_Entry fc_slices_IndexFunc_api_Entry_api_Entry elemOfT_40 aggN_54 (fi := []) (ca := []) encEntry a0.entries (fun z => m_plain_odd z ) _ h39 (fun z b hz => ok_plain_odd z  b hz) (fun z => by simp only [CLO]) rfl (by simp only [CLO]) (fun z => by simp only [Y_plain_Node, ↓EVd, isCall, sevalprocAttr])) rfl ?_
                     obtain rfl := Option.some.inj hm0
                     simp only [kk0_0, g40, e37, Y_plain_Node, ↓EVd, isCall, sevalprocAttr]
                     all_goals first | done | rfl
                   obtain rfl := Option.some.inj hm0
                   simp only [kk0_0, g40, e37, Y_plain_Node, ↓EVd, isCall, sevalprocAttr]
                   all_goals first | done | rfl
                 obtain rfl := Option.some.inj hm0
                 simp only [kk0_0, e21, e23, e25, e27, e29, e31, e33, e35, Y_plain_Node, ↓EVd, isCall, sevalprocAttr]
                 all_goals first | done | rfl
               obtain rfl := Option.some.inj hm0
               simp only [kk0_0, e21, e23, e25, e27, e29, e31, e33, Y_plain_Node, ↓EVd, isCall, sevalprocAttr]
               all_goals first | done | rfl
             obtain rfl := Option.some.inj hm0
             simp only [kk0_0, e21, e23, e25, e27, e29, e31, Y_plain_Node, ↓EVd, isCall, sevalprocAttr]
             all_goals first | done | rfl
           obtain rfl := Option.some.inj hm0
           simp only [kk0_0, e21, e23, e25, e27, e29, Y_plain_Node, ↓EVd, isCall, sevalprocAttr]
           all_goals first | done | rfl
         obtain rfl := Option.some.inj hm0
         simp only [kk0_0, e21, e23, e25, e27, Y_plain_Node, ↓EVd, isCall, sevalprocAttr]
         all_goals first | done | rfl
       obtain rfl := Option.some.inj hm0
       simp only [kk0_0, e21, e23, e25, Y_plain_Node, ↓EVd, isCall, sevalprocAttr]
       all_goals first | done | rfl
     obtain rfl := Option.some.inj hm0
     simp only [kk0_0, e21, e23, Y_plain_Node, ↓EVd, isCall, sevalprocAttr]
     all_goals first | done | rfl
   obtain rfl := Option.some.inj hm0
   simp only [kk0_0, e21, Y_plain_Node, ↓EVd, isCall, sevalprocAttr]
   all_goals first | done | rfl
 refine cwp_lp ho0 (fun v2 s => s.T 1 = .loc 0 13 0 0 ∧ s.T 6 = .sl 3 (a0.entries.map encEntry) ∧ s.T 7 = int (a0.entries.length : Int) ∧ s.T 8 = int v2 ∧ s.H 0 = some (.row 46 13 [encNode a0]) ∧ Lq 0 s.nx) ?_ ?_
 · refine TI.here ⟨?_, ?_, ?_, ?_, ?_, ?_⟩
   all_goals try simp only [Y_plain_Node, ↓EVd, isCall, sevalprocAttr]
   all_goals first | omega | exact lq (by omega) | exact nq (by omega) | rfl | (congr 1; omega)
 rintro I0 v2 T0 H0 x1 st0 kk0 hm1 hI0 hO0
 dsimp only [Lq, Nq] at kk0
 simp only [m_plain_Node_b0] at hm1
 rcases iteE hm1 with ⟨e5, hm1⟩ | ⟨e5, hm1⟩
 · obtain ⟨v6, e8, hm1⟩ := ixE encEntry hm1
   rcases iteE hm1 with ⟨e10, hm1⟩ | ⟨e10, hm1⟩
   · obtain rfl := Option.some.inj hm1
     obtain rfl := hO0 _ rfl
     try dsimp only at hm0
     obtain rfl := Option.some.inj hm0
     simp only [kk0, e5, e8, e10, Y_plain_Node, ↓EVd, isCall, sevalprocAttr]
     all_goals first | done | rfl
   rcases iteE hm1 with ⟨e12, hm1⟩ | ⟨e12, hm1⟩
   · obtain rfl := Option.some.inj hm1
     obtain rfl := hO0 _ rfl
     try dsimp only at hm0
     obtain rfl := Option.some.inj hm0
     simp only [kk0, e5, e8, e10, e12, Y_plain_Node, ↓EVd, isCall, sevalprocAttr]
     all_goals first | done | rfl
   rcases iteE hm1 with ⟨e14, hm1⟩ | ⟨e14, hm1⟩
   · obtain ⟨v15, e17, hm1⟩ := ixE encEntry hm1
     rcases iteE hm1 with ⟨e19, hm1⟩ | ⟨e19, hm1⟩
     · obtain rfl := Option.some.inj hm1
       obtain rfl := hO0 _ rfl
       try dsimp only at hm0
       obtain rfl := Option.some.inj hm0
       simp only [kk0, e5, e8, e10, e12, e14, e17, e19, Y_plain_Node, ↓EVd, isCall, sevalprocAttr]
       all_goals first | done | rfl
     obtain rfl := Option.some.inj hm1
     simp only [kk0, e5, e8, e10, e12, e14, e17, e19, Y_plain_Node, ↓EVd, isCall, sevalprocAttr]
     refine TI.here (hI0 _ rfl _ ⟨?_, ?_, ?_, ?_, ?_, ?_⟩)
     all_goals try simp only [kk0, e5, e8, e10, e12, e14, e17, e19, Y_plain_Node, ↓EVd, isCall, sevalprocAttr]
     all_goals first | omega | exact lq (by omega) | exact nq (by omega) | rfl | (congr 1; omega)
   obtain rfl := Option.some.inj hm1
   simp only [kk0, e5, e8, e10, e12, e14, Y_plain_Node, ↓EVd, isCall, sevalprocAttr]
   refine TI.here (hI0 _ rfl _ ⟨?_, ?_, ?_, ?_, ?_, ?_⟩)
   all_goals try simp only [kk0, e5, e8, e10, e12, e14, Y_plain_Node, ↓EVd, isCall, sevalprocAttr]
   all_goals first | omega | exact lq (by omega) | exact nq (by omega) | rfl | (congr 1; omega)
 obtain rfl := Option.some.inj hm1
 simp only [kk0, e5, Y_plain_Node, ↓EVd, isCall, sevalprocAttr]
 refine TI.here (hJ0_0 _ ⟨⟨?_, ?_, ?_⟩, hO0 _ rfl⟩)
 all_goals try simp only [kk0, e5, Y_plain_Node, ↓EVd, isCall, sevalprocAttr]
 all_goals first | omega | exact lq (by omega) | exact nq (by omega) | rfl | (congr 1; omega)
def m_plain_Branch_1 (a0 : Node) : Option (Bool) := (m_plain_Node a0).bind fun v1 => some (!v1)
def Y_plain_Branch_1 := And.intro (And.intro ((@EV)) (And.intro ((@R46)) ((@DOrigin)))) (And.intro ((@DAttr)) (And.intro ((@DNode)) ((@DEntry))))
set_option maxHeartbeats 2000000 in
theorem ok_plain_Branch_1 (a0 : Node) (r : Bool) (hm0 : m_plain_Branch_1 a0 = some r) : Ok Try.prog 60 [encNode a0] (bool r) := by
 unfold m_plain_Branch_1 at hm0
 refine okG fc_plain_Branch_1 ?_
 unfold c_plain_Branch_1
 obtain ⟨v1, h2, hm0⟩ := bsE hm0
 simp only [Y_plain_Branch_1, ↓EVd, isCall, sevalprocAttr]
 refine qc (ok_plain_Node _ _ h2) rfl ?_
 obtain rfl := Option.some.inj hm0
 simp only [Y_plain_Branch_1, ↓EVd, isCall, sevalprocAttr]
 all_goals first | done | rfl
def m_plain_Branch (a0 : Branch) (a1 : Int) : Option (Bool) := if (a0.nodes.length : Int) ≤ a1 then (containsM (fun z => m_plain_Branch_1 z ) a0.nodes).bind fun v3 => some (!v3)
 else some false
def Y_plain_Branch := And.intro (And.intro (And.intro ((@EV)) ((@R3))) (And.intro ((@R24)) (And.intro ((@R26)) ((@R46))))) (And.intro (And.intro ((@R57)) (And.intro ((@DBranch)) ((@DOrigin)))) (And.intro ((@DAttr)) (And.intro ((@DNode)) ((@DEntry)))))
set_option maxHeartbeats 2000000 in
theorem ok_plain_Branch (a0 : Branch) (a1 : Int) (r : Bool) (hm0 : m_plain_Branch a0 a1 = some r) : Ok Try.prog 20 [encBranch a0, int a1] (bool r) := by
 unfold m_plain_Branch at hm0
 refine okG fc_plain_Branch ?_
 unfold c_plain_Branch
 rcases iteE hm0 with ⟨e2, hm0⟩ | ⟨e2, hm0⟩
 · obtain ⟨v3, h4, hm0⟩ := bsE hm0
   simp only [e2, Y_plain_Branch, ↓EVd, isCall, sevalprocAttr]
   refine qc (containsM_ok fc_slices_ContainsFunc_api_Node_api_Node fc_slices_IndexFunc_api_Node_api_Node elemOfT_24 aggN_46 (fi := []) (ca := []) encNode a0.nodes (fun z => m_plain_Branch_1 z ) _ h4 (fun z b hz => ok_plain_Branch_1 z  b hz) (fun z => by simp only [CLO]) rfl (by simp only [CLO]) (fun z => by simp only [Y_plain_Branch, ↓EVd, isCall, sevalprocAttr])) rfl ?_
   obtain rfl := Option.some.inj hm0
   simp only [e2, Y_plain_Branch, ↓EVd, isCall, sevalprocAttr]
   all_goals first | done | rfl
 obtain rfl := Option.some.inj hm0
 simp only [e2, Y_plain_Branch, ↓EVd, isCall, sevalprocAttr]
 all_goals first | done | rfl
end Go.Proofs.Ytnmljicimdhpmaa.AL

/- Loops of models, in plain words. -/
set_option linter.all false
namespace Go.Proofs.Ytnmljicimdhpmaa.AL
open Go Go.Proofs

/-! ### Loops -/
theorem iter_term {S ρ : Type} {B : S → Option (St S ρ)} {R : ρ → Prop} (I : Nat → S → Prop) (N : Nat) (hs : ∀ i s, I i s → i ≤ N ∧ ((∃ s', B s = some (.nx s') ∧ I (i + 1) s') ∨ ∃ r, B s = some (.out r) ∧ R r)) :
    ∀ (fuel i : Nat) (s : S), I i s → N < fuel + i → ∃ r, iter B fuel s = some r ∧ R r
  | 0, i, s, h, hf => by have := (hs i s h).1; omega
  | fuel + 1, i, s, h, hf => by
    rw [iter_succ]
    rcases (hs i s h).2 with ⟨s', h1, h2⟩ | ⟨r, h1, h2⟩
    · rw [h1]
      exact iter_term I N hs fuel (i + 1) s' h2 (by omega)
    · rw [h1]
      exact ⟨r, rfl, h2⟩
theorem big_eq : big = 1000000000000000000 := rfl
theorem ix_at {α : Type} {xs : List α} {i : Nat} (h : i < xs.length) : ix xs (i : Int) = some xs[i] := by
  unfold ix
  rw [if_pos (by omega)]
  simp [h]
theorem ix_of {α : Type} {xs : List α} {n : Int} (h0 : 0 ≤ n) (h : n < xs.length) : ix xs n = some (xs[n.toNat]'(by omega)) := by
  unfold ix
  rw [if_pos h0]
  simp
theorem wr_suc {i : Nat} (h : i < 4611686018427387904) : wr ((i : Int) + 1) = ((i + 1 : Nat) : Int) := by rw [wr_in (by omega) (by omega)]; omega
theorem ap_of {α : Type} {k : Nat} {xs ys : List α} (h : (xs.length + ys.length) * k ≤ 140737488355328) (hk : 0 < k) : ap k xs ys = some (xs ++ ys) := by
  unfold ap
  have : xs.length + ys.length ≤ (xs.length + ys.length) * k := Nat.le_mul_of_pos_right _ hk
  have h2 : xs.length + ys.length ≤ 9223372036854775807 := by omega
  rw [if_pos ⟨h, h2⟩]
/-- Over the places of a list, from the first to the last. -/
theorem iter_fold {α σ S ρ : Type} {B : S → Option (St S ρ)} (mk : Nat → σ → S) (xs : List α) (step : σ → α → σ) (fin : σ → ρ) (I : Nat → σ → Prop) (hs : ∀ i s (h : i < xs.length), I i s → B (mk i s) = some (.nx (mk (i + 1) (step s xs[i]))) ∧ I (i + 1) (step s xs[i]))
    (he : ∀ s, I xs.length s → B (mk xs.length s) = some (.out (fin s))) {s0 : σ} (h0 : I 0 s0) {fuel : Nat} (hf : xs.length < fuel) : iter B fuel (mk 0 s0) = some (fin (xs.foldl step s0)) ∧ I xs.length (xs.foldl step s0) := by
  have key : ∀ (d i : Nat) (s : σ) (fuel : Nat), d + i = xs.length → I i s → d < fuel → iter B fuel (mk i s) = some (fin ((xs.drop i).foldl step s)) ∧ I xs.length ((xs.drop i).foldl step s) := by
    intro d
    induction d with
    | zero =>
      intro i s fuel hd hi hf
      obtain rfl : i = xs.length := by omega
      cases fuel with
      | zero => omega
      | succ fuel =>
        rw [iter_succ, he s hi]
        simp [hi]
    | succ d ih =>
      intro i s fuel hd hi hf
      cases fuel with
      | zero => omega
      | succ fuel =>
        have hlt : i < xs.length := by omega
        obtain ⟨h1, h2⟩ := hs i s hlt hi
        rw [iter_succ, h1]
        have := ih (i + 1) _ fuel (by omega) h2 (by omega)
        rw [List.drop_eq_getElem_cons hlt]
        exact this
  have := key xs.length 0 s0 fuel (by omega) h0 hf
  simpa using this
/-- While there is more. -/
def wl {σ : Type} (step : Nat → σ → σ) (len : σ → Nat) : Nat → Nat → σ → Nat × σ
  | 0, k, s => (k, s)
  | f + 1, k, s => if k < len s then wl step len f (k + 1) (step k s) else (k, s)
theorem iter_wl {σ S ρ : Type} {B : S → Option (St S ρ)} (mk : Nat → σ → S) (step : Nat → σ → σ) (len : σ → Nat) (fin : Nat → σ → ρ) (I : Nat → σ → Prop) (N : Nat) (hN : ∀ k s, I k s → k ≤ len s ∧ len s ≤ N)
    (hs : ∀ k s, I k s → k < len s → B (mk k s) = some (.nx (mk (k + 1) (step k s))) ∧ I (k + 1) (step k s)) (he : ∀ k s, I k s → ¬ k < len s → B (mk k s) = some (.out (fin k s))) :
    ∀ (f k : Nat) (s : σ) (fuel : Nat), I k s → N < f + k → N < fuel + k → iter B fuel (mk k s) = some (fin (wl step len f k s).1 (wl step len f k s).2) ∧ I (wl step len f k s).1 (wl step len f k s).2 ∧ (wl step len f k s).1 = len (wl step len f k s).2
  | 0, k, s, fuel, hi, hf, hg => by have := hN k s hi; omega
  | f + 1, k, s, fuel, hi, hf, hg => by
    obtain ⟨n1, n2⟩ := hN k s hi
    cases fuel with
    | zero => omega
    | succ fuel =>
      rw [iter_succ]
      unfold wl
      by_cases h : k < len s
      · obtain ⟨h1, h2⟩ := hs k s hi h
        rw [if_pos h, h1]
        exact iter_wl mk step len fin I N hN hs he f (k + 1) _ fuel h2 (by omega) (by omega)
      · rw [if_neg h, he k s hi h]
        exact ⟨rfl, hi, by show k = len s; omega⟩
theorem eqLoop {α : Type} [DecidableEq α] {a b : List α} {B : Int → Option (St Int (Unit ⊕ Bool))} (hl : a.length = b.length) (hlen : a.length ≤ 1000000000)
    (hB : ∀ (i : Nat) (h : i < a.length) (h' : i < b.length), B (i : Int) = if a[i] = b[i] then some (.nx ((i + 1 : Nat) : Int)) else some (.out (.inr false))) (hE : B (a.length : Int) = some (.out (.inl ()))) :
    iter B big 0 = some (if a = b then .inl () else .inr false) := by
  obtain ⟨r, h1, h2⟩ := iter_term (B := B) (R := fun r => r = if a = b then .inl () else .inr false) (fun i t => t = (i : Int) ∧ i ≤ a.length ∧ ∀ j (h : j < a.length) (h' : j < b.length), j < i → a[j] = b[j]) a.length (by
    rintro i t ⟨rfl, hi, hj⟩
    refine ⟨hi, ?_⟩
    by_cases hlt : i < a.length
    · rw [hB i hlt (by omega)]
      by_cases he : a[i] = b[i]
      · rw [if_pos he]
        refine .inl ⟨_, rfl, rfl, by omega, fun j h h' hji => ?_⟩
        by_cases e : j = i
        · subst e; exact he
        · exact hj j h h' (by omega)
      · rw [if_neg he]
        refine .inr ⟨_, rfl, ?_⟩
        rw [if_neg]
        rintro rfl
        exact he rfl
    · obtain rfl : i = a.length := by omega
      rw [hE]
      refine .inr ⟨_, rfl, ?_⟩
      rw [if_pos (List.ext_getElem hl fun j h h' => hj j h h' h)]) big 0 0 ⟨rfl, by omega, fun j _ _ h => by omega⟩ (by rw [big_eq]; omega)
  rw [h1, h2]
theorem contains_tot {α : Type} {p : α → Option Bool} {f : α → Bool} : ∀ (l : List α), (∀ x ∈ l, p x = some (f x)) → l.length < 1000000 → containsM p l = some (l.any f) := by
  have key : ∀ (l : List α) (i : Nat), (∀ x ∈ l, p x = some (f x)) → ∃ r, idxM p l i = some r ∧ (0 ≤ r ↔ l.any f = true) := by
    intro l
    induction l with
    | nil => intro i _; exact ⟨-1, rfl, by simp⟩
    | cons x l ih =>
      intro i h
      unfold idxM
      rw [h x (by simp)]
      simp only [Option.bind_some]
      by_cases hx : f x = true
      · rw [if_pos hx]; exact ⟨_, rfl, by simp [hx]⟩
      · rw [if_neg hx]
        obtain ⟨r, h1, h2⟩ := ih (i + 1) (fun y hy => h y (by simp [hy]))
        exact ⟨r, h1, by rw [h2]; simp [hx]⟩
  intro l h hl
  obtain ⟨r, h1, h2⟩ := key l 0 h
  unfold containsM indexM ck
  rw [if_pos (by omega)]
  simp only [Option.bind_some]
  rw [h1]
  simp only [Option.bind_some]
  congr 1
  cases ha : l.any f with
  | true => simp [h2.2 ha]
  | false =>
    have : ¬ 0 ≤ r := fun h => by have := h2.1 h; rw [ha] at this; cases this
    simp [this]
theorem tot_fun {α : Type} {p : α → Option Bool} (h : ∀ x, ∃ r, p x = some r) : ∃ f : α → Bool, ∀ x, p x = some (f x) := ⟨fun x => Classical.choose (h x), fun x => Classical.choose_spec (h x)⟩
end Go.Proofs.Ytnmljicimdhpmaa.AL

/- Plain laws, part 1: loops; the walk. -/
set_option linter.all false
namespace Go.Proofs.Ytnmljicimdhpmaa.AL
open Go Go.Proofs

/-! ### Nodes -/
def zeroNode : Node := ⟨0, 0, 0, 0, [], [], ⟨0, 0, noBytes, ⟨0, 0, 0⟩, 0⟩⟩
def nodeP (b : Branch) (ino : Int) : Node := if ino < 1 then zeroNode else if (b.nodes.length : Int) < ino then zeroNode else (b.nodes[(ino - 1).toNat]?).getD zeroNode
structure PB (b : Branch) : Prop where
  len : b.nodes.length ≤ 24
  ents : ∀ x ∈ b.nodes, x.entries.length ≤ 16
theorem at_eq {b : Branch} (hb : PB b) (ino : Int) : m_ref13_At b ino = some (nodeP b ino) := by
  unfold m_ref13_At nodeP
  split
  · rfl
  · split
    · rfl
    · rename_i h1 h2
      have := hb.len
      rw [wr_in (by omega) (by omega), ix_of (by omega) (by omega)]
      have hlt : (ino - 1).toNat < b.nodes.length := by omega
      simp only [Option.bind_some, List.getElem?_eq_getElem hlt, Option.getD_some]
theorem nodeP_ents {b : Branch} (hb : PB b) (ino : Int) : (nodeP b ino).entries.length ≤ 16 := by
  unfold nodeP
  split
  · simp [zeroNode]
  · split
    · simp [zeroNode]
    · rename_i h1 h2
      have hlt : (ino - 1).toNat < b.nodes.length := by omega
      simp only [List.getElem?_eq_getElem hlt, Option.getD_some]
      exact hb.ents _ (List.getElem_mem hlt)
theorem nodeP_kind {b : Branch} {ino : Int} (h : (nodeP b ino).kind = 1) : 1 ≤ ino ∧ ino ≤ (b.nodes.length : Int) := by
  unfold nodeP at h
  split at h
  · simp [zeroNode] at h
  · split at h
    · simp [zeroNode] at h
    · omega
/-! ### The walk -/
def seenB (ways : List Way) (ino : Int) : Bool := ways.any fun w => decide (w.ino = ino)
abbrev WS := List Way × List Ar2_Int
def eStep (b : Branch) (k : Nat) (ino : Int) (s : WS) (e : Entry) : WS :=
  if (nodeP b e.ino).kind = 1 then if seenB s.1 e.ino = true then (s.1, s.2 ++ [⟨ino, e.slot⟩]) else (s.1 ++ [⟨e.ino, k, e.name⟩], s.2) else s
def wIno (s : WS) (k : Nat) : Int := ((s.1[k]?).getD default).ino
def wStep (b : Branch) (k : Nat) (s : WS) : WS := (nodeP b (wIno s k)).entries.foldl (eStep b k (wIno s k)) s
def wLoop (b : Branch) (k : Nat) (s : WS) : Nat × WS := wl (wStep b) (fun s => s.1.length) 25 k s
def fStep (b : Branch) (t : Nat × WS) (r : Int) : Nat × WS :=
  if (nodeP b r).kind = 1 ∧ seenB t.2.1 r = false then wLoop b t.1 (t.2.1 ++ [⟨r, -1, noBytes⟩], t.2.2) else t
def walkP (b : Branch) (fr : List Int) : Nat × WS := fr.foldl (fStep b) (0, [], [])
/-- Each directory once. -/
structure WI (b : Branch) (ways : List Way) : Prop where
  nd : (ways.map (·.ino)).Nodup
  dir : ∀ w ∈ ways, (nodeP b w.ino).kind = 1
theorem nat_nodup_le : ∀ (n : Nat) (l : List Nat), l.Nodup → (∀ x ∈ l, x < n) → l.length ≤ n
  | 0, l, _, h => by
    cases l with
    | nil => simp
    | cons x l => have := h x (by simp); omega
  | n + 1, l, hd, h => by
    have h1 := nat_nodup_le n (l.erase n) (hd.erase n) (fun x hx => by
      have := (List.Nodup.mem_erase_iff hd).1 hx
      have := h x this.2
      omega)
    have := List.length_erase (a := n) (l := l)
    split at this <;> omega
theorem WI.len {b : Branch} {ways : List Way} (h : WI b ways) : ways.length ≤ b.nodes.length := by
  have h1 : (ways.map fun w => (w.ino - 1).toNat).Nodup := by
    refine List.pairwise_map.2 (List.Pairwise.imp_of_mem ?_ (List.pairwise_map.1 h.nd))
    intro x y hx hy hne e
    have := nodeP_kind (h.dir x hx)
    have := nodeP_kind (h.dir y hy)
    omega
  have := nat_nodup_le b.nodes.length _ h1 (fun x hx => by
    obtain ⟨w, hw, rfl⟩ := List.mem_map.1 hx
    have := nodeP_kind (h.dir w hw)
    omega)
  simpa using this
theorem seenB_iff {ways : List Way} {ino : Int} : seenB ways ino = true ↔ ∃ w ∈ ways, w.ino = ino := by simp [seenB]
theorem WI.push {b : Branch} {ways : List Way} (h : WI b ways) {w : Way} (hk : (nodeP b w.ino).kind = 1) (hs : seenB ways w.ino = false) : WI b (ways ++ [w]) := by
  refine ⟨?_, ?_⟩
  · rw [List.map_append, List.map_cons, List.map_nil]
    refine List.nodup_append.2 ⟨h.nd, by simp, ?_⟩
    intro x hx y hy e
    simp only [List.mem_singleton] at hy
    subst hy; subst e
    obtain ⟨w', hw', e⟩ := List.mem_map.1 hx
    have : seenB ways w.ino = true := seenB_iff.2 ⟨w', hw', e⟩
    rw [hs] at this; cases this
  · intro x hx
    rcases List.mem_append.1 hx with hx | hx
    · exact h.dir x hx
    · simp only [List.mem_singleton] at hx; subst hx; exact hk
/-- What an entry leaves. -/
theorem eStep_inv {b : Branch} {k : Nat} {ino : Int} {s : WS} {e : Entry} (h : WI b s.1) : WI b (eStep b k ino s e).1 ∧ s.1.length ≤ (eStep b k ino s e).1.length ∧ (eStep b k ino s e).2.length ≤ s.2.length + 1 ∧ (∀ j, j < s.1.length → (eStep b k ino s e).1[j]? = s.1[j]?) := by
  unfold eStep
  split
  · rename_i hk
    split
    · exact ⟨h, Nat.le_refl _, by simp, fun _ _ => rfl⟩
    · rename_i hs
      refine ⟨h.push (w := ⟨e.ino, k, e.name⟩) hk (by simpa using hs), by simp, by simp, fun j hj => List.getElem?_append_left hj⟩
  · exact ⟨h, Nat.le_refl _, by omega, fun _ _ => rfl⟩
theorem eFold_inv {b : Branch} {k : Nat} {ino : Int} : ∀ (es : List Entry) {s : WS}, WI b s.1 → WI b (es.foldl (eStep b k ino) s).1 ∧ s.1.length ≤ (es.foldl (eStep b k ino) s).1.length ∧ (es.foldl (eStep b k ino) s).2.length ≤ s.2.length + es.length ∧ (∀ j, j < s.1.length → (es.foldl (eStep b k ino) s).1[j]? = s.1[j]?)
  | [], s, h => ⟨h, Nat.le_refl _, by simp, fun _ _ => rfl⟩
  | e :: es, s, h => by
    obtain ⟨a1, a2, a3, a4⟩ := eStep_inv (k := k) (ino := ino) (e := e) h
    obtain ⟨b1, b2, b3, b4⟩ := eFold_inv es (k := k) (ino := ino) (s := eStep b k ino s e) a1
    rw [List.foldl_cons]
    exact ⟨b1, by omega, by simp only [List.length_cons]; omega, fun j hj => (b4 j (by omega)).trans (a4 j hj)⟩
/-- The state of the great loop. -/
structure LI (b : Branch) (k : Nat) (s : WS) : Prop where
  wi : WI b s.1
  at' : k ≤ s.1.length
  tw : s.2.length ≤ 16 * k
theorem wStep_inv {b : Branch} (hb : PB b) {k : Nat} {s : WS} (h : LI b k s) (hk : k < s.1.length) : LI b (k + 1) (wStep b k s) := by
  obtain ⟨a1, a2, a3, a4⟩ := eFold_inv (b := b) (k := k) (ino := wIno s k) (nodeP b (wIno s k)).entries h.wi
  have := nodeP_ents hb (wIno s k)
  have := h.tw
  refine ⟨a1, ?_, ?_⟩
  · unfold wStep; omega
  · unfold wStep; omega
/-! ### The document's walk -/
theorem place_eq {ways : List Way} (hw : ways.length ≤ 24) (ino : Int) : ∃ r, m_ref13_place ways ino = some r ∧ (0 ≤ r ↔ seenB ways ino = true) := by
  unfold m_ref13_place
  have key := iter_term (B := m_ref13_place_b0 ways ino) (R := fun r => match r with | .inl _ => seenB ways ino = false | .inr i => 0 ≤ i ∧ seenB ways ino = true)
    (fun i s => s = (i : Int) ∧ i ≤ ways.length ∧ ∀ j (h : j < ways.length), j < i → ways[j].ino ≠ ino) ways.length (by
    rintro i s ⟨rfl, hi, hj⟩
    refine ⟨hi, ?_⟩
    by_cases hlt : i < ways.length
    · simp only [m_ref13_place_b0]
      rw [if_pos (by omega), ix_at hlt]
      simp only [Option.bind_some]
      by_cases he : ways[i].ino = ino
      · rw [if_pos he]
        exact .inr ⟨_, rfl, by omega, seenB_iff.2 ⟨_, List.getElem_mem hlt, he⟩⟩
      · rw [if_neg he, wr_suc (by omega)]
        refine .inl ⟨_, rfl, rfl, by omega, fun j h hj' => ?_⟩
        by_cases e : j = i
        · subst e; exact he
        · exact hj j h (by omega)
    · simp only [m_ref13_place_b0]
      rw [if_neg (by omega)]
      refine .inr ⟨_, rfl, ?_⟩
      simp only
      cases hs : seenB ways ino with
      | false => rfl
      | true =>
        obtain ⟨w, hw, e⟩ := seenB_iff.1 hs
        obtain ⟨j, hj', rfl⟩ := List.getElem_of_mem hw
        exact absurd e (hj j hj' (by omega))) big 0 0 ⟨rfl, by omega, fun j _ h => by omega⟩ (by rw [big_eq]; omega)
  obtain ⟨r, h1, h2⟩ := key
  rw [h1]
  cases r with
  | inl u => exact ⟨-1, rfl, by simp only at h2; simp [h2]⟩
  | inr i => exact ⟨i, rfl, by simp only at h2; simp [h2.1, h2.2]⟩
theorem ref_enter {b : Branch} (hb : PB b) {k : Nat} {s : WS} (h : LI b k s) (hk : k < s.1.length) :
    iter (m_ref13_walk_b2 b (k : Int) (nodeP b (wIno s k))) big (s.1, s.2, 0) = some (wStep b k s) := by
  have hlen := nodeP_ents hb (wIno s k)
  have hn := hb.len
  have := (iter_fold (B := m_ref13_walk_b2 b (k : Int) (nodeP b (wIno s k))) (fun (i : Nat) (s : WS) => (s.1, s.2, (i : Int))) (nodeP b (wIno s k)).entries (eStep b k (wIno s k)) (fun s => s)
    (fun i t => WI b t.1 ∧ t.2.length ≤ s.2.length + i ∧ (∀ j, j < s.1.length → t.1[j]? = s.1[j]?)) ?_ ?_ (s0 := s) ⟨h.wi, by omega, fun _ _ => rfl⟩ (fuel := big) (by rw [big_eq]; omega)).1
  · exact this
  · rintro i t hi ⟨w1, w2, w3⟩
    have htl := w1.len
    have hs2 := h.tw
    have hsl := h.wi.len
    obtain ⟨a1, a2, a3, a4⟩ := eStep_inv (k := k) (ino := wIno s k) (e := (nodeP b (wIno s k)).entries[i]) w1
    refine ⟨?_, a1, by omega, fun j hj => (a4 j ?_).trans (w3 j hj)⟩
    rotate_left
    · have := w3 j hj
      rw [List.getElem?_eq_getElem hj] at this
      exact (List.getElem?_eq_some_iff.1 this).1
    simp only [m_ref13_walk_b2]
    rw [if_pos (by omega), ix_at hi]
    simp only [Option.bind_some]
    rw [at_eq hb]
    simp only [Option.bind_some]
    generalize (nodeP b (wIno s k)).entries[i] = e
    unfold eStep
    by_cases hkd : (nodeP b e.ino).kind = 1
    · rw [if_pos hkd, if_pos hkd]
      obtain ⟨r, hr, hr2⟩ := place_eq (ways := t.1) (by omega) e.ino
      rw [hr]
      simp only [Option.bind_some]
      have hkt : t.1[k]? = s.1[k]? := w3 k hk
      have hkl : k < t.1.length := by
        rw [List.getElem?_eq_getElem hk] at hkt
        exact (List.getElem?_eq_some_iff.1 hkt).1
      by_cases hs : seenB t.1 e.ino = true
      · rw [if_pos (hr2.2 hs), if_pos hs, ix_at hkl]
        have he : t.1[k].ino = wIno s k := by
          unfold wIno
          rw [← hkt, List.getElem?_eq_getElem hkl]
          rfl
        simp only [Option.bind_some]
        rw [ap_of (by simp; omega) (by omega), wr_suc (by omega), he]
        rfl
      · rw [if_neg (fun h => hs (hr2.1 h)), if_neg hs, ap_of (by simp; omega) (by omega), wr_suc (by omega)]
        rfl
    · rw [if_neg hkd, if_neg hkd, wr_suc (by omega)]
  · rintro t ⟨w1, w2, w3⟩
    simp only [m_ref13_walk_b2]
    rw [if_neg (by omega)]
theorem ref_loop {b : Branch} (hb : PB b) {k : Nat} {s : WS} (h : LI b k s) :
    iter (m_ref13_walk_b1 b) big (s.1, s.2, (k : Int)) = some ((wLoop b k s).2.1, (wLoop b k s).2.2, ((wLoop b k s).1 : Int)) ∧ LI b (wLoop b k s).1 (wLoop b k s).2 ∧ (wLoop b k s).1 = (wLoop b k s).2.1.length := by
  have hn := hb.len
  refine iter_wl (B := m_ref13_walk_b1 b) (fun (k : Nat) (s : WS) => (s.1, s.2, (k : Int))) (wStep b) (fun s => s.1.length) (fun k s => (s.1, s.2, (k : Int))) (LI b) 24 (fun k s h => ⟨h.at', Nat.le_trans h.wi.len hn⟩) ?_ ?_ 25 k s big h (by omega) (by rw [big_eq]; omega)
  · intro k s h hk
    have := h.wi.len
    refine ⟨?_, wStep_inv hb h hk⟩
    simp only [m_ref13_walk_b1]
    rw [if_pos (by omega), ix_at hk]
    simp only [Option.bind_some]
    rw [at_eq hb]
    simp only [Option.bind_some]
    have he : s.1[k].ino = wIno s k := by unfold wIno; rw [List.getElem?_eq_getElem hk]; rfl
    rw [he, ref_enter hb h hk, wr_suc (by omega)]
    rfl
  · intro k s h hk
    simp only [m_ref13_walk_b1]
    rw [if_neg (by omega)]
theorem wl_done {σ : Type} {step : Nat → σ → σ} {len : σ → Nat} {f k : Nat} {s : σ} (h : ¬ k < len s) : wl step len f k s = (k, s) := by
  cases f with
  | zero => rfl
  | succ f => unfold wl; rw [if_neg h]
structure FI (b : Branch) (t : Nat × WS) : Prop where
  li : LI b t.1 t.2
  all : t.1 = t.2.1.length
theorem LI.push {b : Branch} {k : Nat} {s : WS} (h : LI b k s) {w : Way} (hk : (nodeP b w.ino).kind = 1) (hs : seenB s.1 w.ino = false) : LI b k (s.1 ++ [w], s.2) :=
  ⟨h.wi.push hk hs, by have := h.at'; simp; omega, h.tw⟩
theorem fStep_inv {b : Branch} (hb : PB b) {t : Nat × WS} (h : FI b t) (r : Int) : FI b (fStep b t r) := by
  unfold fStep
  split
  · rename_i hc
    obtain ⟨_, a2, a3⟩ := ref_loop hb (h.li.push (w := ⟨r, -1, noBytes⟩) hc.1 hc.2)
    exact ⟨a2, a3⟩
  · exact h
theorem FI.nil (b : Branch) : FI b (0, [], []) := ⟨⟨⟨by simp, by simp⟩, by simp, by simp⟩, rfl⟩
theorem ref_walk {b : Branch} (hb : PB b) {fr : List Int} (hf : fr.length ≤ 1000) : m_ref13_walk b fr = some (walkP b fr).2 ∧ FI b (walkP b fr) := by
  have hn := hb.len
  have key := iter_fold (B := m_ref13_walk_b0 b fr) (fun (i : Nat) (t : Nat × WS) => (t.2.1, t.2.2, (t.1 : Int), (i : Int))) fr (fStep b) (fun t => (t.2.1, t.2.2)) (fun _ t => FI b t) (by
    intro i t hi h
    have hl := h.li.wi.len
    have ht := h.li.tw
    refine ⟨?_, fStep_inv hb h _⟩
    simp only [m_ref13_walk_b0]
    rw [if_pos (by omega), ix_at hi]
    simp only [Option.bind_some]
    rw [at_eq hb]
    simp only [Option.bind_some]
    unfold fStep
    by_cases hk : (nodeP b fr[i]).kind = 1
    · rw [if_pos hk]
      obtain ⟨r, hr, hr2⟩ := place_eq (ways := t.2.1) (by omega) fr[i]
      rw [hr]
      simp only [Option.bind_some]
      by_cases hs : seenB t.2.1 fr[i] = true
      · rw [if_pos (hr2.2 hs), if_neg (by rw [hs]; simp), wr_suc (by omega)]
      · have hs' : seenB t.2.1 fr[i] = false := by simpa using hs
        rw [if_neg (fun h => hs (hr2.1 h)), if_pos ⟨hk, hs'⟩, ap_of (by simp; omega) (by omega)]
        have := (ref_loop hb (h.li.push (w := ⟨fr[i], -1, noBytes⟩) hk hs')).1
        simp only [Option.bind_some]
        rw [this, wr_suc (by omega)]
        rfl
    · rw [if_neg hk, if_neg (fun h => hk h.1), wr_suc (by omega)]) (by
    intro t h
    simp only [m_ref13_walk_b0]
    rw [if_neg (by omega)]) (FI.nil b) (fuel := big) (by rw [big_eq]; omega)
  refine ⟨?_, key.2⟩
  unfold m_ref13_walk
  have h1 := key.1
  simp only at h1
  rw [show ((0 : Nat) : Int) = 0 from rfl] at h1
  rw [h1]
  rfl
end Go.Proofs.Ytnmljicimdhpmaa.AL

/- Plain laws, part 2: the program's walk; what is common. -/
set_option linter.all false
namespace Go.Proofs.Ytnmljicimdhpmaa.AL
open Go Go.Proofs

theorem mget_mset (m : List (Int × Int)) (k v k' : Int) : mget (mset m k v) k' = if k' = k then v else mget m k' := by
  induction m with
  | nil =>
    unfold mget mset
    by_cases h : k' = k
    · subst h; simp
    · have : (k' == k) = false := by simpa using h
      simp [this, h]
  | cons p m ih =>
    unfold mset
    by_cases h : k = p.1
    · rw [if_pos h]
      unfold mget
      by_cases h' : k' = k
      · subst h'; simp [h]
      · have : (k' == p.1) = false := by simp; omega
        simp [this, h']
    · rw [if_neg h]
      unfold mget at ih ⊢
      by_cases h' : k' = p.1
      · have h2 : ¬ k' = k := by omega
        have : (k' == p.1) = true := by simpa using h'
        simp [this, h2]
      · have : (k' == p.1) = false := by simpa using h'
        simpa [List.find?_cons, this] using ih
abbrev MS := WS × List (Int × Int)
/-- The map tells what has been come to. -/
def SM (t : MS) : Prop := ∀ ino, mget t.2 ino = if seenB t.1.1 ino = true then 1 else 0
def eStepM (b : Branch) (k : Nat) (ino : Int) (t : MS) (e : Entry) : MS :=
  (eStep b k ino t.1 e, if (nodeP b e.ino).kind = 1 ∧ seenB t.1.1 e.ino = false then mset t.2 e.ino 1 else t.2)
theorem seenB_push (ways : List Way) (w : Way) (ino : Int) : seenB (ways ++ [w]) ino = (seenB ways ino || decide (w.ino = ino)) := by simp [seenB]
theorem eStepM_sm {b : Branch} {k : Nat} {ino : Int} {t : MS} {e : Entry} (h : SM t) : SM (eStepM b k ino t e) := by
  intro i
  unfold eStepM eStep
  by_cases hk : (nodeP b e.ino).kind = 1
  · by_cases hs : seenB t.1.1 e.ino = true
    · simp only [hk, hs, true_and, if_true, reduceCtorEq, if_false]
      simpa using h i
    · have hs' : seenB t.1.1 e.ino = false := by simpa using hs
      simp only [hk, hs', true_and, if_true, if_false, Bool.false_eq_true]
      rw [mget_mset, seenB_push, h i]
      by_cases hi : i = e.ino
      · subst hi; simp
      · have : ¬ e.ino = i := fun h => hi h.symm
        simp [hi, this]
  · simp only [hk, false_and, if_false]
    exact h i
theorem foldM_fst (b : Branch) (k : Nat) (ino : Int) : ∀ (es : List Entry) (t : MS), (es.foldl (eStepM b k ino) t).1 = es.foldl (eStep b k ino) t.1
  | [], t => rfl
  | e :: es, t => by rw [List.foldl_cons, List.foldl_cons, foldM_fst b k ino es]; rfl
def wStepM (b : Branch) (k : Nat) (t : MS) : MS := (nodeP b (wIno t.1 k)).entries.foldl (eStepM b k (wIno t.1 k)) t
theorem wStepM_fst (b : Branch) (k : Nat) (t : MS) : (wStepM b k t).1 = wStep b k t.1 := foldM_fst _ _ _ _ _
theorem nodeP_in {b : Branch} {ino : Int} (h1 : ¬ ino < 1) (h2 : ¬ (b.nodes.length : Int) < ino) (hn : b.nodes.length ≤ 24) : ix b.nodes (wr (ino - 1)) = some (nodeP b ino) := by
  rw [wr_in (by omega) (by omega), ix_of (by omega) (by omega)]
  unfold nodeP
  rw [if_neg h1, if_neg h2]
  have hlt : (ino - 1).toNat < b.nodes.length := by omega
  simp only [List.getElem?_eq_getElem hlt, Option.getD_some]
theorem nodeP_out {b : Branch} {ino : Int} (h : ino < 1 ∨ (b.nodes.length : Int) < ino) : nodeP b ino = zeroNode := by
  unfold nodeP
  rcases h with h | h
  · rw [if_pos h]
  · rw [if_pos h]; split <;> rfl
theorem kind_zero : ¬ zeroNode.kind = 1 := by simp [zeroNode]
def wLoopM (b : Branch) (k : Nat) (t : MS) : Nat × MS := wl (wStepM b) (fun t => t.1.1.length) 25 k t
theorem wlM_fst (b : Branch) : ∀ (f k : Nat) (t : MS), (wl (wStepM b) (fun t => t.1.1.length) f k t).1 = (wl (wStep b) (fun s => s.1.length) f k t.1).1 ∧ (wl (wStepM b) (fun t => t.1.1.length) f k t).2.1 = (wl (wStep b) (fun s => s.1.length) f k t.1).2
  | 0, k, t => ⟨rfl, rfl⟩
  | f + 1, k, t => by
    unfold wl
    by_cases h : k < t.1.1.length
    · rw [if_pos h, if_pos h]
      have := wlM_fst b f (k + 1) (wStepM b k t)
      rw [wStepM_fst] at this
      exact this
    · rw [if_neg h, if_neg h]
      exact ⟨rfl, rfl⟩
def fStepM (b : Branch) (t : Nat × MS) (r : Int) : Nat × MS :=
  if (nodeP b r).kind = 1 ∧ seenB t.2.1.1 r = false then wLoopM b t.1 ((t.2.1.1 ++ [⟨r, -1, noBytes⟩], t.2.1.2), mset t.2.2 r 1) else t
theorem fStepM_fst (b : Branch) (t : Nat × MS) (r : Int) : ((fStepM b t r).1, (fStepM b t r).2.1) = fStep b (t.1, t.2.1) r := by
  unfold fStepM fStep
  split
  · have := wlM_fst b 25 t.1 ((t.2.1.1 ++ [⟨r, -1, noBytes⟩], t.2.1.2), mset t.2.2 r 1)
    exact Prod.ext this.1 this.2
  · rfl
theorem SM.push {t : MS} (h : SM t) (r : Int) (hs : seenB t.1.1 r = false) : SM ((t.1.1 ++ [⟨r, -1, noBytes⟩], t.1.2), mset t.2 r 1) := by
  intro i
  rw [mget_mset, seenB_push, h i]
  by_cases hi : i = r
  · subst hi; simp
  · have : ¬ r = i := fun h => hi h.symm
    simp [hi, this]
end Go.Proofs.Ytnmljicimdhpmaa.AL

/- Plain laws, part 2: the program's walk is the document's: as walk_Reach has it. -/
set_option linter.all false
namespace Go.Proofs.Ytnmljicimdhpmaa.AL
open Go Go.Proofs

theorem my_enter_walk_Reach {b : Branch} (hb : PB b) {k : Nat} {t : MS} (h : LI b k t.1) (hm : SM t) (hk : k < t.1.1.length) (w : Way) (hw : w.ino = wIno t.1 k) :
    iter (m_walk_Reach_b5 b (k : Int) w (nodeP b (wIno t.1 k))) big (0, t.1.1, t.1.2, t.2) = some ((wStepM b k t).1.1, (wStepM b k t).2, (wStepM b k t).1.2) ∧ SM (wStepM b k t) := by
  have hlen := nodeP_ents hb (wIno t.1 k)
  have hn := hb.len
  have key := (iter_fold (B := m_walk_Reach_b5 b (k : Int) w (nodeP b (wIno t.1 k))) (fun (i : Nat) (s : MS) => ((i : Int), s.1.1, s.1.2, s.2)) (nodeP b (wIno t.1 k)).entries (eStepM b k (wIno t.1 k)) (fun s => (s.1.1, s.2, s.1.2))
    (fun i u => WI b u.1.1 ∧ u.1.2.length ≤ t.1.2.length + i ∧ SM u) (by
    rintro i u hi ⟨w1, w2, w3⟩
    have htl := w1.len
    have hs2 := h.tw
    have hsl := h.wi.len
    have hat := h.at'
    obtain ⟨a1, a2, a3, a4⟩ := eStep_inv (k := k) (ino := wIno t.1 k) (e := (nodeP b (wIno t.1 k)).entries[i]) w1
    refine ⟨?_, a1, by show (eStep _ _ _ _ _).2.length ≤ _; omega, eStepM_sm w3⟩
    simp only [m_walk_Reach_b5]
    rw [if_pos (by omega), ix_at hi]
    simp only [Option.bind_some]
    generalize (nodeP b (wIno t.1 k)).entries[i] = e
    unfold eStepM eStep
    by_cases h1 : e.ino < 1
    · rw [if_pos h1, nodeP_out (.inl h1), if_neg kind_zero, if_neg (fun h => kind_zero h.1), wr_suc (by omega)]
    · rw [if_neg h1]
      by_cases h2 : (b.nodes.length : Int) < e.ino
      · rw [if_pos h2, nodeP_out (.inr h2), if_neg kind_zero, if_neg (fun h => kind_zero h.1), wr_suc (by omega)]
      · rw [if_neg h2, nodeP_in h1 h2 hn]
        simp only [Option.bind_some]
        by_cases hkd : (nodeP b e.ino).kind = 1
        · rw [if_pos hkd, if_pos hkd]
          have hg := w3 e.ino
          by_cases hs : seenB u.1.1 e.ino = true
          · rw [if_pos (by rw [hg, if_pos hs]; omega), if_pos hs, if_neg (by rw [hs]; simp), ap_of (by simp; omega) (by omega), wr_suc (by omega), hw]
            rfl
          · have hs' : seenB u.1.1 e.ino = false := by simpa using hs
            rw [if_neg (by rw [hg, if_neg hs]; omega), if_neg hs, if_pos ⟨hkd, hs'⟩, ap_of (by simp; omega) (by omega), wr_suc (by omega), hg, if_neg hs, wr_in (by omega) (by omega)]
            rfl
        · rw [if_neg hkd, if_neg hkd, if_neg (fun h => hkd h.1), wr_suc (by omega)]) (by
    rintro u ⟨w1, w2, w3⟩
    simp only [m_walk_Reach_b5]
    rw [if_neg (by omega)]) (s0 := t) ⟨h.wi, by omega, hm⟩ (fuel := big) (by rw [big_eq]; omega))
  exact ⟨key.1, key.2.2.2⟩
theorem my_loop_walk_Reach {b : Branch} (hb : PB b) {k : Nat} {t : MS} (h : LI b k t.1) (hm : SM t) :
    iter (m_walk_Reach_b2 b) (big + 1) ((k : Int), t.1.1, t.1.2, t.2) = some ((wLoopM b k t).2.1.1, (wLoopM b k t).2.2, (wLoopM b k t).2.1.2, ((wLoopM b k t).1 : Int)) ∧ (LI b (wLoopM b k t).1 (wLoopM b k t).2.1 ∧ SM (wLoopM b k t).2) ∧ (wLoopM b k t).1 = (wLoopM b k t).2.1.1.length := by
  have hn := hb.len
  refine iter_wl (B := m_walk_Reach_b2 b) (fun (k : Nat) (t : MS) => ((k : Int), t.1.1, t.1.2, t.2)) (wStepM b) (fun t => t.1.1.length) (fun k t => (t.1.1, t.2, t.1.2, (k : Int))) (fun k t => LI b k t.1 ∧ SM t) 24 (fun k s h => ⟨h.1.at', Nat.le_trans h.1.wi.len hn⟩) ?_ ?_ 25 k t (big + 1) ⟨h, hm⟩ (by omega) (by rw [big_eq]; omega)
  · rintro k t ⟨h, hm⟩ hk
    have hl := h.wi.len
    have he : t.1.1[k].ino = wIno t.1 k := by unfold wIno; rw [List.getElem?_eq_getElem hk]; rfl
    obtain ⟨r1, r2⟩ := nodeP_kind (h.wi.dir _ (List.getElem_mem hk))
    obtain ⟨e1, e2⟩ := my_enter_walk_Reach hb h hm hk t.1.1[k] he
    refine ⟨?_, by rw [wStepM_fst]; exact wStep_inv hb h hk, e2⟩
    simp only [m_walk_Reach_b2]
    rw [if_pos (by omega), ix_at hk]
    simp only [Option.bind_some]
    rw [if_neg (by omega), if_neg (by omega), nodeP_in (by omega) (by omega) hn, he]
    simp only [Option.bind_some]
    rw [e1, wr_suc (by omega)]
    rfl
  · rintro k t ⟨h, hm⟩ hk
    simp only [m_walk_Reach_b2]
    rw [if_neg (by omega)]
theorem my_push_walk_Reach {b : Branch} (hb : PB b) {t : Nat × MS} (h : FI b (t.1, t.2.1)) (hm : SM t.2) (r : Int) :
    m_walk_Reach_p1 b t.2.1.1 t.2.2 r = some (if (nodeP b r).kind = 1 ∧ seenB t.2.1.1 r = false then (t.2.1.1 ++ [⟨r, -1, noBytes⟩], mset t.2.2 r 1) else (t.2.1.1, t.2.2)) := by
  have hn := hb.len
  have hl := h.li.wi.len
  simp only at hl
  unfold m_walk_Reach_p1
  by_cases h1 : r < 1
  · rw [if_pos h1, nodeP_out (.inl h1), if_neg (fun h => kind_zero h.1)]
  · rw [if_neg h1]
    by_cases h2 : (b.nodes.length : Int) < r
    · rw [if_pos h2, nodeP_out (.inr h2), if_neg (fun h => kind_zero h.1)]
    · rw [if_neg h2, nodeP_in h1 h2 hn]
      simp only [Option.bind_some]
      by_cases hk : (nodeP b r).kind = 1
      · rw [if_pos hk]
        have hg := hm r
        by_cases hs : seenB t.2.1.1 r = true
        · rw [if_pos (by rw [hg, if_pos hs]; omega), if_neg (by rw [hs]; simp)]
        · have hs' : seenB t.2.1.1 r = false := by simpa using hs
          rw [if_neg (by rw [hg, if_neg hs]; omega), if_pos ⟨hk, hs'⟩, ap_of (by simp; omega) (by omega), hg, if_neg hs, wr_in (by omega) (by omega)]
          rfl
      · rw [if_neg hk, if_neg (fun h => hk h.1)]
theorem my_walk_walk_Reach {b : Branch} (hb : PB b) {fr : List Int} (hf : fr.length ≤ 1000) : ∃ M, iter (m_walk_Reach_b0 b fr) big (0, 0, [], [], ([] : List (Int × Int))) = some ((walkP b fr).2.1, M, (walkP b fr).2.2) := by
  have hn := hb.len
  have key := iter_fold (B := m_walk_Reach_b0 b fr) (fun (i : Nat) (t : Nat × MS) => ((t.1 : Int), (i : Int), t.2.1.1, t.2.1.2, t.2.2)) fr (fStepM b) (fun t => (t.2.1.1, t.2.2, t.2.1.2)) (fun _ t => FI b (t.1, t.2.1) ∧ SM t.2) (by
    rintro i t hi ⟨h, hm⟩
    have hl := h.li.wi.len
    have hi2 : FI b ((fStepM b t fr[i]).1, (fStepM b t fr[i]).2.1) := by rw [fStepM_fst]; exact fStep_inv hb h _
    simp only [m_walk_Reach_b0]
    rw [if_pos (by omega), ix_at hi]
    simp only [Option.bind_some]
    rw [my_push_walk_Reach hb h hm]
    unfold fStepM at hi2 ⊢
    by_cases hc : (nodeP b fr[i]).kind = 1 ∧ seenB t.2.1.1 fr[i] = false
    · rw [if_pos hc] at hi2
      rw [if_pos hc, if_pos hc]
      have hp := h.li.push (w := ⟨fr[i], -1, noBytes⟩) hc.1 hc.2
      obtain ⟨q1, q2, q3⟩ := my_loop_walk_Reach hb (k := t.1) (t := ((t.2.1.1 ++ [⟨fr[i], -1, noBytes⟩], t.2.1.2), mset t.2.2 fr[i] 1)) hp (hm.push _ hc.2)
      simp only [Option.bind_some]
      simp only at q1
      rw [q1, wr_suc (by omega)]
      exact ⟨rfl, hi2, q2.2⟩
    · rw [if_neg hc] at hi2
      rw [if_neg hc, if_neg hc]
      obtain ⟨q1, q2, q3⟩ := my_loop_walk_Reach hb (k := t.1) (t := t.2) h.li hm
      have hd : wLoopM b t.1 t.2 = (t.1, t.2) := wl_done (by have := h.all; simp only at this; omega)
      rw [hd] at q1
      simp only [Option.bind_some]
      simp only at q1
      rw [q1, wr_suc (by omega)]
      exact ⟨rfl, hi2, hm⟩) (by
    rintro t ⟨h, hm⟩
    simp only [m_walk_Reach_b0]
    rw [if_neg (by omega)]) (s0 := (0, (([], []), []))) ⟨FI.nil b, fun i => by simp [mget, seenB]⟩ (fuel := big) (by rw [big_eq]; omega)
  have hfst : ∀ (l : List Int) (t : Nat × MS), ((l.foldl (fStepM b) t).1, (l.foldl (fStepM b) t).2.1) = l.foldl (fStep b) (t.1, t.2.1) := by
    intro l
    induction l with
    | nil => intro t; rfl
    | cons x l ih => intro t; rw [List.foldl_cons, List.foldl_cons, ih, fStepM_fst]
  have h2 := hfst fr (0, (([], []), []))
  have h3 : (fr.foldl (fStepM b) (0, (([], []), []))).2.1 = (walkP b fr).2 := by
    unfold walkP
    rw [← h2]
  refine ⟨(fr.foldl (fStepM b) (0, (([], []), []))).2.2, ?_⟩
  have h1 := key.1
  rw [← h3]
  exact h1

end Go.Proofs.Ytnmljicimdhpmaa.AL

/- Plain laws, part 3: what is reached. -/
set_option linter.all false
namespace Go.Proofs.Ytnmljicimdhpmaa.AL
open Go Go.Proofs

def setT (bs : List Bool) (L : List Nat) : List Bool := L.foldl (fun bs i => bs.set i true) bs
theorem setT_append (bs : List Bool) (L M : List Nat) : setT bs (L ++ M) = setT (setT bs L) M := by unfold setT; rw [List.foldl_append]
theorem setT_len (L : List Nat) : ∀ bs : List Bool, (setT bs L).length = bs.length := by
  induction L with
  | nil => intro bs; rfl
  | cons i L ih => intro bs; show (setT (bs.set i true) L).length = _; rw [ih]; simp
theorem setT_get : ∀ (L : List Nat) (bs : List Bool) (j : Nat), (setT bs L)[j]? = if j ∈ L then (bs[j]?).map (fun _ => true) else bs[j]?
  | [], bs, j => by simp [setT]
  | i :: L, bs, j => by
    show (setT (bs.set i true) L)[j]? = _
    rw [setT_get L]
    have hs : (bs.set i true)[j]? = if i = j then (bs[j]?).map (fun _ => true) else bs[j]? := by
      rw [List.getElem?_set]
      by_cases e : i = j
      · subst e
        by_cases h : i < bs.length
        · simp [h]
        · simp [h]
      · simp [e]
    rw [hs]
    by_cases h1 : j ∈ L
    · rw [if_pos h1, if_pos (List.mem_cons_of_mem _ h1)]
      split
      · cases bs[j]? <;> rfl
      · rfl
    · rw [if_neg h1]
      by_cases e : i = j
      · subst e; simp
      · have : ¬ j ∈ i :: L := by simp [h1]; omega
        rw [if_neg e, if_neg this]
theorem setT_ext {bs : List Bool} {L M : List Nat} (h : ∀ j, j ∈ L ↔ j ∈ M) : setT bs L = setT bs M := by
  refine List.ext_getElem? fun j => ?_
  rw [setT_get, setT_get]
  by_cases hj : j ∈ L
  · rw [if_pos hj, if_pos ((h j).1 hj)]
  · rw [if_neg hj, if_neg (fun k => hj ((h j).2 k))]
def idxE (n : Nat) (e : Entry) : List Nat := if 1 ≤ e.ino ∧ e.ino ≤ (n : Int) then [(e.ino - 1).toNat] else []
theorem stepE_setT {bs : List Bool} {n : Nat} (h : bs.length = n) (e : Entry) : stepE bs e = setT bs (idxE n e) := by
  unfold stepE idxE
  rw [h]
  split <;> rfl
theorem foldE_setT {n : Nat} : ∀ (es : List Entry) {bs : List Bool}, bs.length = n → es.foldl stepE bs = setT bs (es.flatMap (idxE n))
  | [], bs, h => rfl
  | e :: es, bs, h => by
    rw [List.foldl_cons, List.flatMap_cons, setT_append, stepE_setT h]
    exact foldE_setT es (by rw [setT_len]; exact h)
theorem foldW_setT : ∀ (ws : List Way) (bs : List Bool), ws.foldl stepW bs = setT bs (ws.map fun w => (w.ino - 1).toNat)
  | [], bs => rfl
  | w :: ws, bs => by rw [List.foldl_cons, foldW_setT ws]; rfl
/-- What is reached. -/
def reachL (b : Branch) (ways : List Way) : List Nat := ways.flatMap fun w => (w.ino - 1).toNat :: (nodeP b w.ino).entries.flatMap (idxE b.nodes.length)
def reachW (b : Branch) (ways : List Way) : List Bool := setT (List.replicate b.nodes.length false) (reachL b ways)
def reachP (b : Branch) (fr : List Int) : List Bool := reachW b (walkP b fr).2.1
theorem reachP_len (b : Branch) (fr : List Int) : (reachP b fr).length = b.nodes.length := by unfold reachP reachW; rw [setT_len]; simp
theorem nodeAt_eq {b : Branch} (hb : PB b) (ino : Int) : nodeAt b ino = some (nodeP b ino) := at_eq hb ino
theorem my_reach {b : Branch} (hb : PB b) {ways : List Way} (h : WI b ways) : m_walk_trail_reach b ways = some (reachW b ways) := by
  have hn := hb.len
  have hl := h.len
  unfold m_walk_trail_reach
  have hc : b.nodes.length ≤ 281474976710656 ∧ ways.length < 4611686018427387904 ∧ (∀ w ∈ ways, 1 ≤ w.ino ∧ w.ino ≤ (b.nodes.length : Int)) ∧ (∀ w ∈ ways, (nodeAt b w.ino).isSome = true) ∧ ∀ w ∈ ways, ((nodeAt b w.ino).getD default).entries.length < 4611686018427387904 := by
    refine ⟨by omega, by omega, fun w hw => nodeP_kind (h.dir w hw), fun w hw => by rw [nodeAt_eq hb]; rfl, fun w hw => ?_⟩
    rw [nodeAt_eq hb]
    have := nodeP_ents hb w.ino
    simp only [Option.getD_some]
    omega
  have hck : ck (b.nodes.length ≤ 281474976710656 ∧ ways.length < 4611686018427387904 ∧ (∀ w ∈ ways, 1 ≤ w.ino ∧ w.ino ≤ (b.nodes.length : Int)) ∧ (∀ w ∈ ways, (nodeAt b w.ino).isSome = true) ∧ ∀ w ∈ ways, ((nodeAt b w.ino).getD default).entries.length < 4611686018427387904) = some () := by
    unfold ck
    rw [if_pos hc]
  rw [hck]
  simp only [Option.bind_some]
  have hnd : (fun w : Way => (nodeAt b w.ino).getD default) = fun w => nodeP b w.ino := by funext w; rw [nodeAt_eq hb]; rfl
  rw [hnd]
  unfold reachM reachW entsN
  rw [List.take_length, foldW_setT, foldE_setT (n := b.nodes.length) _ (by rw [setT_len]; simp), ← setT_append]
  congr 1
  refine setT_ext fun j => ?_
  unfold reachL
  simp only [List.mem_append, List.mem_map, List.mem_flatMap, List.mem_cons]
  constructor
  · rintro (⟨w, hw, rfl⟩ | ⟨e, ⟨w, hw, he⟩, hj⟩)
    · exact ⟨w, hw, .inl rfl⟩
    · exact ⟨w, hw, .inr ⟨e, he, hj⟩⟩
  · rintro ⟨w, hw, rfl | ⟨e, he, hj⟩⟩
    · exact .inl ⟨w, hw, rfl⟩
    · exact .inr ⟨e, ⟨w, hw, he⟩, hj⟩
theorem walkReach_eq {b : Branch} (hb : PB b) {fr : List Int} (hf : fr.length ≤ 1000) : m_walk_Reach b fr = some (reachP b fr) := by
  obtain ⟨M, hM⟩ := my_walk_walk_Reach hb hf
  unfold m_walk_Reach
  rw [hM]
  simp only [Option.bind_some]
  rw [my_reach hb (ref_walk hb hf).2.li.wi]
  rfl
end Go.Proofs.Ytnmljicimdhpmaa.AL

/- Plain laws: the pruned layer is walked as the layer is. -/
set_option linter.all false
namespace Go.Proofs.Ytnmljicimdhpmaa.AL
open Go Go.Proofs

/-- What a walk may still add from place k on. -/
structure Le (k : Nat) (s t : WS) : Prop where
  pw : s.1 <+: t.1
  pt : s.2 <+: t.2
  new : ∀ p ∈ t.2, p ∈ s.2 ∨ ∃ j, k ≤ j ∧ ∃ w, t.1[j]? = some w ∧ w.ino = p.c0
theorem pre_at {α : Type} {xs ys : List α} (h : xs <+: ys) {j : Nat} {w : α} (e : xs[j]? = some w) : ys[j]? = some w := by
  obtain ⟨zs, rfl⟩ := h
  rw [List.getElem?_append_left (List.getElem?_eq_some_iff.1 e).1]
  exact e
theorem Le.refl (k : Nat) (s : WS) : Le k s s := ⟨List.prefix_refl _, List.prefix_refl _, fun p h => .inl h⟩
theorem Le.trans {k k' : Nat} {s t u : WS} (h : Le k s t) (h' : Le k' t u) (hk : k ≤ k') : Le k s u := ⟨h.pw.trans h'.pw, h.pt.trans h'.pt, fun p hp => by
  rcases h'.new p hp with h1 | ⟨j, h1, w, h2⟩
  · rcases h.new p h1 with h2 | ⟨j, h2, w, h3, h4⟩
    · exact .inl h2
    · exact .inr ⟨j, h2, w, pre_at h'.pw h3, h4⟩
  · exact .inr ⟨j, by omega, w, h2⟩⟩
theorem eStep_pre (b : Branch) (k : Nat) (ino : Int) (s : WS) (e : Entry) : s.1 <+: (eStep b k ino s e).1 ∧ s.2 <+: (eStep b k ino s e).2 ∧ ∀ p ∈ (eStep b k ino s e).2, p ∈ s.2 ∨ p = ⟨ino, e.slot⟩ := by
  unfold eStep
  split
  · split
    · exact ⟨List.prefix_refl _, List.prefix_append _ _, fun p hp => by simpa using hp⟩
    · exact ⟨List.prefix_append _ _, List.prefix_refl _, fun p hp => .inl hp⟩
  · exact ⟨List.prefix_refl _, List.prefix_refl _, fun p hp => .inl hp⟩
theorem eFold_pre (b : Branch) (k : Nat) (ino : Int) : ∀ (es : List Entry) (s : WS), s.1 <+: (es.foldl (eStep b k ino) s).1 ∧ s.2 <+: (es.foldl (eStep b k ino) s).2 ∧ ∀ p ∈ (es.foldl (eStep b k ino) s).2, p ∈ s.2 ∨ ∃ e ∈ es, p = ⟨ino, e.slot⟩
  | [], s => ⟨List.prefix_refl _, List.prefix_refl _, fun p hp => .inl hp⟩
  | e :: es, s => by
    obtain ⟨a1, a2, a3⟩ := eStep_pre b k ino s e
    obtain ⟨b1, b2, b3⟩ := eFold_pre b k ino es (eStep b k ino s e)
    rw [List.foldl_cons]
    refine ⟨a1.trans b1, a2.trans b2, fun p hp => ?_⟩
    rcases b3 p hp with h | ⟨e', h1, h2⟩
    · rcases a3 p h with h | h
      · exact .inl h
      · exact .inr ⟨e, by simp, h⟩
    · exact .inr ⟨e', by simp [h1], h2⟩
theorem wIno_at {s : WS} {k : Nat} {w : Way} (h : s.1[k]? = some w) : wIno s k = w.ino := by unfold wIno; rw [h]; rfl
theorem wStep_le (b : Branch) {k : Nat} {s : WS} (hk : k < s.1.length) : Le k s (wStep b k s) := by
  obtain ⟨a1, a2, a3⟩ := eFold_pre b k (wIno s k) (nodeP b (wIno s k)).entries s
  refine ⟨a1, a2, fun p hp => ?_⟩
  rcases a3 p hp with h | ⟨e, h1, rfl⟩
  · exact .inl h
  · exact .inr ⟨k, Nat.le_refl _, s.1[k], pre_at a1 (List.getElem?_eq_getElem hk), (wIno_at (List.getElem?_eq_getElem hk)).symm⟩
theorem wl_le (b : Branch) : ∀ (f k : Nat) (s : WS), Le k s (wl (wStep b) (fun s => s.1.length) f k s).2 ∧ k ≤ (wl (wStep b) (fun s => s.1.length) f k s).1
  | 0, k, s => ⟨Le.refl _ _, Nat.le_refl _⟩
  | f + 1, k, s => by
    unfold wl
    split
    · rename_i hk
      obtain ⟨h1, h2⟩ := wl_le b f (k + 1) (wStep b k s)
      exact ⟨(wStep_le b hk).trans h1 (by omega), by omega⟩
    · exact ⟨Le.refl _ _, Nat.le_refl _⟩
theorem fStep_le (b : Branch) (t : Nat × WS) (r : Int) : Le t.1 t.2 (fStep b t r).2 ∧ t.1 ≤ (fStep b t r).1 := by
  unfold fStep
  split
  · obtain ⟨h1, h2⟩ := wl_le b 25 t.1 (t.2.1 ++ [⟨r, -1, noBytes⟩], t.2.2)
    exact ⟨Le.trans (t := (t.2.1 ++ [⟨r, -1, noBytes⟩], t.2.2)) ⟨List.prefix_append _ _, List.prefix_refl _, fun p h => .inl h⟩ h1 (Nat.le_refl _), h2⟩
  · exact ⟨Le.refl _ _, Nat.le_refl _⟩
/-! ### What has been told twice -/
def Past (b : Branch) (k : Nat) (s : WS) : Prop := ∀ p ∈ s.2, ∃ j, j < k ∧ ∃ w, s.1[j]? = some w ∧ w.ino = p.c0 ∧ ∃ e ∈ (nodeP b w.ino).entries, e.slot = p.c1 ∧ seenB s.1 e.ino = true
theorem seen_pre {xs ys : List Way} (h : xs <+: ys) {i : Int} (hs : seenB xs i = true) : seenB ys i = true := by
  obtain ⟨w, hw, e⟩ := seenB_iff.1 hs
  exact seenB_iff.2 ⟨w, h.subset hw, e⟩
theorem Past.pre {b : Branch} {k : Nat} {ws ws' : List Way} {ts : List Ar2_Int} (h : Past b k (ws, ts)) (hp : ws <+: ws') : Past b k (ws', ts) := fun p hpm => by
  obtain ⟨j, h1, w, h2, h3, e, h4, h5, h6⟩ := h p hpm
  exact ⟨j, h1, w, pre_at hp h2, h3, e, h4, h5, seen_pre hp h6⟩
theorem Past.mono {b : Branch} {k k' : Nat} {s : WS} (h : Past b k s) (hk : k ≤ k') : Past b k' s := fun p hpm => by
  obtain ⟨j, h1, h2⟩ := h p hpm
  exact ⟨j, by omega, h2⟩
/-! ### The walk of the pruned layer -/
def keepE (T : List Ar2_Int) (ino : Int) (e : Entry) : Bool := !(T.any fun q => decide (q = (⟨ino, e.slot⟩ : Ar2_Int)))
structure Cut (b c : Branch) (F : WS) : Prop where
  k : ∀ i, (nodeP c i).kind = 1 → (nodeP b i).kind = 1
  w : ∀ w ∈ F.1, (nodeP c w.ino).entries = (nodeP b w.ino).entries.filter (keepE F.2 w.ino)
  kw : ∀ w ∈ F.1, (nodeP c w.ino).kind = (nodeP b w.ino).kind
  ke : ∀ w ∈ F.1, ∀ e ∈ (nodeP b w.ino).entries, (nodeP c e.ino).kind = (nodeP b e.ino).kind
theorem ino_inj {b : Branch} {ways : List Way} (h : WI b ways) {i j : Nat} {w w' : Way} (h1 : ways[i]? = some w) (h2 : ways[j]? = some w') (e : w.ino = w'.ino) : i = j := by
  have a1 : (ways.map (·.ino))[i]? = some w.ino := by rw [List.getElem?_map, h1]; rfl
  have a2 : (ways.map (·.ino))[j]? = some w.ino := by rw [List.getElem?_map, h2, e]; rfl
  obtain ⟨l1, b1⟩ := List.getElem?_eq_some_iff.1 a1
  obtain ⟨l2, b2⟩ := List.getElem?_eq_some_iff.1 a2
  have hp := List.pairwise_iff_getElem.1 h.nd
  rcases Nat.lt_trichotomy i j with hlt | rfl | hlt
  · exact absurd (b1.trans b2.symm) (hp i j l1 l2 hlt)
  · rfl
  · exact absurd (b2.trans b1.symm) (hp j i l2 l1 hlt)
end Go.Proofs.Ytnmljicimdhpmaa.AL

/- slices.Reverse, in place. -/
set_option linter.all false
namespace Go.Proofs.Ytnmljicimdhpmaa.AL
open Go Go.Proofs Go.RowKit
end Go.Proofs.Ytnmljicimdhpmaa.AL

/- Models of functions, and that the functions are as their models: written by gen.py. -/
set_option linter.all false
set_option maxRecDepth 100000
namespace Go.Proofs.Ytnmljicimdhpmaa.AL
open Go Go.Proofs
end Go.Proofs.Ytnmljicimdhpmaa.AL

