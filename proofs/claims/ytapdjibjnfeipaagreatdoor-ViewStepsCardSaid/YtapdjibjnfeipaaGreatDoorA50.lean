/- What any node of any stack should say of copies, and which say otherwise, is what the document says: part 50 of 52. -/
import Derived.Test.YtapdjibjnfeipaaGreatDoorA49
set_option linter.all false
/- Models of functions, and that the functions are as their models: written by gen.py. -/
set_option linter.all false
set_option maxRecDepth 100000
namespace Go.Proofs.YtapdjibjnfeipaaGreatDoor.AL
open Go Go.Proofs
def xcc  : Option (Bool) := (xvu ).bind fun v1 => (x6e v1).bind fun v3 => (xsd v1 v3 (ByteArray.mk #[97])).bind fun v5 => (xsd v1 v3 (ByteArray.mk #[122])).bind fun v7 => (xcq v1).bind fun v9 => if v3.upper = 1 then if (v3.lower.length : Int) = 1 then if v5.1 = 2 then if (decide (v5.2.2 = (⟨1, 2⟩ : Place))) = true then if v7.1 = 0 then (xje v1 v3).bind fun v22 => (x0b v22 ([(ByteArray.mk #[97])] : List ByteArray)).bind fun v24 => if v24 = true then if (v9.1.length : Int) = 1 then if (v9.2.length : Int) = 1 then some true
 else some false
 else some false
 else some false
 else some false
 else some false
 else some false
 else some false
 else some false
def xob := aI (aI (aI (aI (@EV) (@R3)) (aI (@R9) (aI (@R29) (@R30)))) (aI (aI (@R32) (@R42)) (aI (@R45) (aI (@R73) (@R74))))) (aI (aI (aI (@R79) (@DBranch)) (aI (@DStack) (aI (@DView) (@DPlace)))) (aI (aI (@DEntry) (@DAttr)) (aI (@DNode) (aI (@DWay) (@eq45)))))
set_option maxHeartbeats 2000000 in
theorem xpc  (r : Bool) (hm0 : xcc  = some r) : Ok Tryz.prog 18 [] (bool r) := by
 unfold xcc at hm0
 refine okG x9y ?_
 unfold xms
 obtain ⟨v1, h2, hm0⟩ := bsE hm0
 simp only [xob, ↓EVd, isCall, sevalprocAttr]
 refine qc (xo0  _ h2) rfl ?_
 obtain ⟨v3, h4, hm0⟩ := bsE hm0
 simp only [xob, ↓EVd, isCall, sevalprocAttr]
 refine qc (x3k _ _ h4) rfl ?_
 obtain ⟨v5, h6, hm0⟩ := bsE hm0
 simp only [xob, ↓EVd, isCall, sevalprocAttr]
 refine qc (xog _ _ _ _ h6) rfl ?_
 obtain ⟨v7, h8, hm0⟩ := bsE hm0
 simp only [xob, ↓EVd, isCall, sevalprocAttr]
 refine qc (xog _ _ _ _ h8) rfl ?_
 obtain ⟨v9, h10, hm0⟩ := bsE hm0
 simp only [xob, ↓EVd, isCall, sevalprocAttr]
 refine qc (xs2 _ _ h10) rfl ?_
 rcases iteE hm0 with ⟨e12, hm0⟩ | ⟨e12, hm0⟩
 · rcases iteE hm0 with ⟨e14, hm0⟩ | ⟨e14, hm0⟩
   · rcases iteE hm0 with ⟨e16, hm0⟩ | ⟨e16, hm0⟩
     · have e17 : (.agg [int 1, int 2] : AV) = xb (⟨1, 2⟩ : Place) := _root_.id rfl
       rcases itbE hm0 with ⟨e19, hm0⟩ | ⟨e19, hm0⟩
       · rcases iteE hm0 with ⟨e21, hm0⟩ | ⟨e21, hm0⟩
         · obtain ⟨v22, h23, hm0⟩ := bsE hm0
           simp only [e12, e14, e16, e17, e19, e21, xob, ↓EVd, isCall, sevalprocAttr]
           refine qc (xon _ _ _ h23) rfl ?_
           obtain ⟨v24, h25, hm0⟩ := bsE hm0
           simp only [e12, e14, e16, e17, e19, e21, xob, ↓EVd, isCall, sevalprocAttr]
           refine qcb (x5f _ _ _ h25) rfl (by simp only [e12, e14, e16, e17, e19, e21, FZ, CLO, xob, ↓EVd, isCall, sevalprocAttr]) ?_
           rcases itbE hm0 with ⟨e27, hm0⟩ | ⟨e27, hm0⟩
           · rcases iteE hm0 with ⟨e29, hm0⟩ | ⟨e29, hm0⟩
             · have g32 := And.intro (And.intro (And.intro ((e12)) ((e14))) (And.intro ((e16)) ((e17)))) (And.intro (And.intro ((e19)) ((e21))) (And.intro ((e27)) ((e29))))
               rcases iteE hm0 with ⟨e31, hm0⟩ | ⟨e31, hm0⟩
               · obtain rfl := Option.some.inj hm0
                 simp only [g32, e31, xob, ↓EVd, isCall, sevalprocAttr]
                 all_goals first | done | rfl
               obtain rfl := Option.some.inj hm0
               simp only [g32, e31, xob, ↓EVd, isCall, sevalprocAttr]
               all_goals first | done | rfl
             obtain rfl := Option.some.inj hm0
             simp only [e12, e14, e16, e17, e19, e21, e27, e29, xob, ↓EVd, isCall, sevalprocAttr]
             all_goals first | done | rfl
           obtain rfl := Option.some.inj hm0
           simp only [e12, e14, e16, e17, e19, e21, e27, xob, ↓EVd, isCall, sevalprocAttr]
           all_goals first | done | rfl
         obtain rfl := Option.some.inj hm0
         simp only [e12, e14, e16, e17, e19, e21, xob, ↓EVd, isCall, sevalprocAttr]
         all_goals first | done | rfl
       obtain rfl := Option.some.inj hm0
       simp only [e12, e14, e16, e17, e19, xob, ↓EVd, isCall, sevalprocAttr]
       all_goals first | done | rfl
     obtain rfl := Option.some.inj hm0
     simp only [e12, e14, e16, xob, ↓EVd, isCall, sevalprocAttr]
     all_goals first | done | rfl
   obtain rfl := Option.some.inj hm0
   simp only [e12, e14, xob, ↓EVd, isCall, sevalprocAttr]
   all_goals first | done | rfl
 obtain rfl := Option.some.inj hm0
 simp only [e12, xob, ↓EVd, isCall, sevalprocAttr]
 all_goals first | done | rfl
def x7f (a0 : Stack) (a1 : View) (a2 : ByteArray) (a3 : Int) : Option (Bool) := (xxe a0 24).bind fun v1 => if (!v1) = true then (xcc ).bind fun v5 => some v5
 else if 8 < (a1.lower.length : Int) then (xcc ).bind fun v9 => some v9
 else if 40 < (a2.size : Int) then (xcc ).bind fun v13 => some v13
 else (xsd a0 a1 a2).bind fun v15 => (xng a0 a1 a2).bind fun v17 => if v15.1 = v17.1 then (xkd v15.2.1 v17.2.1).bind fun v21 => if (!v21) = true then some false
 else if (decide (v15.2.2 = v17.2.2)) = true then (x6e a0).bind fun v27 => (xbi a0).bind fun v29 => (xkd v27 v29).bind fun v31 => if (!v31) = true then some false
 else (xrj a0 a1 a3 a2).bind fun v35 => (xgg a0 a1 a3 a2).bind fun v37 => (xwb v35 v37).bind fun v39 => if v39 = true then (xje a0 a1).bind fun v43 => (xsf a0 a1).bind fun v45 => (x0b v43 v45).bind fun v47 => if v47 = true then (xcc ).bind fun v51 => some v51
 else some false
 else some false
 else some false
 else some false
def xn := aI (aI (aI (aI (@EV) (@R3)) (aI (@R9) (@R29))) (aI (aI (@R30) (@R32)) (aI (@R42) (@R45)))) (aI (aI (aI (@DBranch) (@DStack)) (aI (@DView) (@DPlace))) (aI (aI (@DEntry) (@DAttr)) (aI (@DNode) (aI (@eq45) (@mixed)))))
set_option maxHeartbeats 2000000 in
theorem x4u (a0 : Stack) (a1 : View) (a2 : ByteArray) (a3 : Int) (r : Bool) (hm0 : x7f a0 a1 a2 a3 = some r) : Ok Tryz.prog 4 [xe a0, xl a1, str a2, int a3] (bool r) := by
 unfold x7f at hm0
 refine okG xkt ?_
 unfold xxn
 obtain ⟨v1, h2, hm0⟩ := bsE hm0
 simp only [xn, ↓EVd, isCall, sevalprocAttr]
 refine qc (xir _ _ _ h2) rfl ?_
 rcases itbE hm0 with ⟨e4, hm0⟩ | ⟨e4, hm0⟩
 · obtain ⟨v5, h6, hm0⟩ := bsE hm0
   simp only [e4, xn, ↓EVd, isCall, sevalprocAttr]
   refine qc (xpc  _ h6) rfl ?_
   obtain rfl := Option.some.inj hm0
   simp only [e4, xn, ↓EVd, isCall, sevalprocAttr]
   all_goals first | done | rfl
 rcases iteE hm0 with ⟨e8, hm0⟩ | ⟨e8, hm0⟩
 · obtain ⟨v9, h10, hm0⟩ := bsE hm0
   simp only [e4, e8, xn, ↓EVd, isCall, sevalprocAttr]
   refine qc (xpc  _ h10) rfl ?_
   obtain rfl := Option.some.inj hm0
   simp only [e4, e8, xn, ↓EVd, isCall, sevalprocAttr]
   all_goals first | done | rfl
 rcases iteE hm0 with ⟨e12, hm0⟩ | ⟨e12, hm0⟩
 · obtain ⟨v13, h14, hm0⟩ := bsE hm0
   simp only [e4, e8, e12, xn, ↓EVd, isCall, sevalprocAttr]
   refine qc (xpc  _ h14) rfl ?_
   obtain rfl := Option.some.inj hm0
   simp only [e4, e8, e12, xn, ↓EVd, isCall, sevalprocAttr]
   all_goals first | done | rfl
 obtain ⟨v15, h16, hm0⟩ := bsE hm0
 simp only [e4, e8, e12, xn, ↓EVd, isCall, sevalprocAttr]
 refine qc (xog _ _ _ _ h16) rfl ?_
 obtain ⟨v17, h18, hm0⟩ := bsE hm0
 simp only [e4, e8, e12, xn, ↓EVd, isCall, sevalprocAttr]
 refine qc (xys _ _ _ _ h18) rfl ?_
 rcases iteE hm0 with ⟨e20, hm0⟩ | ⟨e20, hm0⟩
 · obtain ⟨v21, h22, hm0⟩ := bsE hm0
   simp only [e4, e8, e12, e20, xn, ↓EVd, isCall, sevalprocAttr]
   refine qd (xvn _ _ _ h22) rfl ?_
   rcases itbE hm0 with ⟨e24, hm0⟩ | ⟨e24, hm0⟩
   · obtain rfl := Option.some.inj hm0
     simp only [e4, e8, e12, e20, e24, xn, ↓EVd, isCall, sevalprocAttr]
     all_goals first | done | rfl
   rcases itbE hm0 with ⟨e26, hm0⟩ | ⟨e26, hm0⟩
   · obtain ⟨v27, h28, hm0⟩ := bsE hm0
     simp only [e4, e8, e12, e20, e24, e26, xn, ↓EVd, isCall, sevalprocAttr]
     refine qd (x3k _ _ h28) rfl ?_
     obtain ⟨v29, h30, hm0⟩ := bsE hm0
     simp only [e4, e8, e12, e20, e24, e26, xn, ↓EVd, isCall, sevalprocAttr]
     refine qd (xn1 _ _ h30) rfl ?_
     obtain ⟨v31, h32, hm0⟩ := bsE hm0
     simp only [e4, e8, e12, e20, e24, e26, xn, ↓EVd, isCall, sevalprocAttr]
     refine qd (xvn _ _ _ h32) rfl ?_
     rcases itbE hm0 with ⟨e34, hm0⟩ | ⟨e34, hm0⟩
     · obtain rfl := Option.some.inj hm0
       simp only [e4, e8, e12, e20, e24, e26, e34, xn, ↓EVd, isCall, sevalprocAttr]
       all_goals first | done | rfl
     obtain ⟨v35, h36, hm0⟩ := bsE hm0
     simp only [e4, e8, e12, e20, e24, e26, e34, xn, ↓EVd, isCall, sevalprocAttr]
     refine qd (x13 _ _ _ _ _ h36) rfl ?_
     obtain ⟨v37, h38, hm0⟩ := bsE hm0
     simp only [e4, e8, e12, e20, e24, e26, e34, xn, ↓EVd, isCall, sevalprocAttr]
     refine qd (xns _ _ _ _ _ h38) rfl ?_
     obtain ⟨v39, h40, hm0⟩ := bsE hm0
     simp only [e4, e8, e12, e20, e24, e26, e34, xn, ↓EVd, isCall, sevalprocAttr]
     refine qd (xmi _ _ _ h40) rfl ?_
     rcases itbE hm0 with ⟨e42, hm0⟩ | ⟨e42, hm0⟩
     · have g53 := And.intro (And.intro (And.intro ((e4)) ((e8))) (And.intro ((e12)) ((e20)))) (And.intro (And.intro ((e24)) ((e26))) (And.intro ((e34)) ((e42))))
       obtain ⟨v43, h44, hm0⟩ := bsE hm0
       simp only [g53, xn, ↓EVd, isCall, sevalprocAttr]
       refine qd (xon _ _ _ h44) rfl ?_
       obtain ⟨v45, h46, hm0⟩ := bsE hm0
       simp only [g53, xn, ↓EVd, isCall, sevalprocAttr]
       refine qd (xez _ _ _ h46) rfl ?_
       obtain ⟨v47, h48, hm0⟩ := bsE hm0
       simp only [g53, xn, ↓EVd, isCall, sevalprocAttr]
       refine qd (x5f _ _ _ h48) rfl ?_
       rcases itbE hm0 with ⟨e50, hm0⟩ | ⟨e50, hm0⟩
       · obtain ⟨v51, h52, hm0⟩ := bsE hm0
         simp only [g53, e50, xn, ↓EVd, isCall, sevalprocAttr]
         refine qd (xpc  _ h52) rfl ?_
         obtain rfl := Option.some.inj hm0
         simp only [g53, e50, xn, ↓EVd, isCall, sevalprocAttr]
         all_goals first | done | rfl
       obtain rfl := Option.some.inj hm0
       simp only [g53, e50, xn, ↓EVd, isCall, sevalprocAttr]
       all_goals first | done | rfl
     obtain rfl := Option.some.inj hm0
     simp only [e4, e8, e12, e20, e24, e26, e34, e42, xn, ↓EVd, isCall, sevalprocAttr]
     all_goals first | done | rfl
   obtain rfl := Option.some.inj hm0
   simp only [e4, e8, e12, e20, e24, e26, xn, ↓EVd, isCall, sevalprocAttr]
   all_goals first | done | rfl
 obtain rfl := Option.some.inj hm0
 simp only [e4, e8, e12, e20, xn, ↓EVd, isCall, sevalprocAttr]
 all_goals first | done | rfl
def x3e (a0 : Stack) (v11 : View) (v13 : List ByteArray) : Int → Option (St (Int) ((Unit) ⊕ (Bool)))
 | v16 => if v16 < (v13.length : Int) then (ix v13 v16).bind fun v20 => (xsd a0 v11 v20).bind fun v23 => if v23.1 = 0 then some (.out (.inr false))
 else some (.nx (wr (v16 + 1)))
 else some (.out (.inl ()))
def x9f (a0 : Stack) (a1 : ByteArray) : Option (Bool) := (xxe a0 24).bind fun v1 => if (!v1) = true then (xcc ).bind fun v5 => some v5
 else if 40 < (a1.size : Int) then (xcc ).bind fun v9 => some v9
 else (x6e a0).bind fun v11 => (xje a0 v11).bind fun v13 => (iter (x3e a0 v11 v13) big 0).bind fun o => (match o with
 | (.inl _) => (xsd a0 v11 a1).bind fun v27 => if v27.1 = 0 then (xrb v13 a1).bind fun v31 => if v31 = true then some false
 else (xze a0 v11 a1).bind fun v35 => if v35.2 = true then (xcc ).bind fun v39 => some v39
 else (xfd a0 v11.lower a1).bind fun v41 => if v27.1 = v41.1 then (xcc ).bind fun v45 => some v45
 else some false
 else (xrb v13 a1).bind fun v47 => if v47 = true then (xze a0 v11 a1).bind fun v51 => if v51.2 = true then (xcc ).bind fun v55 => some v55
 else (xfd a0 v11.lower a1).bind fun v57 => if v27.1 = v57.1 then (xcc ).bind fun v61 => some v61
 else some false
 else some false
 | (.inr r) => some r)
def xj := aI (aI (aI (aI (@EV) (@R3)) (aI (@R4) (@R9))) (aI (aI (@R29) (@R30)) (aI (@R32) (@R42)))) (aI (aI (aI (@R45) (@R55)) (aI (@DBranch) (@DStack))) (aI (aI (@DView) (@DPlace)) (aI (@DEntry) (aI (@DAttr) (@DNode)))))
set_option maxHeartbeats 2000000 in
theorem xiu (a0 : Stack) (a1 : ByteArray) (r : Bool) (hm0 : x9f a0 a1 = some r) : Ok Tryz.prog 5 [xe a0, str a1] (bool r) := by
 unfold x9f at hm0
 refine okG xsu ?_
 unfold xrn
 obtain ⟨v1, h2, hm0⟩ := bsE hm0
 simp only [xj, ↓EVd, isCall, sevalprocAttr]
 refine qc (xir _ _ _ h2) rfl ?_
 rcases itbE hm0 with ⟨e4, hm0⟩ | ⟨e4, hm0⟩
 · obtain ⟨v5, h6, hm0⟩ := bsE hm0
   simp only [e4, xj, ↓EVd, isCall, sevalprocAttr]
   refine qc (xpc  _ h6) rfl ?_
   obtain rfl := Option.some.inj hm0
   simp only [e4, xj, ↓EVd, isCall, sevalprocAttr]
   all_goals first | done | rfl
 rcases iteE hm0 with ⟨e8, hm0⟩ | ⟨e8, hm0⟩
 · obtain ⟨v9, h10, hm0⟩ := bsE hm0
   simp only [e4, e8, xj, ↓EVd, isCall, sevalprocAttr]
   refine qc (xpc  _ h10) rfl ?_
   obtain rfl := Option.some.inj hm0
   simp only [e4, e8, xj, ↓EVd, isCall, sevalprocAttr]
   all_goals first | done | rfl
 obtain ⟨v11, h12, hm0⟩ := bsE hm0
 simp only [e4, e8, xj, ↓EVd, isCall, sevalprocAttr]
 refine qc (x3k _ _ h12) rfl ?_
 obtain ⟨v13, h14, hm0⟩ := bsE hm0
 simp only [e4, e8, xj, ↓EVd, isCall, sevalprocAttr]
 refine qc (xon _ _ _ h14) rfl ?_
 obtain ⟨o0, ho0, hm0⟩ := bsE hm0
 simp only [e4, e8, xj, ↓EVd, isCall, sevalprocAttr]
 refine cwp_cx 0 (fun s => (s.T 1 = str a1 ∧ s.T 2 = .loc 0 6 0 0 ∧ s.T 5 = .loc 12 2 0 0 ∧ s.T 6 = .sl 1 (v13.map str) ∧ s.H 0 = some (.row 29 6 [xe a0]) ∧ s.H 12 = some (.row 32 2 [xl v11]) ∧ Lq 0 s.nx ∧ Lq 12 s.nx) ∧ (.inl ()) = o0) ?_ fun J0_0 hJ0_0 => ?_
 · rintro T0 H0 x17 ⟨kk0_0, rfl⟩
   dsimp only [Lq, Nq] at kk0_0
   try dsimp only at hm0
   obtain ⟨v27, h28, hm0⟩ := bsE hm0
   simp only [kk0_0, e4, e8, xj, ↓EVd, isCall, sevalprocAttr]
   refine qc (xog _ _ _ _ h28) rfl ?_
   rcases iteE hm0 with ⟨e30, hm0⟩ | ⟨e30, hm0⟩
   · obtain ⟨v31, h32, hm0⟩ := bsE hm0
     simp only [kk0_0, e4, e8, e30, xj, ↓EVd, isCall, sevalprocAttr]
     refine qc (xgf _ _ _ h32) rfl ?_
     rcases itbE hm0 with ⟨e34, hm0⟩ | ⟨e34, hm0⟩
     · obtain rfl := Option.some.inj hm0
       simp only [kk0_0, e4, e8, e30, e34, xj, ↓EVd, isCall, sevalprocAttr]
       all_goals first | done | rfl
     obtain ⟨v35, h36, hm0⟩ := bsE hm0
     simp only [kk0_0, e4, e8, e30, e34, xj, ↓EVd, isCall, sevalprocAttr]
     refine qc (xym _ _ _ _ h36) rfl ?_
     rcases itbE hm0 with ⟨e38, hm0⟩ | ⟨e38, hm0⟩
     · obtain ⟨v39, h40, hm0⟩ := bsE hm0
       simp only [kk0_0, e4, e8, e30, e34, e38, xj, ↓EVd, isCall, sevalprocAttr]
       refine qc (xpc  _ h40) rfl ?_
       obtain rfl := Option.some.inj hm0
       simp only [kk0_0, e4, e8, e30, e34, e38, xj, ↓EVd, isCall, sevalprocAttr]
       all_goals first | done | rfl
     obtain ⟨v41, h42, hm0⟩ := bsE hm0
     simp only [kk0_0, e4, e8, e30, e34, e38, xj, ↓EVd, isCall, sevalprocAttr]
     refine qc (xtf _ _ _ _ h42) rfl ?_
     rcases iteE hm0 with ⟨e44, hm0⟩ | ⟨e44, hm0⟩
     · obtain ⟨v45, h46, hm0⟩ := bsE hm0
       simp only [kk0_0, e4, e8, e30, e34, e38, e44, xj, ↓EVd, isCall, sevalprocAttr]
       refine qc (xpc  _ h46) rfl ?_
       obtain rfl := Option.some.inj hm0
       simp only [kk0_0, e4, e8, e30, e34, e38, e44, xj, ↓EVd, isCall, sevalprocAttr]
       all_goals first | done | rfl
     obtain rfl := Option.some.inj hm0
     simp only [kk0_0, e4, e8, e30, e34, e38, e44, xj, ↓EVd, isCall, sevalprocAttr]
     all_goals first | done | rfl
   obtain ⟨v47, h48, hm0⟩ := bsE hm0
   simp only [kk0_0, e4, e8, e30, xj, ↓EVd, isCall, sevalprocAttr]
   refine qc (xgf _ _ _ h48) rfl ?_
   rcases itbE hm0 with ⟨e50, hm0⟩ | ⟨e50, hm0⟩
   · obtain ⟨v51, h52, hm0⟩ := bsE hm0
     simp only [kk0_0, e4, e8, e30, e50, xj, ↓EVd, isCall, sevalprocAttr]
     refine qc (xym _ _ _ _ h52) rfl ?_
     rcases itbE hm0 with ⟨e54, hm0⟩ | ⟨e54, hm0⟩
     · obtain ⟨v55, h56, hm0⟩ := bsE hm0
       simp only [kk0_0, e4, e8, e30, e50, e54, xj, ↓EVd, isCall, sevalprocAttr]
       refine qc (xpc  _ h56) rfl ?_
       obtain rfl := Option.some.inj hm0
       simp only [kk0_0, e4, e8, e30, e50, e54, xj, ↓EVd, isCall, sevalprocAttr]
       all_goals first | done | rfl
     obtain ⟨v57, h58, hm0⟩ := bsE hm0
     simp only [kk0_0, e4, e8, e30, e50, e54, xj, ↓EVd, isCall, sevalprocAttr]
     refine qc (xtf _ _ _ _ h58) rfl ?_
     rcases iteE hm0 with ⟨e60, hm0⟩ | ⟨e60, hm0⟩
     · obtain ⟨v61, h62, hm0⟩ := bsE hm0
       simp only [kk0_0, e4, e8, e30, e50, e54, e60, xj, ↓EVd, isCall, sevalprocAttr]
       refine qc (xpc  _ h62) rfl ?_
       obtain rfl := Option.some.inj hm0
       simp only [kk0_0, e4, e8, e30, e50, e54, e60, xj, ↓EVd, isCall, sevalprocAttr]
       all_goals first | done | rfl
     obtain rfl := Option.some.inj hm0
     simp only [kk0_0, e4, e8, e30, e50, e54, e60, xj, ↓EVd, isCall, sevalprocAttr]
     all_goals first | done | rfl
   obtain rfl := Option.some.inj hm0
   simp only [kk0_0, e4, e8, e30, e50, xj, ↓EVd, isCall, sevalprocAttr]
   all_goals first | done | rfl
 refine cwp_lp ho0 (fun v16 s => s.T 1 = str a1 ∧ s.T 2 = .loc 0 6 0 0 ∧ s.T 5 = .loc 12 2 0 0 ∧ s.T 6 = .sl 1 (v13.map str) ∧ s.T 33 = .sl 1 (v13.map str) ∧ s.T 34 = int (v13.length : Int) ∧ s.T 35 = int v16 ∧ s.H 0 = some (.row 29 6 [xe a0]) ∧ s.H 12 = some (.row 32 2 [xl v11]) ∧ Lq 0 s.nx ∧ Lq 12 s.nx) ?_ ?_
 · refine TI.here ⟨?_, ?_, ?_, ?_, ?_, ?_, ?_, ?_, ?_, ?_, ?_⟩
   all_goals try simp only [e4, e8, xj, ↓EVd, isCall, sevalprocAttr]
   all_goals first | omega | exact lq (by omega) | exact nq (by omega) | rfl | (congr 1; omega)
 rintro I0 v16 T0 H0 x15 st0 kk0 hm1 hI0 hO0
 dsimp only [Lq, Nq] at kk0
 simp only [x3e] at hm1
 rcases iteE hm1 with ⟨e19, hm1⟩ | ⟨e19, hm1⟩
 · obtain ⟨v20, e22, hm1⟩ := ixE str hm1
   obtain ⟨v23, h24, hm1⟩ := bsE hm1
   simp only [kk0, e4, e8, e19, e22, xj, ↓EVd, isCall, sevalprocAttr]
   refine qc (xog _ _ _ _ h24) rfl ?_
   rcases iteE hm1 with ⟨e26, hm1⟩ | ⟨e26, hm1⟩
   · obtain rfl := Option.some.inj hm1
     obtain rfl := hO0 _ rfl
     try dsimp only at hm0
     obtain rfl := Option.some.inj hm0
     simp only [kk0, e4, e8, e19, e22, e26, xj, ↓EVd, isCall, sevalprocAttr]
     all_goals first | done | rfl
   obtain rfl := Option.some.inj hm1
   simp only [kk0, e4, e8, e19, e22, e26, xj, ↓EVd, isCall, sevalprocAttr]
   refine TI.here (hI0 _ rfl _ ⟨?_, ?_, ?_, ?_, ?_, ?_, ?_, ?_, ?_, ?_, ?_⟩)
   all_goals try simp only [kk0, e4, e8, e19, e22, e26, xj, ↓EVd, isCall, sevalprocAttr]
   all_goals first | omega | exact lq (by omega) | exact nq (by omega) | rfl | (congr 1; omega)
 obtain rfl := Option.some.inj hm1
 simp only [kk0, e4, e8, e19, xj, ↓EVd, isCall, sevalprocAttr]
 refine TI.here (hJ0_0 _ ⟨⟨?_, ?_, ?_, ?_, ?_, ?_, ?_, ?_⟩, hO0 _ rfl⟩)
 all_goals try simp only [kk0, e4, e8, e19, xj, ↓EVd, isCall, sevalprocAttr]
 all_goals first | omega | exact lq (by omega) | exact nq (by omega) | rfl | (congr 1; omega)
end Go.Proofs.YtapdjibjnfeipaaGreatDoor.AL

/- Plain laws of chapter 17: the laws. -/
set_option linter.all false
namespace Go.Proofs.YtapdjibjnfeipaaGreatDoor.AL
open Go Go.Proofs
theorem awake17 : xcc = some true := by kernel_rfl
theorem xo7 (r : Int × List Place) : (lowV r).1 = r.1 := by
  unfold lowV
  split
  · rename_i h; exact h.symm
  · split <;> rfl
theorem xa1 (s : Stack) (v : View) (nm : ByteArray) (ino : Int) : x7f s v nm ino = some true := by
  unfold x7f
  obtain ⟨r, h1, h2⟩ := x2z s
  rw [h1]
  simp only [Option.bind_some]
  cases r with
  | false => rw [if_pos (by simp), awake17]; rfl
  | true =>
    rw [if_neg (by simp)]
    have h := (h2 rfl).sv
    by_cases hl : 8 < (v.lower.length : Int)
    · rw [if_pos hl, awake17]; rfl
    rw [if_neg hl]
    by_cases hn : 40 < (nm.size : Int)
    · rw [if_pos hn, awake17]; rfl
    rw [if_neg hn, xlv h (by omega), xa3 h (by omega)]
    simp only [Option.bind_some, if_true]
    have hsl := x3ab h (v := v) (m := 8) (by omega) (by omega) nm
    have hrl := xit h
    have hnl := xvx h (v := v) (m := 8) (by omega)
    have hpl := xnt h (v := v) (m := 8) (by omega) (by omega) (nodeP s.upper ino) nm
    rw [x5z (by omega)]
    simp only [Option.bind_some, Bool.not_true, Bool.false_eq_true, if_false, decide_true, if_true]
    rw [xx1 h, x49 h]
    simp only [Option.bind_some]
    rw [x5z (by omega)]
    simp only [Option.bind_some, Bool.not_true, Bool.false_eq_true, if_false]
    rw [xebb h (by omega), xk2 h (by omega)]
    simp only [Option.bind_some]
    rw [x04 (by omega)]
    simp only [Option.bind_some, decide_true, if_true]
    rw [xh0 h (by omega), xc4 h (by omega)]
    simp only [Option.bind_some]
    rw [xa8 (by omega), awake17]
    simp
theorem xu0 (s : Stack) (nm : ByteArray) : x9f s nm = some true := by
  unfold x9f
  obtain ⟨r, h1, h2⟩ := x2z s
  rw [h1]
  simp only [Option.bind_some]
  cases r with
  | false => rw [if_pos (by simp), awake17]; rfl
  | true =>
    rw [if_neg (by simp)]
    have h := (h2 rfl).sv
    by_cases hn : 40 < (nm.size : Int)
    · rw [if_pos hn, awake17]; rfl
    have hrl := xit h
    have hnl := xvx h (v := rootV s) (m := 3) hrl
    rw [if_neg hn, xx1 h]
    simp only [Option.bind_some]
    rw [xh0 h (by omega)]
    simp only [Option.bind_some]
    obtain ⟨r, g1, g2⟩ := x4e (B := x3e s (rootV s) (namesV s (rootV s))) (R := fun r => r = .inl ()) (fun i t => t = (i : Int) ∧ i ≤ (namesV s (rootV s)).length) (namesV s (rootV s)).length (by
      rintro i t ⟨rfl, hi⟩
      refine ⟨hi, ?_⟩
      simp only [x3e]
      by_cases hlt : i < (namesV s (rootV s)).length
      · rw [if_pos (by omega), ix_at hlt]
        simp only [Option.bind_some]
        rw [xlv h (by omega)]
        simp only [Option.bind_some]
        rw [if_neg ((xjx _ _).1 (List.getElem_mem hlt)), wr_suc (by omega)]
        exact .inl ⟨_, rfl, rfl, by omega⟩
      · rw [if_neg (by omega)]
        exact .inr ⟨_, rfl, rfl⟩) big 0 0 ⟨rfl, by omega⟩ (by rw [big_eq]; omega)
    subst g2
    rw [g1]
    simp only [Option.bind_some]
    rw [xlv h (by omega), x6v h, xtq h.low (by omega), awake17]
    obtain ⟨b, c1, c2⟩ := xo3 (l := namesV s (rootV s)) nm (by omega)
    rw [c1]
    simp only [Option.bind_some]
    rw [xjx] at c2
    have hfin : (if (match entV s (rootV s) nm with | some e => (e, true) | none => (⟨0, 0, xo⟩, false)).2 = true then some true else if (stpV s (rootV s) nm).1 = (findQ s.lowers (rootV s).lower nm).1 then some true else some false) = some true := by
      unfold stpV
      cases entV s (rootV s) nm with
      | some e => rfl
      | none =>
        simp only [Bool.false_eq_true, if_false]
        rw [xo7, if_pos rfl]
    by_cases hk : (stpV s (rootV s) nm).1 = 0
    · have hb : ¬ b = true := fun hb => (c2.1 hb) hk
      rw [if_pos hk, if_neg hb]
      exact hfin
    · have hb : b = true := c2.2 hk
      rw [if_neg hk, if_pos hb]
      exact hfin
theorem x4db (s : Stack) (v : View) (nm : ByteArray) (ino : Int) : Ok Tryz.prog 4 [xe s, xl v, str nm, int ino] (bool true) := x4u s v nm ino true (xa1 s v nm ino)
theorem x3db (s : Stack) (nm : ByteArray) : Ok Tryz.prog 5 [xe s, str nm] (bool true) := xiu s nm true (xu0 s nm)
end Go.Proofs.YtapdjibjnfeipaaGreatDoor.AL

/- The root, and what any name shows in any directory of any stack, and all names there, and the lower part of any upper directory, are what the document says: for every stack, view, name and number. -/
namespace Go.Proofs.YtapdjibjnfeipaaGreatDoor
theorem viewSteps_holds : Rows.ViewStepsCardSaid := xnv (xcu fun s v nm ino _ _ _ _ => AL.x4db s v nm ino)
#print axioms viewSteps_holds
end Go.Proofs.YtapdjibjnfeipaaGreatDoor

