/- What any node of any stack should say of copies, and which say otherwise, is what the document says: part 44 of 45. -/
import Derived.Test.YtlgikchfddhocaaA43
set_option linter.all false
/- Models of functions, and that the functions are as their models: written by gen.py. -/
set_option linter.all false
set_option maxRecDepth 100000
namespace Go.Proofs.Ytlgikchfddhocaa.AL
open Go Go.Proofs
def m_law16_awake  : Option (Bool) := (m_plain_Base ).bind fun v1 => (m_lower_Roots v1).bind fun v3 => (m_lower_Find v1 v3 (ByteArray.mk #[97])).bind fun v5 => (m_lower_Look v1 v3 ([(ByteArray.mk #[97])] : List ByteArray)).bind fun v7 => (m_slices_Equal_api_Place_api_Place v3 ([(⟨1, 1⟩ : Place)] : List Place)).bind fun v10 => if v10 = true then if v5.1 = 2 then (m_slices_Equal_api_Place_api_Place v5.2 ([(⟨1, 2⟩ : Place)] : List Place)).bind fun v17 => if v17 = true then if (!v7.2) = true then (m_lower_Names v1 v3).bind fun v23 => (m_slices_Equal_string_string v23 ([(ByteArray.mk #[97])] : List ByteArray)).bind fun v25 => some v25
 else some false
 else some false
 else some false
 else some false
def Y_law16_awake := And.intro (And.intro (And.intro ((@EV)) (And.intro ((@R3)) ((@R9)))) (And.intro (And.intro ((@R30)) ((@R41))) (And.intro ((@R42)) ((@R48))))) (And.intro (And.intro (And.intro ((@DGeo)) ((@DBranch))) (And.intro ((@DStack)) ((@DPlace)))) (And.intro (And.intro ((@DOrigin)) ((@DAttr))) (And.intro ((@DNode)) ((@DEntry)))))
set_option maxHeartbeats 2000000 in
theorem ok_law16_awake  (r : Bool) (hm0 : m_law16_awake  = some r) : Ok Try.prog 21 [] (bool r) := by
 unfold m_law16_awake at hm0
 refine okG fc_law16_awake ?_
 unfold c_law16_awake
 obtain ⟨v1, h2, hm0⟩ := bsE hm0
 simp only [Y_law16_awake, ↓EVd, isCall, sevalprocAttr]
 refine qc (ok_plain_Base  _ h2) rfl ?_
 obtain ⟨v3, h4, hm0⟩ := bsE hm0
 simp only [Y_law16_awake, ↓EVd, isCall, sevalprocAttr]
 refine qc (ok_lower_Roots _ _ h4) rfl ?_
 obtain ⟨v5, h6, hm0⟩ := bsE hm0
 simp only [Y_law16_awake, ↓EVd, isCall, sevalprocAttr]
 refine qc (ok_lower_Find _ _ _ _ h6) rfl ?_
 obtain ⟨v7, h8, hm0⟩ := bsE hm0
 simp only [Y_law16_awake, ↓EVd, isCall, sevalprocAttr]
 refine qcq (ok_lower_Look _ _ _ _ h8) rfl (by simp only [FQ, CLO, Y_law16_awake, ↓EVd, isCall, sevalprocAttr]; first | done | rfl) ?_
 have e9 : (.agg [int 1, int 1] : AV) = encPlace (⟨1, 1⟩ : Place) := _root_.id rfl
 obtain ⟨v10, h11, hm0⟩ := bsE hm0
 simp only [e9, Y_law16_awake, ↓EVd, isCall, sevalprocAttr]
 refine qcb (ok_slices_Equal_api_Place_api_Place _ _ _ h11) rfl (by simp only [e9, FZ, CLO, Y_law16_awake, ↓EVd, isCall, sevalprocAttr]) ?_
 rcases itbE hm0 with ⟨e13, hm0⟩ | ⟨e13, hm0⟩
 · rcases iteE hm0 with ⟨e15, hm0⟩ | ⟨e15, hm0⟩
   · have e16 : (.agg [int 1, int 2] : AV) = encPlace (⟨1, 2⟩ : Place) := _root_.id rfl
     obtain ⟨v17, h18, hm0⟩ := bsE hm0
     simp only [e9, e13, e15, e16, Y_law16_awake, ↓EVd, isCall, sevalprocAttr]
     refine qcb (ok_slices_Equal_api_Place_api_Place _ _ _ h18) rfl (by simp only [e9, e13, e15, e16, FZ, CLO, Y_law16_awake, ↓EVd, isCall, sevalprocAttr]) ?_
     rcases itbE hm0 with ⟨e20, hm0⟩ | ⟨e20, hm0⟩
     · rcases itbE hm0 with ⟨e22, hm0⟩ | ⟨e22, hm0⟩
       · obtain ⟨v23, h24, hm0⟩ := bsE hm0
         simp only [e9, e13, e15, e16, e20, e22, Y_law16_awake, ↓EVd, isCall, sevalprocAttr]
         refine qc (ok_lower_Names _ _ _ h24) rfl ?_
         obtain ⟨v25, h26, hm0⟩ := bsE hm0
         simp only [e9, e13, e15, e16, e20, e22, Y_law16_awake, ↓EVd, isCall, sevalprocAttr]
         refine qcb (ok_slices_Equal_string_string _ _ _ h26) rfl (by simp only [e9, e13, e15, e16, e20, e22, FZ, CLO, Y_law16_awake, ↓EVd, isCall, sevalprocAttr]) ?_
         obtain rfl := Option.some.inj hm0
         simp only [e9, e13, e15, e16, e20, e22, Y_law16_awake, ↓EVd, isCall, sevalprocAttr]
         all_goals first | done | rfl
       obtain rfl := Option.some.inj hm0
       simp only [e9, e13, e15, e16, e20, e22, Y_law16_awake, ↓EVd, isCall, sevalprocAttr]
       all_goals first | done | rfl
     obtain rfl := Option.some.inj hm0
     simp only [e9, e13, e15, e16, e20, Y_law16_awake, ↓EVd, isCall, sevalprocAttr]
     all_goals first | done | rfl
   obtain rfl := Option.some.inj hm0
   simp only [e9, e13, e15, Y_law16_awake, ↓EVd, isCall, sevalprocAttr]
   all_goals first | done | rfl
 obtain rfl := Option.some.inj hm0
 simp only [e9, e13, Y_law16_awake, ↓EVd, isCall, sevalprocAttr]
 all_goals first | done | rfl
def m_law16_LowerTells_b0 (a0 : Stack) (a1 : List Place) (a2 : List ByteArray) : Int → Option (St (Int) ((Unit) ⊕ (Bool)))
 | v16 => if v16 < (a2.length : Int) then (ix a2 v16).bind fun v20 => (m_lower_Find a0 a1 v20).bind fun v23 => (m_ref16_Find a0 a1 v20).bind fun v25 => if v23.1 = v25.1 then (m_slices_Equal_api_Place_api_Place v23.2 v25.2).bind fun v29 => if (!v29) = true then some (.out (.inr false))
 else some (.nx (wr (v16 + 1)))
 else some (.out (.inr false))
 else some (.out (.inl ()))
def m_law16_LowerTells (a0 : Stack) (a1 : List Place) (a2 : List ByteArray) : Option (Bool) := (m_plain_Stack a0 24).bind fun v1 => if (!v1) = true then (m_law16_awake ).bind fun v5 => some v5
 else if 8 < (a1.length : Int) then (m_law16_awake ).bind fun v9 => some v9
 else if 8 < (a2.length : Int) then (m_law16_awake ).bind fun v13 => some v13
 else (iter (m_law16_LowerTells_b0 a0 a1 a2) big 0).bind fun o => (match o with
 | (.inl _) => (m_lower_Look a0 a1 a2).bind fun v33 => (m_ref16_Look a0 a1 a2).bind fun v35 => (m_slices_Equal_api_Place_api_Place v33.1 v35.1).bind fun v37 => if v37 = true then if v33.2 = true then if v35.2 = true then (m_lower_Roots a0).bind fun v45 => (m_ref16_Roots a0).bind fun v47 => (m_slices_Equal_api_Place_api_Place v45 v47).bind fun v49 => if v49 = true then (m_lower_Names a0 a1).bind fun v53 => (m_ref16_Names a0 a1).bind fun v55 => (m_slices_Equal_string_string v53 v55).bind fun v57 => if v57 = true then (m_law16_awake ).bind fun v61 => some v61
 else some false
 else some false
 else some false
 else if v35.2 = true then some false
 else (m_lower_Roots a0).bind fun v65 => (m_ref16_Roots a0).bind fun v67 => (m_slices_Equal_api_Place_api_Place v65 v67).bind fun v69 => if v69 = true then (m_lower_Names a0 a1).bind fun v73 => (m_ref16_Names a0 a1).bind fun v75 => (m_slices_Equal_string_string v73 v75).bind fun v77 => if v77 = true then (m_law16_awake ).bind fun v81 => some v81
 else some false
 else some false
 else some false
 | (.inr r) => some r)
def Y_law16_LowerTells := And.intro (And.intro (And.intro (And.intro ((@EV)) ((@R3))) (And.intro ((@R4)) ((@R9)))) (And.intro (And.intro ((@R30)) ((@R41))) (And.intro ((@R42)) ((@R48))))) (And.intro (And.intro (And.intro ((@DGeo)) ((@DBranch))) (And.intro ((@DStack)) ((@DPlace)))) (And.intro (And.intro ((@DOrigin)) ((@DAttr))) (And.intro ((@DNode)) (And.intro ((@DEntry)) ((@mixed))))))
set_option maxHeartbeats 2000000 in
theorem ok_law16_LowerTells (a0 : Stack) (a1 : List Place) (a2 : List ByteArray) (r : Bool) (hm0 : m_law16_LowerTells a0 a1 a2 = some r) : Ok Try.prog 6 [encStack a0, .sl 2 (a1.map encPlace), .sl 1 (a2.map str)] (bool r) := by
 unfold m_law16_LowerTells at hm0
 refine okG fc_law16_LowerTells ?_
 unfold c_law16_LowerTells
 obtain ⟨v1, h2, hm0⟩ := bsE hm0
 simp only [Y_law16_LowerTells, ↓EVd, isCall, sevalprocAttr]
 refine qc (ok_plain_Stack _ _ _ h2) rfl ?_
 rcases itbE hm0 with ⟨e4, hm0⟩ | ⟨e4, hm0⟩
 · obtain ⟨v5, h6, hm0⟩ := bsE hm0
   simp only [e4, Y_law16_LowerTells, ↓EVd, isCall, sevalprocAttr]
   refine qc (ok_law16_awake  _ h6) rfl ?_
   obtain rfl := Option.some.inj hm0
   simp only [e4, Y_law16_LowerTells, ↓EVd, isCall, sevalprocAttr]
   all_goals first | done | rfl
 rcases iteE hm0 with ⟨e8, hm0⟩ | ⟨e8, hm0⟩
 · obtain ⟨v9, h10, hm0⟩ := bsE hm0
   simp only [e4, e8, Y_law16_LowerTells, ↓EVd, isCall, sevalprocAttr]
   refine qc (ok_law16_awake  _ h10) rfl ?_
   obtain rfl := Option.some.inj hm0
   simp only [e4, e8, Y_law16_LowerTells, ↓EVd, isCall, sevalprocAttr]
   all_goals first | done | rfl
 rcases iteE hm0 with ⟨e12, hm0⟩ | ⟨e12, hm0⟩
 · obtain ⟨v13, h14, hm0⟩ := bsE hm0
   simp only [e4, e8, e12, Y_law16_LowerTells, ↓EVd, isCall, sevalprocAttr]
   refine qc (ok_law16_awake  _ h14) rfl ?_
   obtain rfl := Option.some.inj hm0
   simp only [e4, e8, e12, Y_law16_LowerTells, ↓EVd, isCall, sevalprocAttr]
   all_goals first | done | rfl
 obtain ⟨o0, ho0, hm0⟩ := bsE hm0
 simp only [e4, e8, e12, Y_law16_LowerTells, ↓EVd, isCall, sevalprocAttr]
 refine cwp_cx 0 (fun s => (s.T 1 = .sl 2 (a1.map encPlace) ∧ s.T 2 = .sl 1 (a2.map str) ∧ s.T 3 = .loc 0 6 0 0 ∧ s.H 0 = some (.row 41 6 [encStack a0]) ∧ Lq 0 s.nx) ∧ (.inl ()) = o0) ?_ fun J0_0 hJ0_0 => ?_
 · rintro T0 H0 x17 ⟨kk0_0, rfl⟩
   dsimp only [Lq, Nq] at kk0_0
   try dsimp only at hm0
   obtain ⟨v33, h34, hm0⟩ := bsE hm0
   simp only [kk0_0, e4, e8, e12, Y_law16_LowerTells, ↓EVd, isCall, sevalprocAttr]
   refine qc (ok_lower_Look _ _ _ _ h34) rfl ?_
   obtain ⟨v35, h36, hm0⟩ := bsE hm0
   simp only [kk0_0, e4, e8, e12, Y_law16_LowerTells, ↓EVd, isCall, sevalprocAttr]
   refine qc (ok_ref16_Look _ _ _ _ h36) rfl ?_
   obtain ⟨v37, h38, hm0⟩ := bsE hm0
   simp only [kk0_0, e4, e8, e12, Y_law16_LowerTells, ↓EVd, isCall, sevalprocAttr]
   refine qd (ok_slices_Equal_api_Place_api_Place _ _ _ h38) rfl ?_
   rcases itbE hm0 with ⟨e40, hm0⟩ | ⟨e40, hm0⟩
   · rcases itbE hm0 with ⟨e42, hm0⟩ | ⟨e42, hm0⟩
     · rcases itbE hm0 with ⟨e44, hm0⟩ | ⟨e44, hm0⟩
       · obtain ⟨v45, h46, hm0⟩ := bsE hm0
         simp only [kk0_0, e4, e8, e12, e40, e42, e44, Y_law16_LowerTells, ↓EVd, isCall, sevalprocAttr]
         refine qd (ok_lower_Roots _ _ h46) rfl ?_
         obtain ⟨v47, h48, hm0⟩ := bsE hm0
         simp only [kk0_0, e4, e8, e12, e40, e42, e44, Y_law16_LowerTells, ↓EVd, isCall, sevalprocAttr]
         refine qd (ok_ref16_Roots _ _ h48) rfl ?_
         obtain ⟨v49, h50, hm0⟩ := bsE hm0
         simp only [kk0_0, e4, e8, e12, e40, e42, e44, Y_law16_LowerTells, ↓EVd, isCall, sevalprocAttr]
         refine qd (ok_slices_Equal_api_Place_api_Place _ _ _ h50) rfl ?_
         rcases itbE hm0 with ⟨e52, hm0⟩ | ⟨e52, hm0⟩
         · obtain ⟨v53, h54, hm0⟩ := bsE hm0
           simp only [kk0_0, e4, e8, e12, e40, e42, e44, e52, Y_law16_LowerTells, ↓EVd, isCall, sevalprocAttr]
           refine qd (ok_lower_Names _ _ _ h54) rfl ?_
           obtain ⟨v55, h56, hm0⟩ := bsE hm0
           simp only [kk0_0, e4, e8, e12, e40, e42, e44, e52, Y_law16_LowerTells, ↓EVd, isCall, sevalprocAttr]
           refine qd (ok_ref16_Names _ _ _ h56) rfl ?_
           obtain ⟨v57, h58, hm0⟩ := bsE hm0
           simp only [kk0_0, e4, e8, e12, e40, e42, e44, e52, Y_law16_LowerTells, ↓EVd, isCall, sevalprocAttr]
           refine qd (ok_slices_Equal_string_string _ _ _ h58) rfl ?_
           rcases itbE hm0 with ⟨e60, hm0⟩ | ⟨e60, hm0⟩
           · have g83 := And.intro (And.intro (And.intro ((e4)) ((e8))) (And.intro ((e12)) ((e40)))) (And.intro (And.intro ((e42)) ((e44))) (And.intro ((e52)) ((e60))))
             obtain ⟨v61, h62, hm0⟩ := bsE hm0
             simp only [kk0_0, g83, Y_law16_LowerTells, ↓EVd, isCall, sevalprocAttr]
             refine qd (ok_law16_awake  _ h62) rfl ?_
             obtain rfl := Option.some.inj hm0
             simp only [kk0_0, g83, Y_law16_LowerTells, ↓EVd, isCall, sevalprocAttr]
             all_goals first | done | rfl
           obtain rfl := Option.some.inj hm0
           simp only [kk0_0, e4, e8, e12, e40, e42, e44, e52, e60, Y_law16_LowerTells, ↓EVd, isCall, sevalprocAttr]
           all_goals first | done | rfl
         obtain rfl := Option.some.inj hm0
         simp only [kk0_0, e4, e8, e12, e40, e42, e44, e52, Y_law16_LowerTells, ↓EVd, isCall, sevalprocAttr]
         all_goals first | done | rfl
       obtain rfl := Option.some.inj hm0
       simp only [kk0_0, e4, e8, e12, e40, e42, e44, Y_law16_LowerTells, ↓EVd, isCall, sevalprocAttr]
       all_goals first | done | rfl
     rcases itbE hm0 with ⟨e64, hm0⟩ | ⟨e64, hm0⟩
     · obtain rfl := Option.some.inj hm0
       simp only [kk0_0, e4, e8, e12, e40, e42, e64, Y_law16_LowerTells, ↓EVd, isCall, sevalprocAttr]
       all_goals first | done | rfl
     obtain ⟨v65, h66, hm0⟩ := bsE hm0
     simp only [kk0_0, e4, e8, e12, e40, e42, e64, Y_law16_LowerTells, ↓EVd, isCall, sevalprocAttr]
     refine qd (ok_lower_Roots _ _ h66) rfl ?_
     obtain ⟨v67, h68, hm0⟩ := bsE hm0
     simp only [kk0_0, e4, e8, e12, e40, e42, e64, Y_law16_LowerTells, ↓EVd, isCall, sevalprocAttr]
     refine qd (ok_ref16_Roots _ _ h68) rfl ?_
     obtain ⟨v69, h70, hm0⟩ := bsE hm0
     simp only [kk0_0, e4, e8, e12, e40, e42, e64, Y_law16_LowerTells, ↓EVd, isCall, sevalprocAttr]
     refine qd (ok_slices_Equal_api_Place_api_Place _ _ _ h70) rfl ?_
     rcases itbE hm0 with ⟨e72, hm0⟩ | ⟨e72, hm0⟩
     · obtain ⟨v73, h74, hm0⟩ := bsE hm0
       simp only [kk0_0, e4, e8, e12, e40, e42, e64, e72, Y_law16_LowerTells, ↓EVd, isCall, sevalprocAttr]
       refine qd (ok_lower_Names _ _ _ h74) rfl ?_
       obtain ⟨v75, h76, hm0⟩ := bsE hm0
       simp only [kk0_0, e4, e8, e12, e40, e42, e64, e72, Y_law16_LowerTells, ↓EVd, isCall, sevalprocAttr]
       refine qd (ok_ref16_Names _ _ _ h76) rfl ?_
       obtain ⟨v77, h78, hm0⟩ := bsE hm0
       simp only [kk0_0, e4, e8, e12, e40, e42, e64, e72, Y_law16_LowerTells, ↓EVd, isCall, sevalprocAttr]
       refine qd (ok_slices_Equal_string_string _ _ _ h78) rfl ?_
       rcases itbE hm0 with ⟨e80, hm0⟩ | ⟨e80, hm0⟩
       · have g84 := And.intro (And.intro (And.intro ((e4)) ((e8))) (And.intro ((e12)) ((e40)))) (And.intro (And.intro ((e42)) ((e64))) (And.intro ((e72)) ((e80))))
         obtain ⟨v81, h82, hm0⟩ := bsE hm0
         simp only [kk0_0, g84, Y_law16_LowerTells, ↓EVd, isCall, sevalprocAttr]
         refine qd (ok_law16_awake  _ h82) rfl ?_
         obtain rfl := Option.some.inj hm0
         simp only [kk0_0, g84, Y_law16_LowerTells, ↓EVd, isCall, sevalprocAttr]
         all_goals first | done | rfl
       obtain rfl := Option.some.inj hm0
       simp only [kk0_0, e4, e8, e12, e40, e42, e64, e72, e80, Y_law16_LowerTells, ↓EVd, isCall, sevalprocAttr]
       all_goals first | done | rfl
     obtain rfl := Option.some.inj hm0
     simp only [kk0_0, e4, e8, e12, e40, e42, e64, e72, Y_law16_LowerTells, ↓EVd, isCall, sevalprocAttr]
     all_goals first | done | rfl
   obtain rfl := Option.some.inj hm0
   simp only [kk0_0, e4, e8, e12, e40, Y_law16_LowerTells, ↓EVd, isCall, sevalprocAttr]
   all_goals first | done | rfl
 refine cwp_lp ho0 (fun v16 s => s.T 1 = .sl 2 (a1.map encPlace) ∧ s.T 2 = .sl 1 (a2.map str) ∧ s.T 3 = .loc 0 6 0 0 ∧ s.T 31 = .sl 1 (a2.map str) ∧ s.T 32 = int (a2.length : Int) ∧ s.T 33 = int v16 ∧ s.H 0 = some (.row 41 6 [encStack a0]) ∧ Lq 0 s.nx) ?_ ?_
 · refine TI.here ⟨?_, ?_, ?_, ?_, ?_, ?_, ?_, ?_⟩
   all_goals try simp only [e4, e8, e12, Y_law16_LowerTells, ↓EVd, isCall, sevalprocAttr]
   all_goals first | omega | exact lq (by omega) | exact nq (by omega) | rfl | (congr 1; omega)
 rintro I0 v16 T0 H0 x15 st0 kk0 hm1 hI0 hO0
 dsimp only [Lq, Nq] at kk0
 simp only [m_law16_LowerTells_b0] at hm1
 rcases iteE hm1 with ⟨e19, hm1⟩ | ⟨e19, hm1⟩
 · obtain ⟨v20, e22, hm1⟩ := ixE str hm1
   obtain ⟨v23, h24, hm1⟩ := bsE hm1
   simp only [kk0, e4, e8, e12, e19, e22, Y_law16_LowerTells, ↓EVd, isCall, sevalprocAttr]
   refine qc (ok_lower_Find _ _ _ _ h24) rfl ?_
   obtain ⟨v25, h26, hm1⟩ := bsE hm1
   simp only [kk0, e4, e8, e12, e19, e22, Y_law16_LowerTells, ↓EVd, isCall, sevalprocAttr]
   refine qc (ok_ref16_Find _ _ _ _ h26) rfl ?_
   rcases iteE hm1 with ⟨e28, hm1⟩ | ⟨e28, hm1⟩
   · obtain ⟨v29, h30, hm1⟩ := bsE hm1
     simp only [kk0, e4, e8, e12, e19, e22, e28, Y_law16_LowerTells, ↓EVd, isCall, sevalprocAttr]
     refine qc (ok_slices_Equal_api_Place_api_Place _ _ _ h30) rfl ?_
     rcases itbE hm1 with ⟨e32, hm1⟩ | ⟨e32, hm1⟩
     · obtain rfl := Option.some.inj hm1
       obtain rfl := hO0 _ rfl
       try dsimp only at hm0
       obtain rfl := Option.some.inj hm0
       simp only [kk0, e4, e8, e12, e19, e22, e28, e32, Y_law16_LowerTells, ↓EVd, isCall, sevalprocAttr]
       all_goals first | done | rfl
     obtain rfl := Option.some.inj hm1
     simp only [kk0, e4, e8, e12, e19, e22, e28, e32, Y_law16_LowerTells, ↓EVd, isCall, sevalprocAttr]
     refine TI.here (hI0 _ rfl _ ⟨?_, ?_, ?_, ?_, ?_, ?_, ?_, ?_⟩)
     all_goals try simp only [kk0, e4, e8, e12, e19, e22, e28, e32, Y_law16_LowerTells, ↓EVd, isCall, sevalprocAttr]
     all_goals first | omega | exact lq (by omega) | exact nq (by omega) | rfl | (congr 1; omega)
   obtain rfl := Option.some.inj hm1
   obtain rfl := hO0 _ rfl
   try dsimp only at hm0
   obtain rfl := Option.some.inj hm0
   simp only [kk0, e4, e8, e12, e19, e22, e28, Y_law16_LowerTells, ↓EVd, isCall, sevalprocAttr]
   all_goals first | done | rfl
 obtain rfl := Option.some.inj hm1
 simp only [kk0, e4, e8, e12, e19, Y_law16_LowerTells, ↓EVd, isCall, sevalprocAttr]
 refine TI.here (hJ0_0 _ ⟨⟨?_, ?_, ?_, ?_, ?_⟩, hO0 _ rfl⟩)
 all_goals try simp only [kk0, e4, e8, e12, e19, Y_law16_LowerTells, ↓EVd, isCall, sevalprocAttr]
 all_goals first | omega | exact lq (by omega) | exact nq (by omega) | rfl | (congr 1; omega)
def m_law16_LowerNames_b0 (a0 : Stack) (a1 : List Place) (v11 : List ByteArray) : Int → Option (St (Int) ((Unit) ⊕ (Bool)))
 | v14 => if v14 < (v11.length : Int) then (ix v11 v14).bind fun v18 => (m_lower_Find a0 a1 v18).bind fun v21 => if v21.1 = 0 then some (.out (.inr false))
 else if (v21.2.length : Int) = 0 then some (.out (.inr false))
 else some (.nx (wr (v14 + 1)))
 else some (.out (.inl ()))
def m_law16_LowerNames (a0 : Stack) (a1 : List Place) (a2 : ByteArray) : Option (Bool) := (m_plain_Stack a0 24).bind fun v1 => if (!v1) = true then (m_law16_awake ).bind fun v5 => some v5
 else if 8 < (a1.length : Int) then (m_law16_awake ).bind fun v9 => some v9
 else (m_lower_Names a0 a1).bind fun v11 => (iter (m_law16_LowerNames_b0 a0 a1 v11) big 0).bind fun o => (match o with
 | (.inl _) => (m_lower_Find a0 a1 a2).bind fun v27 => if v27.1 = 0 then (m_slices_Contains_string_string v11 a2).bind fun v31 => if v31 = true then some false
 else if 0 < (v27.2.length : Int) then some false
 else if v27.1 = 2 then if (v27.2.length : Int) = 1 then (m_slices_IsSorted_string_string v11).bind fun v41 => if v41 = true then (m_law16_awake ).bind fun v45 => some v45
 else some false
 else some false
 else (m_slices_IsSorted_string_string v11).bind fun v47 => if v47 = true then (m_law16_awake ).bind fun v51 => some v51
 else some false
 else (m_slices_Contains_string_string v11 a2).bind fun v53 => if v53 = true then if 0 < (v27.2.length : Int) then if v27.1 = 2 then if (v27.2.length : Int) = 1 then (m_slices_IsSorted_string_string v11).bind fun v63 => if v63 = true then (m_law16_awake ).bind fun v67 => some v67
 else some false
 else some false
 else (m_slices_IsSorted_string_string v11).bind fun v69 => if v69 = true then (m_law16_awake ).bind fun v73 => some v73
 else some false
 else some false
 else some false
 | (.inr r) => some r)
def Y_law16_LowerNames := And.intro (And.intro (And.intro (And.intro ((@EV)) ((@R3))) (And.intro ((@R4)) ((@R9)))) (And.intro (And.intro ((@R30)) ((@R41))) (And.intro ((@R42)) ((@R48))))) (And.intro (And.intro (And.intro ((@DGeo)) ((@DBranch))) (And.intro ((@DStack)) ((@DPlace)))) (And.intro (And.intro ((@DOrigin)) ((@DAttr))) (And.intro ((@DNode)) ((@DEntry)))))
set_option maxHeartbeats 2000000 in
theorem ok_law16_LowerNames (a0 : Stack) (a1 : List Place) (a2 : ByteArray) (r : Bool) (hm0 : m_law16_LowerNames a0 a1 a2 = some r) : Ok Try.prog 7 [encStack a0, .sl 2 (a1.map encPlace), str a2] (bool r) := by
 unfold m_law16_LowerNames at hm0
 refine okG fc_law16_LowerNames ?_
 unfold c_law16_LowerNames
 obtain ⟨v1, h2, hm0⟩ := bsE hm0
 simp only [Y_law16_LowerNames, ↓EVd, isCall, sevalprocAttr]
 refine qc (ok_plain_Stack _ _ _ h2) rfl ?_
 rcases itbE hm0 with ⟨e4, hm0⟩ | ⟨e4, hm0⟩
 · obtain ⟨v5, h6, hm0⟩ := bsE hm0
   simp only [e4, Y_law16_LowerNames, ↓EVd, isCall, sevalprocAttr]
   refine qc (ok_law16_awake  _ h6) rfl ?_
   obtain rfl := Option.some.inj hm0
   simp only [e4, Y_law16_LowerNames, ↓EVd, isCall, sevalprocAttr]
   all_goals first | done | rfl
 rcases iteE hm0 with ⟨e8, hm0⟩ | ⟨e8, hm0⟩
 · obtain ⟨v9, h10, hm0⟩ := bsE hm0
   simp only [e4, e8, Y_law16_LowerNames, ↓EVd, isCall, sevalprocAttr]
   refine qc (ok_law16_awake  _ h10) rfl ?_
   obtain rfl := Option.some.inj hm0
   simp only [e4, e8, Y_law16_LowerNames, ↓EVd, isCall, sevalprocAttr]
   all_goals first | done | rfl
 obtain ⟨v11, h12, hm0⟩ := bsE hm0
 simp only [e4, e8, Y_law16_LowerNames, ↓EVd, isCall, sevalprocAttr]
 refine qc (ok_lower_Names _ _ _ h12) rfl ?_
 obtain ⟨o0, ho0, hm0⟩ := bsE hm0
 simp only [e4, e8, Y_law16_LowerNames, ↓EVd, isCall, sevalprocAttr]
 refine cwp_cx 0 (fun s => (s.T 1 = .sl 2 (a1.map encPlace) ∧ s.T 2 = str a2 ∧ s.T 3 = .loc 0 6 0 0 ∧ s.T 7 = .sl 1 (v11.map str) ∧ s.H 0 = some (.row 41 6 [encStack a0]) ∧ Lq 0 s.nx) ∧ (.inl ()) = o0) ?_ fun J0_0 hJ0_0 => ?_
 · rintro T0 H0 x15 ⟨kk0_0, rfl⟩
   dsimp only [Lq, Nq] at kk0_0
   try dsimp only at hm0
   obtain ⟨v27, h28, hm0⟩ := bsE hm0
   simp only [kk0_0, e4, e8, Y_law16_LowerNames, ↓EVd, isCall, sevalprocAttr]
   refine qc (ok_lower_Find _ _ _ _ h28) rfl ?_
   rcases iteE hm0 with ⟨e30, hm0⟩ | ⟨e30, hm0⟩
   · obtain ⟨v31, h32, hm0⟩ := bsE hm0
     simp only [kk0_0, e4, e8, e30, Y_law16_LowerNames, ↓EVd, isCall, sevalprocAttr]
     refine qc (ok_slices_Contains_string_string _ _ _ h32) rfl ?_
     rcases itbE hm0 with ⟨e34, hm0⟩ | ⟨e34, hm0⟩
     · obtain rfl := Option.some.inj hm0
       simp only [kk0_0, e4, e8, e30, e34, Y_law16_LowerNames, ↓EVd, isCall, sevalprocAttr]
       all_goals first | done | rfl
     rcases iteE hm0 with ⟨e36, hm0⟩ | ⟨e36, hm0⟩
     · obtain rfl := Option.some.inj hm0
       simp only [kk0_0, e4, e8, e30, e34, e36, Y_law16_LowerNames, ↓EVd, isCall, sevalprocAttr]
       all_goals first | done | rfl
     rcases iteE hm0 with ⟨e38, hm0⟩ | ⟨e38, hm0⟩
     · rcases iteE hm0 with ⟨e40, hm0⟩ | ⟨e40, hm0⟩
       · obtain ⟨v41, h42, hm0⟩ := bsE hm0
         simp only [kk0_0, e4, e8, e30, e34, e36, e38, e40, Y_law16_LowerNames, ↓EVd, isCall, sevalprocAttr]
         refine qc (ok_slices_IsSorted_string_string _ _ h42) rfl ?_
         rcases itbE hm0 with ⟨e44, hm0⟩ | ⟨e44, hm0⟩
         · have g75 := And.intro (And.intro (And.intro ((e4)) ((e8))) (And.intro ((e30)) ((e34)))) (And.intro (And.intro ((e36)) ((e38))) (And.intro ((e40)) ((e44))))
           obtain ⟨v45, h46, hm0⟩ := bsE hm0
           simp only [kk0_0, g75, Y_law16_LowerNames, ↓EVd, isCall, sevalprocAttr]
           refine qc (ok_law16_awake  _ h46) rfl ?_
           obtain rfl := Option.some.inj hm0
           simp only [kk0_0, g75, Y_law16_LowerNames, ↓EVd, isCall, sevalprocAttr]
           all_goals first | done | rfl
         obtain rfl := Option.some.inj hm0
         simp only [kk0_0, e4, e8, e30, e34, e36, e38, e40, e44, Y_law16_LowerNames, ↓EVd, isCall, sevalprocAttr]
         all_goals first | done | rfl
       obtain rfl := Option.some.inj hm0
       simp only [kk0_0, e4, e8, e30, e34, e36, e38, e40, Y_law16_LowerNames, ↓EVd, isCall, sevalprocAttr]
       all_goals first | done | rfl
     obtain ⟨v47, h48, hm0⟩ := bsE hm0
     simp only [kk0_0, e4, e8, e30, e34, e36, e38, Y_law16_LowerNames, ↓EVd, isCall, sevalprocAttr]
     refine qc (ok_slices_IsSorted_string_string _ _ h48) rfl ?_
     rcases itbE hm0 with ⟨e50, hm0⟩ | ⟨e50, hm0⟩
     · obtain ⟨v51, h52, hm0⟩ := bsE hm0
       simp only [kk0_0, e4, e8, e30, e34, e36, e38, e50, Y_law16_LowerNames, ↓EVd, isCall, sevalprocAttr]
       refine qc (ok_law16_awake  _ h52) rfl ?_
       obtain rfl := Option.some.inj hm0
       simp only [kk0_0, e4, e8, e30, e34, e36, e38, e50, Y_law16_LowerNames, ↓EVd, isCall, sevalprocAttr]
       all_goals first | done | rfl
     obtain rfl := Option.some.inj hm0
     simp only [kk0_0, e4, e8, e30, e34, e36, e38, e50, Y_law16_LowerNames, ↓EVd, isCall, sevalprocAttr]
     all_goals first | done | rfl
   obtain ⟨v53, h54, hm0⟩ := bsE hm0
   simp only [kk0_0, e4, e8, e30, Y_law16_LowerNames, ↓EVd, isCall, sevalprocAttr]
   refine qc (ok_slices_Contains_string_string _ _ _ h54) rfl ?_
   rcases itbE hm0 with ⟨e56, hm0⟩ | ⟨e56, hm0⟩
   · rcases iteE hm0 with ⟨e58, hm0⟩ | ⟨e58, hm0⟩
     · rcases iteE hm0 with ⟨e60, hm0⟩ | ⟨e60, hm0⟩
       · rcases iteE hm0 with ⟨e62, hm0⟩ | ⟨e62, hm0⟩
         · obtain ⟨v63, h64, hm0⟩ := bsE hm0
           simp only [kk0_0, e4, e8, e30, e56, e58, e60, e62, Y_law16_LowerNames, ↓EVd, isCall, sevalprocAttr]
           refine qc (ok_slices_IsSorted_string_string _ _ h64) rfl ?_
           rcases itbE hm0 with ⟨e66, hm0⟩ | ⟨e66, hm0⟩
           · have g76 := And.intro (And.intro (And.intro ((e4)) ((e8))) (And.intro ((e30)) ((e56)))) (And.intro (And.intro ((e58)) ((e60))) (And.intro ((e62)) ((e66))))
             obtain ⟨v67, h68, hm0⟩ := bsE hm0
             simp only [kk0_0, g76, Y_law16_LowerNames, ↓EVd, isCall, sevalprocAttr]
             refine qc (ok_law16_awake  _ h68) rfl ?_
             obtain rfl := Option.some.inj hm0
             simp only [kk0_0, g76, Y_law16_LowerNames, ↓EVd, isCall, sevalprocAttr]
             all_goals first | done | rfl
           obtain rfl := Option.some.inj hm0
           simp only [kk0_0, e4, e8, e30, e56, e58, e60, e62, e66, Y_law16_LowerNames, ↓EVd, isCall, sevalprocAttr]
           all_goals first | done | rfl
         obtain rfl := Option.some.inj hm0
         simp only [kk0_0, e4, e8, e30, e56, e58, e60, e62, Y_law16_LowerNames, ↓EVd, isCall, sevalprocAttr]
         all_goals first | done | rfl
       obtain ⟨v69, h70, hm0⟩ := bsE hm0
       simp only [kk0_0, e4, e8, e30, e56, e58, e60, Y_law16_LowerNames, ↓EVd, isCall, sevalprocAttr]
       refine qc (ok_slices_IsSorted_string_string _ _ h70) rfl ?_
       rcases itbE hm0 with ⟨e72, hm0⟩ | ⟨e72, hm0⟩
       · obtain ⟨v73, h74, hm0⟩ := bsE hm0
         simp only [kk0_0, e4, e8, e30, e56, e58, e60, e72, Y_law16_LowerNames, ↓EVd, isCall, sevalprocAttr]
         refine qc (ok_law16_awake  _ h74) rfl ?_
         obtain rfl := Option.some.inj hm0
         simp only [kk0_0, e4, e8, e30, e56, e58, e60, e72, Y_law16_LowerNames, ↓EVd, isCall, sevalprocAttr]
         all_goals first | done | rfl
       obtain rfl := Option.some.inj hm0
       simp only [kk0_0, e4, e8, e30, e56, e58, e60, e72, Y_law16_LowerNames, ↓EVd, isCall, sevalprocAttr]
       all_goals first | done | rfl
     obtain rfl := Option.some.inj hm0
     simp only [kk0_0, e4, e8, e30, e56, e58, Y_law16_LowerNames, ↓EVd, isCall, sevalprocAttr]
     all_goals first | done | rfl
   obtain rfl := Option.some.inj hm0
   simp only [kk0_0, e4, e8, e30, e56, Y_law16_LowerNames, ↓EVd, isCall, sevalprocAttr]
   all_goals first | done | rfl
 refine cwp_lp ho0 (fun v14 s => s.T 1 = .sl 2 (a1.map encPlace) ∧ s.T 2 = str a2 ∧ s.T 3 = .loc 0 6 0 0 ∧ s.T 7 = .sl 1 (v11.map str) ∧ s.T 26 = .sl 1 (v11.map str) ∧ s.T 27 = int (v11.length : Int) ∧ s.T 28 = int v14 ∧ s.H 0 = some (.row 41 6 [encStack a0]) ∧ Lq 0 s.nx) ?_ ?_
 · refine TI.here ⟨?_, ?_, ?_, ?_, ?_, ?_, ?_, ?_, ?_⟩
   all_goals try simp only [e4, e8, Y_law16_LowerNames, ↓EVd, isCall, sevalprocAttr]
   all_goals first | omega | exact lq (by omega) | exact nq (by omega) | rfl | (congr 1; omega)
 rintro I0 v14 T0 H0 x13 st0 kk0 hm1 hI0 hO0
 dsimp only [Lq, Nq] at kk0
 simp only [m_law16_LowerNames_b0] at hm1
 rcases iteE hm1 with ⟨e17, hm1⟩ | ⟨e17, hm1⟩
 · obtain ⟨v18, e20, hm1⟩ := ixE str hm1
   obtain ⟨v21, h22, hm1⟩ := bsE hm1
   simp only [kk0, e4, e8, e17, e20, Y_law16_LowerNames, ↓EVd, isCall, sevalprocAttr]
   refine qc (ok_lower_Find _ _ _ _ h22) rfl ?_
   rcases iteE hm1 with ⟨e24, hm1⟩ | ⟨e24, hm1⟩
   · obtain rfl := Option.some.inj hm1
     obtain rfl := hO0 _ rfl
     try dsimp only at hm0
     obtain rfl := Option.some.inj hm0
     simp only [kk0, e4, e8, e17, e20, e24, Y_law16_LowerNames, ↓EVd, isCall, sevalprocAttr]
     all_goals first | done | rfl
   rcases iteE hm1 with ⟨e26, hm1⟩ | ⟨e26, hm1⟩
   · obtain rfl := Option.some.inj hm1
     obtain rfl := hO0 _ rfl
     try dsimp only at hm0
     obtain rfl := Option.some.inj hm0
     simp only [kk0, e4, e8, e17, e20, e24, e26, Y_law16_LowerNames, ↓EVd, isCall, sevalprocAttr]
     all_goals first | done | rfl
   obtain rfl := Option.some.inj hm1
   simp only [kk0, e4, e8, e17, e20, e24, e26, Y_law16_LowerNames, ↓EVd, isCall, sevalprocAttr]
   refine TI.here (hI0 _ rfl _ ⟨?_, ?_, ?_, ?_, ?_, ?_, ?_, ?_, ?_⟩)
   all_goals try simp only [kk0, e4, e8, e17, e20, e24, e26, Y_law16_LowerNames, ↓EVd, isCall, sevalprocAttr]
   all_goals first | omega | exact lq (by omega) | exact nq (by omega) | rfl | (congr 1; omega)
 obtain rfl := Option.some.inj hm1
 simp only [kk0, e4, e8, e17, Y_law16_LowerNames, ↓EVd, isCall, sevalprocAttr]
 refine TI.here (hJ0_0 _ ⟨⟨?_, ?_, ?_, ?_, ?_, ?_⟩, hO0 _ rfl⟩)
 all_goals try simp only [kk0, e4, e8, e17, Y_law16_LowerNames, ↓EVd, isCall, sevalprocAttr]
 all_goals first | omega | exact lq (by omega) | exact nq (by omega) | rfl | (congr 1; omega)
end Go.Proofs.Ytlgikchfddhocaa.AL

/- Plain laws of chapter 16: nodes, entries, what a name tells, where names lead, roots. -/
set_option linter.all false
namespace Go.Proofs.Ytlgikchfddhocaa.AL
open Go Go.Proofs

/-! ### Loops that may be left early -/
def foldE {α σ ρ : Type} (step : σ → α → σ ⊕ ρ) : List α → σ → σ ⊕ ρ
  | [], s => .inl s
  | x :: xs, s => match step s x with
    | .inl s' => foldE step xs s'
    | .inr r => .inr r
theorem foldE_inr {α σ ρ : Type} {step : σ → α → σ ⊕ ρ} {R : ρ → Prop} : ∀ (xs : List α) (s : σ), (∀ s x r, x ∈ xs → step s x = .inr r → R r) → ∀ r, foldE step xs s = .inr r → R r
  | [], s, h, r, e => by cases e
  | x :: xs, s, h, r, e => by
    unfold foldE at e
    split at e
    · exact foldE_inr xs _ (fun s y r hy => h s y r (by simp [hy])) r e
    · rename_i r' he
      injection e with e
      subst e
      exact h s x _ (by simp) he
theorem iter_foldE {α σ ρ S τ : Type} {B : S → Option (St S τ)} (mk : Nat → σ → S) (xs : List α) (step : σ → α → σ ⊕ ρ) (fin : σ ⊕ ρ → τ) (I : Nat → σ → Prop)
    (hs : ∀ i s (h : i < xs.length), I i s → match step s xs[i] with
      | .inl s' => B (mk i s) = some (.nx (mk (i + 1) s')) ∧ I (i + 1) s'
      | .inr r => B (mk i s) = some (.out (fin (.inr r))))
    (he : ∀ s, I xs.length s → B (mk xs.length s) = some (.out (fin (.inl s)))) {s0 : σ} (h0 : I 0 s0) {fuel : Nat} (hf : xs.length < fuel) : iter B fuel (mk 0 s0) = some (fin (foldE step xs s0)) := by
  have key : ∀ (d i : Nat) (s : σ) (fuel : Nat), d + i = xs.length → I i s → d < fuel → iter B fuel (mk i s) = some (fin (foldE step (xs.drop i) s)) := by
    intro d
    induction d with
    | zero =>
      intro i s fuel hd hi hf
      obtain rfl : i = xs.length := by omega
      cases fuel with
      | zero => omega
      | succ fuel =>
        rw [iter_succ, he s hi]
        simp [foldE]
    | succ d ih =>
      intro i s fuel hd hi hf
      cases fuel with
      | zero => omega
      | succ fuel =>
        have hlt : i < xs.length := by omega
        have h1 := hs i s hlt hi
        rw [iter_succ, List.drop_eq_getElem_cons hlt]
        unfold foldE
        split at h1
        · rename_i s' hst
          rw [h1.1]
          exact ih (i + 1) _ fuel (by omega) h1.2 (by omega)
        · rename_i r hst
          rw [h1]
          rfl
  have := key xs.length 0 s0 fuel (by omega) h0 hf
  simpa using this
/-- The first that is so. -/
theorem iter_find {α ρ : Type} {xs : List α} {B : Int → Option (St Int (Unit ⊕ ρ))} (g : α → Option ρ) (hl : xs.length ≤ 1000000000)
    (hB : ∀ i (h : i < xs.length), B (i : Int) = some (match g xs[i] with | some r => .out (.inr r) | none => .nx ((i + 1 : Nat) : Int))) (hE : B (xs.length : Int) = some (.out (.inl ()))) :
    iter B big 0 = some (match xs.findSome? g with | some r => .inr r | none => .inl ()) := by
  have := iter_foldE (B := B) (σ := Unit) (fun i _ => (i : Int)) xs (fun _ x => match g x with | some r => .inr r | none => .inl ()) (fun o => o) (fun _ _ => True) (by
    intro i s h _
    have := hB i h
    cases hg : g xs[i] with
    | none => rw [hg] at this; exact ⟨this, trivial⟩
    | some r => rw [hg] at this; exact this) (fun _ _ => hE) (s0 := ()) trivial (fuel := big) (by rw [big_eq]; omega)
  have e0 : ((0 : Nat) : Int) = 0 := rfl
  rw [show (0 : Int) = ((0 : Nat) : Int) from rfl, this]
  congr 1
  clear this hB hE hl
  induction xs with
  | nil => rfl
  | cons x xs ih =>
    unfold foldE
    rw [List.findSome?_cons]
    cases hg : g x with
    | none => simpa using ih
    | some r => rfl

/-! ### Nodes -/
def zN : Node := ⟨0, 0, 0, 0, [], [], ⟨0, 0, noBytes, ⟨0, 0, 0⟩, 0⟩⟩
structure PQ (bs : List Branch) : Prop where
  len : bs.length ≤ 3
  nodes : ∀ b ∈ bs, b.nodes.length ≤ 24 ∧ ∀ n ∈ b.nodes, NB n
def nodeQ (bs : List Branch) (x : Place) : Node :=
  if x.layer < 1 then zN else if (bs.length : Int) < x.layer then zN else
    if x.ino < 1 then zN else if ((((bs[(x.layer - 1).toNat]?).getD ⟨[]⟩).nodes.length : Nat) : Int) < x.ino then zN else (((bs[(x.layer - 1).toNat]?).getD ⟨[]⟩).nodes[(x.ino - 1).toNat]?).getD zN
theorem pile_eq {bs : List Branch} (h : PQ bs) (x : Place) : m_lower_pile_node bs x = some (nodeQ bs x) := by
  unfold m_lower_pile_node nodeQ
  by_cases h1 : x.layer < 1
  · rw [if_pos h1, if_pos h1]; rfl
  rw [if_neg h1, if_neg h1]
  by_cases h2 : (bs.length : Int) < x.layer
  · rw [if_pos h2, if_pos h2]; rfl
  rw [if_neg h2, if_neg h2]
  have hl := h.len
  have hlt : (x.layer - 1).toNat < bs.length := by omega
  rw [wr_in (by omega) (by omega), ix_of (by omega) (by omega)]
  simp only [Option.bind_some]
  rw [List.getElem?_eq_getElem hlt]
  simp only [Option.getD_some]
  have hb := (h.nodes _ (List.getElem_mem hlt)).1
  generalize bs[(x.layer - 1).toNat] = b at hb
  by_cases h3 : x.ino < 1
  · rw [if_pos h3, if_pos h3]; rfl
  rw [if_neg h3, if_neg h3]
  by_cases h4 : (b.nodes.length : Int) < x.ino
  · rw [if_pos h4, if_pos h4]; rfl
  rw [if_neg h4, if_neg h4]
  have hlt2 : (x.ino - 1).toNat < b.nodes.length := by omega
  rw [wr_in (by omega) (by omega), ix_of (by omega) (by omega)]
  simp only [Option.bind_some]
  rw [List.getElem?_eq_getElem hlt2]
  rfl
theorem lowerQ {s : Stack} (h : PQ s.lowers) (x : Place) : m_ref15_Lower s x = some (nodeQ s.lowers x) := by
  rw [← pile_eq h x]
  unfold m_ref15_Lower m_lower_pile_node
  by_cases h1 : x.layer < 1
  · rw [if_pos h1, if_pos h1]
  rw [if_neg h1, if_neg h1]
  by_cases h2 : (s.lowers.length : Int) < x.layer
  · rw [if_pos h2, if_pos h2]
  rw [if_neg h2, if_neg h2]
  cases ix s.lowers (wr (x.layer - 1)) with
  | none => rfl
  | some b =>
    simp only [Option.bind_some]
    unfold m_ref13_At
    by_cases h3 : x.ino < 1
    · rw [if_pos h3]; rfl
    rw [if_neg h3]
    by_cases h4 : (b.nodes.length : Int) < x.ino
    · rw [if_pos h4]; rfl
    rw [if_neg h4]
    cases ix b.nodes (wr (x.ino - 1)) <;> rfl
theorem zN_nb : NB zN := ⟨by simp [zN], by simp [zN], by simp [zN]⟩
theorem nodeQ_nb {bs : List Branch} (h : PQ bs) (x : Place) : NB (nodeQ bs x) := by
  unfold nodeQ
  split
  · exact zN_nb
  split
  · exact zN_nb
  split
  · exact zN_nb
  split
  · exact zN_nb
  rename_i h1 h2 h3 h4
  have hlt : (x.layer - 1).toNat < bs.length := by omega
  rw [List.getElem?_eq_getElem hlt] at h4 ⊢
  simp only [Option.getD_some] at h4 ⊢
  have hlt2 : (x.ino - 1).toNat < bs[(x.layer - 1).toNat].nodes.length := by omega
  rw [List.getElem?_eq_getElem hlt2]
  exact (h.nodes _ (List.getElem_mem hlt)).2 _ (List.getElem_mem hlt2)
/-! ### Opaque -/
theorem bitsQ (k : Fin 32) : bAnd .i64 (k.val : Int) 1 = 0 ↔ ¬ (wr ((k.val : Int).tdiv 1)).tmod 2 = 1 := by
  revert k
  decide +kernel
def opqQ (n : Node) : Bool := decide ((wr (n.attr.has.tdiv 1)).tmod 2 = 1 ∧ n.attr.opaque0 = 121)
theorem lopaque_eq {n : Node} (h : NB n) : m_lower_opaque n = some (opqQ n) := by
  unfold m_lower_opaque opqQ
  rw [if_pos h.has0]
  have e : ((n.attr.has.toNat : Nat) : Int) = n.attr.has := by have := h.has0; omega
  have hb := bitsQ ⟨n.attr.has.toNat, by have := h.has0; have := h.has1; omega⟩
  simp only [e] at hb
  by_cases hc : bAnd .i64 n.attr.has 1 = 0
  · rw [if_pos hc]
    exact congrArg some (decide_eq_false fun hh => hb.1 hc hh.1).symm
  · rw [if_neg hc]
    have hq : (wr (n.attr.has.tdiv 1)).tmod 2 = 1 := by
      rcases Decidable.em ((wr (n.attr.has.tdiv 1)).tmod 2 = 1) with h | h
      · exact h
      · exact absurd (hb.2 h) hc
    by_cases ho : n.attr.opaque0 = 121
    · rw [if_pos ho]; exact congrArg some (decide_eq_true ⟨hq, ho⟩).symm
    · rw [if_neg ho]; exact congrArg some (decide_eq_false fun hh => ho hh.2).symm
theorem ropaque_eq {n : Node} (h : NB n) : m_ref16_Opaque n = some (opqQ n) := by
  unfold m_ref16_Opaque m_ref09_Has m_ref09_has opqQ ck
  rw [if_pos h.has0, if_pos (by decide)]
  simp only [Option.bind_some]
  by_cases hq : (wr (n.attr.has.tdiv 1)).tmod 2 = 1
  · rw [if_pos hq]
    simp only [Option.bind_some, if_true]
    by_cases ho : n.attr.opaque0 = 121
    · rw [if_pos ho]; exact congrArg some (decide_eq_true ⟨hq, ho⟩).symm
    · rw [if_neg ho]; exact congrArg some (decide_eq_false fun hh => ho hh.2).symm
  · rw [if_neg hq]
    simp only [Option.bind_some, Bool.false_eq_true, if_false]
    exact congrArg some (decide_eq_false fun hh => hq hh.1).symm
/-! ### Entries -/
def entG (bs : List Branch) (x : Place) (nm : ByteArray) (e : Entry) : Option (Place × Node) :=
  if e.name = nm then if (nodeQ bs ⟨x.layer, e.ino⟩).kind = 0 then none else some (⟨x.layer, e.ino⟩, nodeQ bs ⟨x.layer, e.ino⟩) else none
def entQ (bs : List Branch) (x : Place) (nm : ByteArray) : Option (Place × Node) :=
  if (nodeQ bs x).kind = 1 then (nodeQ bs x).entries.findSome? (entG bs x nm) else none
theorem entry_eq {bs : List Branch} (h : PQ bs) (x : Place) (nm : ByteArray) : m_lower_pile_entry bs x nm = some ((entQ bs x nm).getD (⟨0, 0⟩, zN)) := by
  unfold m_lower_pile_entry entQ
  rw [pile_eq h]
  simp only [Option.bind_some]
  have hn := (nodeQ_nb h x).ents
  by_cases hk : (nodeQ bs x).kind = 1
  · rw [if_pos hk, if_pos hk, iter_find (entG bs x nm) (xs := (nodeQ bs x).entries) (by omega)]
    · cases (nodeQ bs x).entries.findSome? (entG bs x nm) <;> rfl
    · intro i hi
      simp only [m_lower_pile_entry_b0]
      rw [if_pos (by omega), ix_at hi]
      simp only [Option.bind_some]
      rw [pile_eq h, wr_suc (by omega)]
      simp only [Option.bind_some, entG]
      by_cases h1 : (nodeQ bs x).entries[i].name = nm
      · rw [if_pos h1, if_pos h1]
        by_cases h2 : (nodeQ bs ⟨x.layer, (nodeQ bs x).entries[i].ino⟩).kind = 0
        · rw [if_pos h2, if_pos h2]
        · rw [if_neg h2, if_neg h2]
      · rw [if_neg h1, if_neg h1]
    · simp only [m_lower_pile_entry_b0]
      rw [if_neg (by omega)]
  · rw [if_neg hk, if_neg hk]; rfl
theorem rentry_eq {s : Stack} (h : PQ s.lowers) (x : Place) (nm : ByteArray) : m_ref16_entry s x nm = some (match entQ s.lowers x nm with | some p => (p.1, true) | none => (⟨0, 0⟩, false)) := by
  unfold m_ref16_entry entQ
  rw [lowerQ h]
  simp only [Option.bind_some]
  have hn := (nodeQ_nb h x).ents
  by_cases hk : (nodeQ s.lowers x).kind = 1
  · rw [if_pos hk, if_pos hk, iter_find (fun e => (entG s.lowers x nm e).map fun p => (p.1, true)) (xs := (nodeQ s.lowers x).entries) (by omega)]
    · simp only [Option.bind_some]
      have e : ∀ l : List Entry, l.findSome? (fun e => (entG s.lowers x nm e).map fun p => (p.1, true)) = (l.findSome? (entG s.lowers x nm)).map fun p => (p.1, true) := by
        intro l
        induction l with
        | nil => rfl
        | cons a l ih =>
          rw [List.findSome?_cons, List.findSome?_cons]
          cases entG s.lowers x nm a with
          | none => exact ih
          | some p => rfl
      rw [e]
      cases (nodeQ s.lowers x).entries.findSome? (entG s.lowers x nm) <;> rfl
    · intro i hi
      simp only [m_ref16_entry_b0]
      rw [if_pos (by omega), ix_at hi]
      simp only [Option.bind_some]
      rw [lowerQ h, wr_suc (by omega)]
      simp only [Option.bind_some, entG]
      by_cases h1 : (nodeQ s.lowers x).entries[i].name = nm
      · rw [if_pos h1, if_pos h1]
        by_cases h2 : (nodeQ s.lowers ⟨x.layer, (nodeQ s.lowers x).entries[i].ino⟩).kind = 0
        · rw [if_pos h2, if_pos h2]; rfl
        · rw [if_neg h2, if_neg h2]; rfl
      · rw [if_neg h1, if_neg h1]; rfl
    · simp only [m_ref16_entry_b0]
      rw [if_neg (by omega)]
  · rw [if_neg hk, if_neg hk]
theorem entQ_some {bs : List Branch} {x : Place} {nm : ByteArray} {p : Place × Node} (h : entQ bs x nm = some p) : p.2 = nodeQ bs p.1 ∧ ¬ p.2.kind = 0 ∧ (nodeQ bs x).kind = 1 ∧ ∃ e ∈ (nodeQ bs x).entries, e.name = nm := by
  unfold entQ at h
  split at h
  · rename_i hk
    obtain ⟨e, he, h1⟩ := List.exists_of_findSome?_eq_some h
    unfold entG at h1
    split at h1
    · rename_i hn
      split at h1
      · cases h1
      · rename_i h2
        injection h1 with h1
        subst h1
        exact ⟨rfl, h2, hk, e, he, hn⟩
    · cases h1
  · cases h
/-! ### What a name tells -/
def stepQ (bs : List Branch) (nm : ByteArray) (d : List Place) (x : Place) : List Place ⊕ (Int × List Place) :=
  match entQ bs x nm with
  | none => .inl d
  | some (y, n) => if n.kind = 1 then (if opqQ n = true then .inr (1, d ++ [y]) else .inl (d ++ [y])) else if 0 < (d.length : Int) then .inr (1, d) else if n.kind = 2 ∨ n.kind = 3 then .inr (n.kind, [y]) else .inr (0, [])
def endQ (o : List Place ⊕ (Int × List Place)) : Int × List Place := match o with
  | .inl d => if 0 < (d.length : Int) then (1, d) else (0, [])
  | .inr r => r
def findQ (bs : List Branch) (l : List Place) (nm : ByteArray) : Int × List Place := endQ (foldE (stepQ bs nm) l [])
structure FQ' (n : Nat) (r : Int × List Place) : Prop where
  some : r.1 = 0 ∨ 0 < r.2.length
  nil : r.1 = 0 → r.2 = []
  kinds : r.1 = 0 ∨ r.1 = 1 ∨ r.1 = 2 ∨ r.1 = 3
  one : ¬ r.1 = 1 → r.2.length ≤ 1
theorem stepQ_inr {bs : List Branch} {nm : ByteArray} {d : List Place} {x : Place} {r : Int × List Place} (h : stepQ bs nm d x = .inr r) : FQ' 0 r := by
  unfold stepQ at h
  split at h
  · cases h
  · rename_i y n he
    split at h
    · split at h
      · injection h with h; subst h; exact ⟨.inr (by simp), fun e => (by cases e), by simp, fun e => absurd rfl e⟩
      · cases h
    · split at h
      · injection h with h; subst h; exact ⟨.inr (by simp only; omega), fun e => (by cases e), by simp, fun e => absurd rfl e⟩
      · split at h
        · rename_i hk
          injection h with h
          subst h
          exact ⟨.inr (by simp), fun e => (by simp only at e; omega), by simp only; omega, fun _ => by simp⟩
        · injection h with h; subst h; exact ⟨.inl rfl, fun _ => rfl, by simp, fun _ => by simp⟩
theorem findQ_prop (bs : List Branch) (l : List Place) (nm : ByteArray) : FQ' 0 (findQ bs l nm) := by
  unfold findQ endQ
  split
  · rename_i d hd
    split
    · exact ⟨.inr (by simp only; omega), fun e => (by cases e), by simp, fun e => absurd rfl e⟩
    · exact ⟨.inl rfl, fun _ => rfl, by simp, fun _ => by simp⟩
  · rename_i r hr
    exact foldE_inr (R := FQ' 0) l [] (fun s x r _ h => stepQ_inr h) r hr
theorem foldQ_len {bs : List Branch} {nm : ByteArray} : ∀ (l : List Place) (d : List Place), (∀ d', foldE (stepQ bs nm) l d = .inl d' → d'.length ≤ d.length + l.length) ∧ (∀ r, foldE (stepQ bs nm) l d = .inr r → r.2.length ≤ d.length + l.length)
  | [], d => ⟨fun d' e => by injection e with e; subst e; simp, fun r e => by cases e⟩
  | x :: l, d => by
    have key : (∃ r, stepQ bs nm d x = .inr r ∧ foldE (stepQ bs nm) (x :: l) d = .inr r ∧ r.2.length ≤ d.length + 1) ∨ (∃ d1, stepQ bs nm d x = .inl d1 ∧ d1.length ≤ d.length + 1 ∧ foldE (stepQ bs nm) (x :: l) d = foldE (stepQ bs nm) l d1) := by
      cases hs : stepQ bs nm d x with
      | inl d1 =>
        refine .inr ⟨d1, rfl, ?_, by rw [foldE, hs]⟩
        unfold stepQ at hs
        split at hs
        · injection hs with hs; subst hs; omega
        · split at hs
          · split at hs
            · cases hs
            · injection hs with hs; subst hs; simp
          · split at hs
            · cases hs
            · split at hs <;> cases hs
      | inr r =>
        refine .inl ⟨r, rfl, by rw [foldE, hs], ?_⟩
        unfold stepQ at hs
        split at hs
        · cases hs
        · split at hs
          · split at hs
            · injection hs with hs; subst hs; simp
            · cases hs
          · split at hs
            · injection hs with hs; subst hs; simp
            · split at hs <;> (injection hs with hs; subst hs; simp)
    rcases key with ⟨r, h1, h2, h3⟩ | ⟨d1, h1, h2, h3⟩
    · refine ⟨fun d' e => (by rw [h2] at e; cases e), fun r' e => ?_⟩
      rw [h2] at e
      injection e with e
      subst e
      simp only [List.length_cons]; omega
    · obtain ⟨g1, g2⟩ := foldQ_len l d1
      refine ⟨fun d' e => ?_, fun r e => ?_⟩
      · rw [h3] at e; have := g1 d' e; simp only [List.length_cons]; omega
      · rw [h3] at e; have := g2 r e; simp only [List.length_cons]; omega
theorem findQ_len (bs : List Branch) (l : List Place) (nm : ByteArray) : (findQ bs l nm).2.length ≤ l.length := by
  obtain ⟨g1, g2⟩ := foldQ_len (bs := bs) (nm := nm) l []
  unfold findQ endQ
  split
  · rename_i d hd
    have := g1 d hd
    split
    · simpa using this
    · simp
  · rename_i r hr
    have := g2 r hr
    simpa using this
theorem findQ_ent {bs : List Branch} {nm : ByteArray} : ∀ (l : List Place) (d : List Place), (∀ x ∈ l, entQ bs x nm = none) → foldE (stepQ bs nm) l d = .inl d
  | [], d, _ => rfl
  | x :: l, d, h => by
    unfold foldE stepQ
    rw [h x (by simp)]
    exact findQ_ent l d fun y hy => h y (by simp [hy])
theorem findQ_some {bs : List Branch} {l : List Place} {nm : ByteArray} (h : ¬ (findQ bs l nm).1 = 0) : ∃ x ∈ l, ∃ p, entQ bs x nm = some p := by
  rcases Classical.em (∃ x ∈ l, ∃ p, entQ bs x nm = some p) with h1 | h1
  · exact h1
  · exfalso
    apply h
    unfold findQ
    rw [findQ_ent l [] (fun x hx => by
      cases he : entQ bs x nm with
      | none => rfl
      | some p => exact absurd ⟨x, hx, p, he⟩ h1)]
    rfl
theorem rfind_eq {s : Stack} (h : PQ s.lowers) {l : List Place} (hl : l.length ≤ 1000) (nm : ByteArray) : m_ref16_Find s l nm = some (findQ s.lowers l nm) := by
  unfold m_ref16_Find
  have := iter_foldE (B := m_ref16_Find_b0 s l nm) (fun i d => (d, (i : Int))) l (stepQ s.lowers nm) (fun o => o) (fun i d => d.length ≤ i) (by
    intro i d hi hd
    have hb : m_ref16_Find_b0 s l nm (d, (i : Int)) = some (match stepQ s.lowers nm d l[i] with | .inl d' => .nx (d', ((i + 1 : Nat) : Int)) | .inr r => .out (.inr r)) := by
      simp only [m_ref16_Find_b0]
      rw [if_pos (by omega), ix_at hi]
      simp only [Option.bind_some]
      rw [rentry_eq h, wr_suc (by omega)]
      simp only [Option.bind_some, stepQ]
      cases he : entQ s.lowers l[i] nm with
      | none => simp
      | some p =>
        obtain ⟨y, n⟩ := p
        obtain ⟨e1, e2, _⟩ := entQ_some he
        simp only at e1 e2
        subst e1
        simp only [Bool.not_true, Bool.false_eq_true, if_false]
        rw [lowerQ h]
        simp only [Option.bind_some]
        by_cases hk : (nodeQ s.lowers y).kind = 1
        · rw [if_pos hk, if_pos hk, ap_of (by simp; omega) (by decide)]
          simp only [Option.bind_some]
          rw [ropaque_eq (nodeQ_nb h y)]
          simp only [Option.bind_some]
          by_cases ho : opqQ (nodeQ s.lowers y) = true
          · rw [if_pos ho, if_pos ho]
          · rw [if_neg ho, if_neg ho]
        · rw [if_neg hk, if_neg hk]
          by_cases h0 : 0 < (d.length : Int)
          · rw [if_pos h0, if_pos h0]
          · rw [if_neg h0, if_neg h0]
            by_cases h2 : (nodeQ s.lowers y).kind = 2
            · rw [if_pos h2, if_pos (.inl h2)]
            · rw [if_neg h2]
              by_cases h3 : (nodeQ s.lowers y).kind = 3
              · rw [if_pos h3, if_pos (.inr h3)]
              · rw [if_neg h3, if_neg (by omega)]
    split
    · rename_i d' hs
      rw [hs] at hb
      refine ⟨hb, ?_⟩
      have := (foldQ_len (bs := s.lowers) (nm := nm) [l[i]] d).1 d' (by rw [foldE, hs]; rfl)
      simp at this
      omega
    · rename_i r hs
      rw [hs] at hb
      exact hb) (by
    intro d hd
    simp only [m_ref16_Find_b0]
    rw [if_neg (by omega)]) (s0 := []) (Nat.le_refl _) (fuel := big) (by rw [big_eq]; omega)
  have e0 : ((0 : Nat) : Int) = 0 := rfl
  rw [e0] at this
  rw [this]
  simp only [Option.bind_some]
  unfold findQ endQ
  cases foldE (stepQ s.lowers nm) l [] with
  | inl d => simp only; split <;> rfl
  | inr r => rfl
/-- The way out of the program's loop. -/
def outQ (o : List Place ⊕ (Int × List Place)) : (List Place) ⊕ ((List Place) ⊕ (Int × List Place)) := match o with
  | .inl d => .inl d
  | .inr r => if r.1 = 0 ∨ r.1 = 1 then .inr (.inl r.2) else .inr (.inr r)
theorem find_eq {s : Stack} (h : PQ s.lowers) {l : List Place} (hl : l.length ≤ 1000) (nm : ByteArray) : m_lower_Find s l nm = some (findQ s.lowers l nm) := by
  unfold m_lower_Find
  have := iter_foldE (B := m_lower_Find_b1 s l nm) (fun i d => (d, (i : Int))) l (stepQ s.lowers nm) outQ (fun i d => d.length ≤ i) (by
    intro i d hi hd
    have hb : m_lower_Find_b1 s l nm (d, (i : Int)) = some (match stepQ s.lowers nm d l[i] with | .inl d' => .nx (d', ((i + 1 : Nat) : Int)) | .inr r => .out (outQ (.inr r))) := by
      simp only [m_lower_Find_b1]
      rw [if_pos (by omega), ix_at hi]
      simp only [Option.bind_some]
      rw [entry_eq h, wr_suc (by omega)]
      simp only [Option.bind_some, stepQ]
      cases he : entQ s.lowers l[i] nm with
      | none => simp [zN]
      | some p =>
        obtain ⟨y, n⟩ := p
        obtain ⟨e1, e2, _⟩ := entQ_some he
        simp only at e1 e2
        subst e1
        simp only [Option.getD_some]
        rw [if_neg e2]
        by_cases hk : (nodeQ s.lowers y).kind = 1
        · rw [if_pos hk, if_pos hk, ap_of (by simp; omega) (by decide)]
          simp only [Option.bind_some]
          rw [lopaque_eq (nodeQ_nb h y)]
          simp only [Option.bind_some]
          cases ho : opqQ (nodeQ s.lowers y) with
          | true => simp [outQ]
          | false => simp
        · rw [if_neg hk, if_neg hk]
          by_cases h0 : 0 < (d.length : Int)
          · have hd0 : ¬ (d.length : Int) = 0 := by omega
            rw [if_pos h0, if_neg hd0]
            have ho : outQ (.inr (1, d)) = .inr (.inl d) := by simp [outQ]
            show _ = some (St.out (outQ (.inr (1, d))))
            rw [ho]
            split
            · rfl
            · split <;> rfl
          · have hd0 : (d.length : Int) = 0 := by omega
            have hd1 : d = [] := List.eq_nil_of_length_eq_zero (by omega)
            rw [if_neg h0, if_pos hd0]
            have ho : ∀ k : Int, ¬ k = 0 → ¬ k = 1 → outQ (.inr (k, [y])) = .inr (.inr (k, [y])) := fun k g1 g2 => if_neg (by rintro (g | g); exact g1 g; exact g2 g)
            have ho0 : outQ (.inr (0, [])) = .inr (.inl []) := by simp [outQ]
            by_cases h2 : (nodeQ s.lowers y).kind = 2
            · rw [if_pos h2, if_pos (Or.inl h2)]
              show _ = some (St.out (outQ (.inr (_, [y]))))
              rw [ho _ e2 hk]
            · rw [if_neg h2]
              by_cases h3 : (nodeQ s.lowers y).kind = 3
              · rw [if_pos h3, if_pos (Or.inr h3)]
                show _ = some (St.out (outQ (.inr (_, [y]))))
                rw [ho _ e2 hk]
              · rw [if_neg h3, if_neg (by omega)]
                show _ = some (St.out (outQ (.inr (0, []))))
                rw [ho0, hd1]
    split
    · rename_i d' hs
      rw [hs] at hb
      refine ⟨hb, ?_⟩
      have := (foldQ_len (bs := s.lowers) (nm := nm) [l[i]] d).1 d' (by rw [foldE, hs]; rfl)
      simp at this
      omega
    · rename_i r hs
      rw [hs] at hb
      exact hb) (by
    intro d hd
    simp only [m_lower_Find_b1]
    rw [if_neg (by omega)]
    rfl) (s0 := []) (Nat.le_refl _) (fuel := big) (by rw [big_eq]; omega)
  have e0 : ((0 : Nat) : Int) = 0 := rfl
  rw [e0] at this
  rw [this]
  simp only [Option.bind_some]
  have hp := findQ_prop s.lowers l nm
  unfold findQ endQ at *
  cases hf : foldE (stepQ s.lowers nm) l [] with
  | inl d =>
    simp only [outQ]
    by_cases h0 : (d.length : Int) = 0
    · rw [if_pos h0, if_neg (by omega)]
    · rw [if_neg h0, if_pos (by omega)]
  | inr r =>
    rw [hf] at hp
    simp only at hp
    simp only [outQ]
    obtain ⟨k, d⟩ := r
    by_cases h1 : k = 0 ∨ k = 1
    · rw [if_pos h1]
      simp only
      rcases h1 with h1 | h1
      · subst h1
        have := hp.nil rfl
        simp only at this
        subst this
        rfl
      · subst h1
        have : 0 < d.length := by rcases hp.some with h | h; cases h; exact h
        rw [if_neg (by omega)]
    · rw [if_neg h1]
/-! ### Where names lead -/
def stepL (bs : List Branch) (d : List Place) (nm : ByteArray) : List Place ⊕ (List Place × Bool) := if (findQ bs d nm).1 = 1 then .inl (findQ bs d nm).2 else .inr ([], false)
def lookQ (bs : List Branch) (l : List Place) (nms : List ByteArray) : List Place × Bool := match foldE (stepL bs) nms l with
  | .inl d => (d, true)
  | .inr r => r
theorem clone_of {n : Nat} {α : Type} {l : List α} (h : l.length * n ≤ 140737488355328) (hn : 0 < n) : cloneM n l = some l := by
  unfold cloneM
  rw [ap_of (by simpa using h) hn]
  rfl
theorem rlook_eq {s : Stack} (h : PQ s.lowers) {l : List Place} (hl : l.length ≤ 1000) {nms : List ByteArray} (hn : nms.length ≤ 1000) : m_ref16_Look s l nms = some (lookQ s.lowers l nms) := by
  unfold m_ref16_Look
  have := iter_foldE (B := m_ref16_Look_b0 s nms) (fun i d => (d, (i : Int))) nms (stepL s.lowers) (fun o => o) (fun i d => d.length ≤ 1000) (by
    intro i d hi hd
    have hb : m_ref16_Look_b0 s nms (d, (i : Int)) = some (match stepL s.lowers d nms[i] with | .inl d' => .nx (d', ((i + 1 : Nat) : Int)) | .inr r => .out (.inr r)) := by
      simp only [m_ref16_Look_b0]
      rw [if_pos (by omega), ix_at hi]
      simp only [Option.bind_some]
      rw [rfind_eq h hd, wr_suc (by omega)]
      simp only [Option.bind_some, stepL]
      split <;> rfl
    split
    · rename_i d' hs
      rw [hs] at hb
      refine ⟨hb, ?_⟩
      unfold stepL at hs
      split at hs
      · injection hs with hs
        subst hs
        exact Nat.le_trans (findQ_len _ _ _) hd
      · cases hs
    · rename_i r hs
      rw [hs] at hb
      exact hb) (by
    intro d hd
    simp only [m_ref16_Look_b0]
    rw [if_neg (by omega)]) (s0 := l) hl (fuel := big) (by rw [big_eq]; omega)
  have e0 : ((0 : Nat) : Int) = 0 := rfl
  rw [e0] at this
  rw [this]
  simp only [Option.bind_some]
  unfold lookQ
  cases foldE (stepL s.lowers) nms l <;> rfl
theorem look_eq {s : Stack} (h : PQ s.lowers) {l : List Place} (hl : l.length ≤ 1000) {nms : List ByteArray} (hn : nms.length ≤ 1000) : m_lower_Look s l nms = some (lookQ s.lowers l nms) := by
  unfold m_lower_Look
  rw [clone_of (by omega) (by decide)]
  simp only [Option.bind_some]
  have := iter_foldE (B := m_lower_Look_b0 s nms) (fun i d => (d, (i : Int))) nms (stepL s.lowers) (fun o => o) (fun i d => d.length ≤ 1000) (by
    intro i d hi hd
    have hb : m_lower_Look_b0 s nms (d, (i : Int)) = some (match stepL s.lowers d nms[i] with | .inl d' => .nx (d', ((i + 1 : Nat) : Int)) | .inr r => .out (.inr r)) := by
      simp only [m_lower_Look_b0]
      rw [if_pos (by omega), ix_at hi]
      simp only [Option.bind_some]
      rw [find_eq h hd, wr_suc (by omega)]
      simp only [Option.bind_some, stepL]
      split <;> rfl
    split
    · rename_i d' hs
      rw [hs] at hb
      refine ⟨hb, ?_⟩
      unfold stepL at hs
      split at hs
      · injection hs with hs
        subst hs
        exact Nat.le_trans (findQ_len _ _ _) hd
      · cases hs
    · rename_i r hs
      rw [hs] at hb
      exact hb) (by
    intro d hd
    simp only [m_lower_Look_b0]
    rw [if_neg (by omega)]) (s0 := l) hl (fuel := big) (by rw [big_eq]; omega)
  have e0 : ((0 : Nat) : Int) = 0 := rfl
  rw [e0] at this
  rw [this]
  simp only [Option.bind_some]
  unfold lookQ
  cases foldE (stepL s.lowers) nms l <;> rfl
theorem lookQ_len {bs : List Branch} : ∀ (nms : List ByteArray) (l : List Place), (lookQ bs l nms).1.length ≤ l.length
  | [], l => Nat.le_refl _
  | n :: nms, l => by
    have := lookQ_len nms (findQ bs l n).2 (bs := bs)
    unfold lookQ at this ⊢
    unfold foldE
    by_cases h : (findQ bs l n).1 = 1
    · have e : stepL bs l n = .inl (findQ bs l n).2 := if_pos h
      rw [e]
      exact Nat.le_trans this (findQ_len _ _ _)
    · have e : stepL bs l n = .inr ([], false) := if_neg h
      rw [e]
      exact Nat.zero_le _
/-! ### Roots -/
def stepO (bs : List Branch) (d : List Place) (i : Nat) : List Place ⊕ List Place :=
  if (nodeQ bs ⟨((i + 1 : Nat) : Int), 1⟩).kind = 1 then (if opqQ (nodeQ bs ⟨((i + 1 : Nat) : Int), 1⟩) = true then .inr (d ++ [⟨((i + 1 : Nat) : Int), 1⟩]) else .inl (d ++ [⟨((i + 1 : Nat) : Int), 1⟩])) else .inl d
def rootsQ (bs : List Branch) : List Place := match foldE (stepO bs) (List.range bs.length) [] with
  | .inl d => d
  | .inr d => d
theorem stepO_len {bs : List Branch} {d d' : List Place} {i : Nat} (h : stepO bs d i = .inl d') : d'.length ≤ d.length + 1 := by
  unfold stepO at h
  split at h
  · split at h
    · cases h
    · injection h with h; subst h; simp
  · injection h with h; subst h; omega
theorem roots_eq {s : Stack} (h : PQ s.lowers) : m_lower_Roots s = some (rootsQ s.lowers) := by
  unfold m_lower_Roots
  have hl := h.len
  have := iter_foldE (B := m_lower_Roots_b0 s) (fun i d => (d, (i : Int))) (List.range s.lowers.length) (stepO s.lowers) (fun o => match o with | .inl d => d | .inr d => d) (fun i d => d.length ≤ i) (by
    intro i d hi hd
    have hi' : i < s.lowers.length := by simpa using hi
    rw [List.getElem_range]
    have hb : m_lower_Roots_b0 s (d, (i : Int)) = some (match stepO s.lowers d i with | .inl d' => .nx (d', ((i + 1 : Nat) : Int)) | .inr r => .out r) := by
      simp only [m_lower_Roots_b0]
      rw [if_pos (by omega), wr_suc (by omega), pile_eq h]
      simp only [Option.bind_some, stepO]
      by_cases hk : (nodeQ s.lowers ⟨((i + 1 : Nat) : Int), 1⟩).kind = 1
      · rw [if_pos hk, if_pos hk, ap_of (by simp; omega) (by decide)]
        simp only [Option.bind_some]
        rw [lopaque_eq (nodeQ_nb h _)]
        simp only [Option.bind_some]
        split <;> rfl
      · rw [if_neg hk, if_neg hk]
    split
    · rename_i d' hs
      rw [hs] at hb
      have := stepO_len hs
      exact ⟨hb, by omega⟩
    · rename_i r hs
      rw [hs] at hb
      exact hb) (by
    intro d hd
    simp only [m_lower_Roots_b0, List.length_range]
    rw [if_neg (by omega)]) (s0 := []) (Nat.le_refl _) (fuel := big) (by rw [big_eq]; simp; omega)
  have e0 : ((0 : Nat) : Int) = 0 := rfl
  rw [e0] at this
  rw [this]
  rfl
theorem rroots_eq {s : Stack} (h : PQ s.lowers) : m_ref16_Roots s = some (rootsQ s.lowers) := by
  unfold m_ref16_Roots
  have hl := h.len
  have := iter_foldE (B := m_ref16_Roots_b0 s) (fun i d => (d, ((i + 1 : Nat) : Int))) (List.range s.lowers.length) (stepO s.lowers) (fun o => o) (fun i d => d.length ≤ i) (by
    intro i d hi hd
    have hi' : i < s.lowers.length := by simpa using hi
    rw [List.getElem_range]
    have hb : m_ref16_Roots_b0 s (d, ((i + 1 : Nat) : Int)) = some (match stepO s.lowers d i with | .inl d' => .nx (d', ((i + 1 + 1 : Nat) : Int)) | .inr r => .out (.inr r)) := by
      simp only [m_ref16_Roots_b0]
      rw [if_pos (by omega), wr_suc (by omega), lowerQ h]
      simp only [Option.bind_some, stepO]
      by_cases hk : (nodeQ s.lowers ⟨((i + 1 : Nat) : Int), 1⟩).kind = 1
      · rw [if_pos hk, if_pos hk, ap_of (by simp; omega) (by decide)]
        simp only [Option.bind_some]
        rw [ropaque_eq (nodeQ_nb h _)]
        simp only [Option.bind_some]
        split <;> rfl
      · rw [if_neg hk, if_neg hk]
    split
    · rename_i d' hs
      rw [hs] at hb
      have := stepO_len hs
      exact ⟨hb, by omega⟩
    · rename_i r hs
      rw [hs] at hb
      exact hb) (by
    intro d hd
    simp only [m_ref16_Roots_b0, List.length_range]
    rw [if_neg (by omega)]) (s0 := []) (Nat.le_refl _) (fuel := big) (by rw [big_eq]; simp; omega)
  have e0 : ((0 + 1 : Nat) : Int) = 1 := rfl
  rw [e0] at this
  rw [this]
  simp only [Option.bind_some]
  unfold rootsQ
  cases foldE (stepO s.lowers) (List.range s.lowers.length) [] <;> rfl
theorem rootsQ_len {bs : List Branch} (h : PQ bs) : (rootsQ bs).length ≤ 3 := by
  have hl := h.len
  have key : ∀ (xs : List Nat) (d : List Place), (match foldE (stepO bs) xs d with | .inl d => d | .inr d => d).length ≤ d.length + xs.length := by
    intro xs
    induction xs with
    | nil => intro d; simp [foldE]
    | cons x xs ih =>
      intro d
      unfold foldE
      cases hs : stepO bs d x with
      | inl d' =>
        have h1 := stepO_len hs
        have h2 := ih d'
        simp only [List.length_cons]
        omega
      | inr d' =>
        unfold stepO at hs
        split at hs
        · split at hs
          · injection hs with hs; subst hs; simp
          · cases hs
        · cases hs
  have := key (List.range bs.length) []
  simp only [List.length_range, List.length_nil] at this
  unfold rootsQ
  omega
end Go.Proofs.Ytlgikchfddhocaa.AL

/- Plain laws: sorted texts, each once. -/
set_option linter.all false
namespace Go.Proofs.Ytlgikchfddhocaa.AL
open Go Go.Proofs

abbrev Rising (l : List ByteArray) : Prop := l.Pairwise (fun a b => bl a < bl b)
theorem less_eq (a b : ByteArray) : Op.bytesLess a.toList b.toList = decide (bl a < bl b) := by
  rw [bytesLess_eq, Lib.toList_data, Lib.toList_data]
  rfl
/-- Rising lists of the same texts are the same. -/
theorem rising_ext {a b : List ByteArray} (ha : Rising a) (hb : Rising b) (h : ∀ x, x ∈ a ↔ x ∈ b) : a = b := by
  have nd : ∀ {l : List ByteArray}, Rising l → l.Nodup := fun h => List.Pairwise.imp (by rintro x y hxy rfl; exact List.lt_irrefl _ hxy) h
  have hp : a.Perm b := (List.perm_ext_iff_of_nodup (nd ha) (nd hb)).2 h
  refine List.Perm.eq_of_pairwise (le := fun a b => bl a < bl b) (fun x y _ _ h1 h2 => absurd (List.lt_trans h1 h2) (List.lt_irrefl _)) ha hb hp
/-! ### name.Sort -/
def sortQ (l : List ByteArray) : List ByteArray := cmpB (sortB l)
theorem sortQ_rising (l : List ByteArray) : Rising (sortQ l) := cmpB_sorted _ (sortB_sorted l)
theorem sortQ_mem (l : List ByteArray) (x : ByteArray) : x ∈ sortQ l ↔ x ∈ l := by
  unfold sortQ
  rw [cmpB_mem, (sortB_perm l).mem_iff]
theorem sortQ_len (l : List ByteArray) : (sortQ l).length ≤ l.length := by
  have := cmpB_len (sortB l)
  rw [(sortB_perm l).length_eq] at this
  exact this
theorem nsort_eq {l : List ByteArray} (h : l.length ≤ 1000000) : m_name_Sort l = some (sortQ l) := by
  have hs := (sortB_perm l).length_eq
  unfold m_name_Sort m_slices_Sort_string_string m_slices_Compact_string_string cloneM ck
  rw [ap_of (by simp; omega) (by decide)]
  simp only [Option.bind_some, List.nil_append]
  rw [if_pos (by omega)]
  simp only [Option.bind_some]
  rw [if_pos (by omega)]
  rfl
/-! ### The reference's -/
def twB (x : ByteArray) (out : List ByteArray) : List ByteArray := out.takeWhile fun y => decide (bl y < bl x)
def dwB (x : ByteArray) (out : List ByteArray) : List ByteArray := out.dropWhile fun y => decide (bl y < bl x)
def insU (out : List ByteArray) (x : ByteArray) : List ByteArray := match dwB x out with
  | [] => twB x out ++ [x]
  | b :: B => if b = x then out else twB x out ++ x :: b :: B
theorem tw_dw (x : ByteArray) (out : List ByteArray) : twB x out ++ dwB x out = out := List.takeWhile_append_dropWhile
theorem take_tw (x : ByteArray) (out : List ByteArray) : out.take (twB x out).length = twB x out := by
  have h := tw_dw x out
  generalize twB x out = a at h
  generalize dwB x out = b at h
  subst h
  simp
theorem drop_tw (x : ByteArray) (out : List ByteArray) : out.drop (twB x out).length = dwB x out := by
  have h := tw_dw x out
  generalize twB x out = a at h
  generalize dwB x out = b at h
  subst h
  simp
theorem tw_lt {x y : ByteArray} {out : List ByteArray} (h : y ∈ twB x out) : bl y < bl x := by
  have := List.all_takeWhile (l := out) (p := fun y => decide (bl y < bl x))
  have := List.all_eq_true.1 this y h
  simpa using this
theorem dw_head {x b : ByteArray} {out B : List ByteArray} (h : dwB x out = b :: B) : ¬ bl b < bl x := by
  induction out with
  | nil => simp [dwB] at h
  | cons a out ih =>
    unfold dwB at h
    rw [List.dropWhile_cons] at h
    split at h
    · exact ih h
    · rename_i ha
      injection h with h1 h2
      subst h1
      simpa using ha
theorem insU_rising {out : List ByteArray} (h : Rising out) (x : ByteArray) : Rising (insU out x) := by
  unfold insU
  have hd := tw_dw x out
  split
  · rename_i hdw
    rw [hdw, List.append_nil] at hd
    refine List.pairwise_append.2 ⟨by rw [hd]; exact h, by simp, fun y hy z hz => ?_⟩
    obtain rfl : z = x := by simpa using hz
    exact tw_lt hy
  · rename_i b B hdw
    split
    · exact h
    · rename_i hne
      rw [hdw] at hd
      have h' := h
      rw [← hd] at h'
      obtain ⟨g1, g2, g3⟩ := List.pairwise_append.1 h'
      have hlt : bl x < bl b := by
        rcases Decidable.em (bl x < bl b) with h | h
        · exact h
        · exact absurd (ba_ext (List.le_antisymm (List.not_lt.1 h) (List.not_lt.1 (dw_head hdw)))) hne
      refine List.pairwise_append.2 ⟨g1, List.pairwise_cons.2 ⟨fun z hz => ?_, g2⟩, fun y hy z hz => ?_⟩
      · rcases List.mem_cons.1 hz with rfl | hz
        · exact hlt
        · exact List.lt_trans hlt ((List.pairwise_cons.1 g2).1 z hz)
      · rcases List.mem_cons.1 hz with rfl | hz
        · exact tw_lt hy
        · exact g3 y hy z hz
theorem insU_mem (out : List ByteArray) (x y : ByteArray) : y ∈ insU out x ↔ y ∈ out ∨ y = x := by
  unfold insU
  have hd := tw_dw x out
  split
  · rename_i hdw
    rw [hdw, List.append_nil] at hd
    rw [hd]
    simp
  · rename_i b B hdw
    rw [hdw] at hd
    split
    · rename_i hbx
      subst hbx
      have hb : b ∈ out := by rw [← hd]; simp
      constructor
      · exact .inl
      · rintro (h | rfl)
        · exact h
        · exact hb
    · generalize twB x out = a at hd
      subst hd
      simp only [List.mem_append, List.mem_cons]
      constructor
      · rintro (h | h | h | h)
        · exact .inl (.inl h)
        · exact .inr h
        · exact .inl (.inr (.inl h))
        · exact .inl (.inr (.inr h))
      · rintro ((h | h | h) | h)
        · exact .inl h
        · exact .inr (.inr (.inl h))
        · exact .inr (.inr (.inr h))
        · exact .inr (.inl h)
theorem insU_len (out : List ByteArray) (x : ByteArray) : (insU out x).length ≤ out.length + 1 := by
  unfold insU
  have hd := tw_dw x out
  have hl := congrArg List.length hd
  rw [List.length_append] at hl
  split
  · rename_i hdw
    rw [hdw] at hl
    simp at hl ⊢
    omega
  · rename_i b B hdw
    rw [hdw] at hl
    split
    · omega
    · simp at hl ⊢
      omega
def sortU (l : List ByteArray) : List ByteArray := l.foldl insU []
theorem sortU_prop : ∀ (l out : List ByteArray), Rising out → Rising (l.foldl insU out) ∧ ∀ y, y ∈ l.foldl insU out ↔ y ∈ out ∨ y ∈ l
  | [], out, h => ⟨h, fun y => by simp⟩
  | x :: l, out, h => by
    obtain ⟨h1, h2⟩ := sortU_prop l (insU out x) (insU_rising h x)
    refine ⟨h1, fun y => ?_⟩
    rw [List.foldl_cons, h2, insU_mem, List.mem_cons]
    constructor
    · rintro ((h | h) | h)
      · exact .inl h
      · exact .inr (.inl h)
      · exact .inr (.inr h)
    · rintro (h | h | h)
      · exact .inl (.inl h)
      · exact .inl (.inr h)
      · exact .inr h
theorem sortU_rising (l : List ByteArray) : Rising (sortU l) := (sortU_prop l [] .nil).1
theorem sortU_mem (l : List ByteArray) (x : ByteArray) : x ∈ sortU l ↔ x ∈ l := by
  unfold sortU
  rw [(sortU_prop l [] .nil).2]
  simp
theorem sortU_sortQ (l : List ByteArray) : sortU l = sortQ l := rising_ext (sortU_rising l) (sortQ_rising l) fun x => by rw [sortU_mem, sortQ_mem]
/-- The place. -/
theorem tw_at {x : ByteArray} : ∀ {l : List ByteArray} {j : Nat}, j ≤ l.length → (∀ q (h : q < l.length), q < j → bl l[q] < bl x) → (∀ h : j < l.length, ¬ bl l[j] < bl x) → (twB x l).length = j
  | [], j, hj, _, _ => by simp at hj; subst hj; rfl
  | a :: l, 0, hj, h1, h2 => by
    unfold twB
    rw [List.takeWhile_cons, if_neg]
    · rfl
    · have := h2 (by simp)
      simpa using this
  | a :: l, j + 1, hj, h1, h2 => by
    have ha : bl a < bl x := h1 0 (by simp) (by omega)
    have := tw_at (l := l) (j := j) (x := x) (by simpa using hj) (fun q h hq => h1 (q + 1) (by simpa using h) (by omega)) (fun h => h2 (by simpa using h))
    unfold twB at this ⊢
    rw [List.takeWhile_cons, if_pos (by simpa using ha), List.length_cons, this]
theorem pos_eq {a0 v3 : List ByteArray} {i : Nat} (hi : i < a0.length) (hv : v3.length ≤ 1000000) : iter (m_ref03_Sort_b1 a0 v3 (i : Int)) big 0 = some (((twB a0[i] v3).length : Nat) : Int) := by
  obtain ⟨r, h1, h2⟩ := iter_term (B := m_ref03_Sort_b1 a0 v3 (i : Int)) (R := fun r => r = (((twB a0[i] v3).length : Nat) : Int)) (fun j t => t = (j : Int) ∧ j ≤ v3.length ∧ ∀ q (h : q < v3.length), q < j → bl v3[q] < bl a0[i]) v3.length (by
    rintro j t ⟨rfl, hj, hq⟩
    refine ⟨hj, ?_⟩
    simp only [m_ref03_Sort_b1]
    by_cases hlt : j < v3.length
    · rw [if_pos (by omega), ix_at hlt, ix_at hi]
      simp only [Option.bind_some]
      rw [less_eq]
      by_cases hl : bl v3[j] < bl a0[i]
      · rw [if_pos (by simpa using hl), wr_suc (by omega)]
        refine .inl ⟨_, rfl, rfl, by omega, fun q h hqj => ?_⟩
        by_cases e : q = j
        · subst e; exact hl
        · exact hq q h (by omega)
      · rw [if_neg (by simpa using hl)]
        exact .inr ⟨_, rfl, by rw [tw_at hj hq (fun _ => hl)]⟩
    · rw [if_neg (by omega)]
      exact .inr ⟨_, rfl, by rw [tw_at hj hq (fun h => absurd h hlt)]⟩) big 0 0 ⟨rfl, by omega, fun q h hq => by omega⟩ (by rw [big_eq]; omega)
  rw [h1, h2]
theorem shift_eq {v3 : List ByteArray} {k : Nat} (hk : k ≤ v3.length) (hv : v3.length ≤ 1000000) {B : (Int × List ByteArray) → Option (St (Int × List ByteArray) (List ByteArray))}
    (hB : ∀ j L, B (j, L) = if (k : Int) < j then (ix L (wr (j - 1))).bind fun a => (ix L j).bind fun _ => some (.nx ((wr (j - 1)), (L.set (j).toNat a))) else some (.out L)) :
    ∃ z, iter B big ((wr (((v3 ++ ([noBytes] : List ByteArray)).length : Int) - 1)), (v3 ++ ([noBytes] : List ByteArray))) = some (v3.take k ++ z :: v3.drop k) := by
  obtain ⟨r, h1, z, h2⟩ := iter_term (B := B) (R := fun r => ∃ z, r = v3.take k ++ z :: v3.drop k) (fun i t => i ≤ v3.length - k ∧ ∃ z, t = (((v3.length - i : Nat) : Int), v3.take (v3.length - i) ++ z :: v3.drop (v3.length - i))) v3.length (by
    rintro i t ⟨hi, z, rfl⟩
    refine ⟨by omega, ?_⟩
    rw [hB]
    by_cases hlt : k < v3.length - i
    · obtain ⟨j, hj⟩ : ∃ j, v3.length - i = j + 1 := ⟨v3.length - i - 1, by omega⟩
      rw [hj]
      have hjl : j < v3.length := by omega
      rw [if_pos (by omega), wr_in (by omega) (by omega)]
      have e1 : ((j + 1 : Nat) : Int) - 1 = (j : Int) := by omega
      rw [e1]
      have hlen : (v3.take (j + 1) ++ z :: v3.drop (j + 1)).length = v3.length + 1 := by simp; omega
      rw [ix_at (by omega), ix_at (by omega)]
      simp only [Option.bind_some]
      refine .inl ⟨_, rfl, by omega, v3[j], ?_⟩
      have e2 : v3.length - (i + 1) = j := by omega
      rw [e2]
      congr 1
      have e3 : (v3.take (j + 1) ++ z :: v3.drop (j + 1))[j]'(by omega) = v3[j] := by
        rw [List.getElem_append_left (by simp; omega)]
        simp
      rw [e3]
      have e4 : ((j + 1 : Nat) : Int).toNat = j + 1 := by omega
      rw [e4, List.set_append_right _ _ (by simp; omega)]
      have e5 : j + 1 - (v3.take (j + 1)).length = 0 := by simp; omega
      rw [e5, List.set_cons_zero, List.take_succ_eq_append_getElem hjl, List.append_assoc]
      congr 1
      rw [List.drop_eq_getElem_cons hjl]
      rfl
    · rw [if_neg (by omega)]
      have e : v3.length - i = k := by omega
      rw [e]
      exact .inr ⟨_, rfl, z, rfl⟩) big 0 ((wr (((v3 ++ ([noBytes] : List ByteArray)).length : Int) - 1)), (v3 ++ ([noBytes] : List ByteArray))) ⟨Nat.zero_le _, noBytes, by
        simp only [Nat.sub_zero, List.take_length, List.drop_length]
        rw [wr_in (by simp <;> omega) (by simp <;> omega)]
        congr 1
        first | done | simp⟩ (by rw [big_eq]; omega)
  exact ⟨z, by rw [h1, h2]⟩
theorem set_mid (a b : List ByteArray) (z x : ByteArray) (k : Nat) (h : a.length = k) : (a ++ z :: b).set k x = a ++ x :: b := by
  subst h
  rw [List.set_append_right _ _ (Nat.le_refl _), Nat.sub_self, List.set_cons_zero]
theorem rsort_eq {l : List ByteArray} (h : l.length ≤ 100000) : m_ref03_Sort l = some (sortU l) := by
  unfold m_ref03_Sort
  have := iter_fold (B := m_ref03_Sort_b0 l) (fun i d => (d, (i : Int))) l insU (fun d => d) (fun i d => d.length ≤ i) (by
    intro i d hi hd
    refine ⟨?_, by have := insU_len d l[i]; omega⟩
    simp only [m_ref03_Sort_b0]
    rw [if_pos (by omega), pos_eq hi (by omega)]
    simp only [Option.bind_some]
    have hdl := congrArg List.length (tw_dw l[i] d)
    rw [List.length_append] at hdl
    have hd1 := drop_tw l[i] d
    have hd2 := take_tw l[i] d
    generalize hk : (twB l[i] d).length = k at *
    cases hdw : dwB l[i] d with
    | nil =>
      rw [hdw] at hdl hd1
      simp only [List.length_nil] at hdl
      rw [if_neg (by omega), ap_of (by simp; omega) (by decide)]
      simp only [Option.bind_some]
      obtain ⟨z, hz⟩ := shift_eq (v3 := d) (k := k) (by omega) (by omega) (B := m_ref03_Sort_b3 (k : Int)) (fun j L => rfl)
      rw [hz]
      simp only [Option.bind_some]
      have hlen : (d.take k ++ z :: d.drop k).length = d.length + 1 := by simp; omega
      rw [ix_at hi]
      simp only [Option.bind_some]
      rw [ix_at (by omega)]
      simp only [Option.bind_some]
      rw [wr_suc (by omega)]
      have e4 : ((k : Nat) : Int).toNat = k := by omega
      rw [e4, set_mid _ _ _ _ k (by simp; omega), hd1, hd2]
      have : insU d l[i] = twB l[i] d ++ [l[i]] := by unfold insU; rw [hdw]
      rw [this]
    | cons b B =>
      rw [hdw] at hdl hd1
      simp only [List.length_cons] at hdl
      have hkd : k < d.length := by omega
      rw [if_pos (by omega), ix_at hkd, ix_at hi]
      simp only [Option.bind_some]
      have hb : d[k] = b := by
        rw [List.drop_eq_getElem_cons hkd] at hd1
        injection hd1
      rw [hb]
      by_cases hbx : b = l[i]
      · rw [if_pos hbx, wr_suc (by omega)]
        have : insU d l[i] = d := by unfold insU; rw [hdw]; exact if_pos hbx
        rw [this]
      · rw [if_neg hbx, ap_of (by simp; omega) (by decide)]
        simp only [Option.bind_some]
        obtain ⟨z, hz⟩ := shift_eq (v3 := d) (k := k) (by omega) (by omega) (B := m_ref03_Sort_b2 (k : Int)) (fun j L => rfl)
        rw [hz]
        simp only [Option.bind_some]
        have hlen : (d.take k ++ z :: d.drop k).length = d.length + 1 := by simp; omega
        rw [ix_at (by omega)]
        simp only [Option.bind_some]
        rw [wr_suc (by omega)]
        have e4 : ((k : Nat) : Int).toNat = k := by omega
        rw [e4, set_mid _ _ _ _ k (by simp; omega), hd1, hd2]
        have : insU d l[i] = twB l[i] d ++ l[i] :: b :: B := by unfold insU; rw [hdw]; exact if_neg hbx
        rw [this]) (by
    intro d hd
    simp only [m_ref03_Sort_b0]
    rw [if_neg (by omega)]) (s0 := []) (Nat.le_refl _) (fuel := big) (by rw [big_eq]; omega)
  have e0 : ((0 : Nat) : Int) = 0 := rfl
  rw [e0] at this
  rw [this.1]
  rfl
/-! ### slices.Equal, IsSorted, Contains -/
theorem equal_str {a b : List ByteArray} (h : a.length ≤ 1000000000) : m_slices_Equal_string_string a b = some (decide (a = b)) := by
  unfold m_slices_Equal_string_string
  by_cases hl : a.length = b.length
  · rw [if_pos (by omega), eqLoop hl h]
    · by_cases he : a = b <;> simp [he]
    · intro i h1 h2
      simp only [m_slices_Equal_string_string_b0]
      rw [if_pos (by omega), ix_at h1, ix_at h2]
      simp only [Option.bind_some]
      rw [wr_suc (by omega)]
    · simp only [m_slices_Equal_string_string_b0]
      rw [if_neg (by omega)]
  · rw [if_neg (by omega)]
    have : ¬ a = b := by rintro rfl; exact hl rfl
    simp [this]
theorem cless_eq (a b : ByteArray) : m_cmp_Less_string a b = some (decide (bl a < bl b)) := by
  unfold m_cmp_Less_string m_cmp_isNaN_string
  simp only [Option.bind_some, Bool.false_eq_true, if_false]
  rw [less_eq]
  by_cases h : bl a < bl b <;> simp [h]
theorem sorted_eq {l : List ByteArray} (h : Rising l) (hl : l.length ≤ 1000000) : m_slices_IsSorted_string_string l = some true := by
  unfold m_slices_IsSorted_string_string
  obtain ⟨r, h1, h2⟩ := iter_term (B := m_slices_IsSorted_string_string_b0 l) (R := fun r => r = .inl ()) (fun i t => i ≤ l.length ∧ t = (l.length : Int) - 1 - (i : Int)) l.length (by
    rintro i t ⟨hi, rfl⟩
    refine ⟨hi, ?_⟩
    simp only [m_slices_IsSorted_string_string_b0]
    by_cases h0 : 0 < (l.length : Int) - 1 - (i : Int)
    · rw [if_pos h0]
      obtain ⟨j, hj⟩ : ∃ j : Nat, (l.length : Int) - 1 - (i : Int) = ((j + 1 : Nat) : Int) := ⟨l.length - 2 - i, by omega⟩
      rw [hj, wr_in (by omega) (by omega)]
      have e1 : ((j + 1 : Nat) : Int) - 1 = (j : Int) := by omega
      rw [e1, ix_at (by omega), ix_at (by omega)]
      simp only [Option.bind_some]
      rw [cless_eq]
      have hlt : bl l[j] < bl l[j + 1] := List.pairwise_iff_getElem.1 h j (j + 1) (by omega) (by omega) (by omega)
      have hn : ¬ bl l[j + 1] < bl l[j] := fun hh => List.lt_irrefl _ (List.lt_trans hlt hh)
      simp only [Option.bind_some]
      rw [decide_eq_false hn, if_neg (by simp)]
      exact .inl ⟨_, rfl, by omega, by omega⟩
    · rw [if_neg h0]
      exact .inr ⟨_, rfl, rfl⟩) big 0 (wr ((l.length : Int) - 1)) ⟨Nat.zero_le _, by rw [wr_in (by omega) (by omega)]; simp⟩ (by rw [big_eq]; omega)
  rw [h1, h2]
  rfl
theorem contains_str {l : List ByteArray} (x : ByteArray) (hl : l.length ≤ 1000000) : ∃ b, m_slices_Contains_string_string l x = some b ∧ (b = true ↔ x ∈ l) := by
  unfold m_slices_Contains_string_string m_slices_Index_string_string
  obtain ⟨r, h1, h2⟩ := iter_term (B := m_slices_Index_string_string_b0 l x) (R := fun r => (r = .inl () ∧ x ∉ l) ∨ ∃ i : Nat, r = .inr (i : Int) ∧ x ∈ l) (fun i t => t = (i : Int) ∧ i ≤ l.length ∧ ∀ q (h : q < l.length), q < i → ¬ x = l[q]) l.length (by
    rintro i t ⟨rfl, hi, hq⟩
    refine ⟨hi, ?_⟩
    simp only [m_slices_Index_string_string_b0]
    by_cases hlt : i < l.length
    · rw [if_pos (by omega), ix_at hlt]
      simp only [Option.bind_some]
      by_cases he : x = l[i]
      · rw [if_pos he]
        exact .inr ⟨_, rfl, .inr ⟨i, rfl, by rw [he]; exact List.getElem_mem hlt⟩⟩
      · rw [if_neg he, wr_suc (by omega)]
        refine .inl ⟨_, rfl, rfl, by omega, fun q h hqi => ?_⟩
        by_cases e : q = i
        · subst e; exact he
        · exact hq q h (by omega)
    · rw [if_neg (by omega)]
      refine .inr ⟨_, rfl, .inl ⟨rfl, fun hm => ?_⟩⟩
      obtain ⟨q, hql, rfl⟩ := List.getElem_of_mem hm
      exact hq q hql (by omega) rfl) big 0 0 ⟨rfl, by omega, fun q h hq => by omega⟩ (by rw [big_eq]; omega)
  rw [h1]
  simp only [Option.bind_some]
  rcases h2 with ⟨rfl, h2⟩ | ⟨i, rfl, h2⟩
  · exact ⟨false, rfl, by simp [h2]⟩
  · simp only [Option.bind_some]
    rw [if_pos (by omega)]
    exact ⟨true, rfl, by simp [h2]⟩
end Go.Proofs.Ytlgikchfddhocaa.AL

/- Plain laws of chapter 16: names, and the two laws. -/
set_option linter.all false
namespace Go.Proofs.Ytlgikchfddhocaa.AL
open Go Go.Proofs

theorem equal_place {a b : List Place} (h : a.length ≤ 1000000000) : m_slices_Equal_api_Place_api_Place a b = some (decide (a = b)) := by
  unfold m_slices_Equal_api_Place_api_Place
  by_cases hl : a.length = b.length
  · rw [if_pos (by omega), eqLoop hl h]
    · by_cases he : a = b <;> simp [he]
    · intro i h1 h2
      simp only [m_slices_Equal_api_Place_api_Place_b0]
      rw [if_pos (by omega), ix_at h1, ix_at h2]
      simp only [Option.bind_some, decide_eq_true_eq]
      rw [wr_suc (by omega)]
    · simp only [m_slices_Equal_api_Place_api_Place_b0]
      rw [if_neg (by omega)]
  · rw [if_neg (by omega)]
    have : ¬ a = b := by rintro rfl; exact hl rfl
    simp [this]
theorem delM_tot {α : Type} {p : α → Option Bool} (f : α → Bool) : ∀ (l : List α), (∀ x ∈ l, p x = some (f x)) → delM p l = some (l.filter fun x => !f x)
  | [], _ => rfl
  | x :: l, h => by
    unfold delM
    rw [h x (by simp), delM_tot f l fun y hy => h y (by simp [hy])]
    simp only [Option.bind_some, List.filter_cons]
    cases f x <;> rfl
/-- A name that tells something. -/
def fndQ (bs : List Branch) (l : List Place) (nm : ByteArray) : Bool := !decide ((findQ bs l nm).1 = 0)
def addQ (bs : List Branch) (p : ByteArray → Bool) (d : List ByteArray) (x : Place) : List ByteArray := if (nodeQ bs x).kind = 1 then d ++ ((nodeQ bs x).entries.map (·.name)).filter p else d
def allQ (bs : List Branch) (p : ByteArray → Bool) (l : List Place) : List ByteArray := l.foldl (addQ bs p) []
theorem allQ_mem (bs : List Branch) (p : ByteArray → Bool) (nm : ByteArray) : ∀ (l : List Place) (d : List ByteArray), nm ∈ l.foldl (addQ bs p) d ↔ nm ∈ d ∨ (p nm = true ∧ ∃ x ∈ l, (nodeQ bs x).kind = 1 ∧ ∃ e ∈ (nodeQ bs x).entries, e.name = nm)
  | [], d => by simp
  | x :: l, d => by
    rw [List.foldl_cons, allQ_mem bs p nm l]
    have h1 : nm ∈ addQ bs p d x ↔ nm ∈ d ∨ (p nm = true ∧ (nodeQ bs x).kind = 1 ∧ ∃ e ∈ (nodeQ bs x).entries, e.name = nm) := by
      unfold addQ
      split
      · rename_i hk
        simp only [List.mem_append, List.mem_filter, List.mem_map, hk, true_and]
        constructor
        · rintro (h | ⟨h1, h2⟩)
          · exact .inl h
          · exact .inr ⟨h2, h1⟩
        · rintro (h | ⟨h1, h2⟩)
          · exact .inl h
          · exact .inr ⟨h2, h1⟩
      · rename_i hk
        simp [hk]
    rw [h1]
    constructor
    · rintro ((h | ⟨h1, h2⟩) | ⟨h1, y, hy, h2⟩)
      · exact .inl h
      · exact .inr ⟨h1, x, by simp, h2⟩
      · exact .inr ⟨h1, y, by simp [hy], h2⟩
    · rintro (h | ⟨g1, y, hy, g2⟩)
      · exact .inl (.inl h)
      · rcases List.mem_cons.1 hy with rfl | hy
        · exact .inl (.inr ⟨g1, g2⟩)
        · exact .inr ⟨g1, y, hy, g2⟩
theorem addQ_len {bs : List Branch} (h : PQ bs) (p : ByteArray → Bool) (d : List ByteArray) (x : Place) : (addQ bs p d x).length ≤ d.length + 16 := by
  unfold addQ
  split
  · have h1 := (nodeQ_nb h x).ents
    have h2 := List.length_filter_le p ((nodeQ bs x).entries.map (·.name))
    simp only [List.length_append, List.length_map] at *
    omega
  · omega
theorem allQ_len {bs : List Branch} (h : PQ bs) (p : ByteArray → Bool) : ∀ (l : List Place) (d : List ByteArray), (l.foldl (addQ bs p) d).length ≤ d.length + 16 * l.length
  | [], d => by simp
  | x :: l, d => by
    have h1 := allQ_len h p l (addQ bs p d x)
    have h2 := addQ_len h p d x
    simp only [List.foldl_cons, List.length_cons]
    omega
def namesQ (bs : List Branch) (l : List Place) : List ByteArray := sortQ (allQ bs (fndQ bs l) l)
/-! ### the program's -/
theorem foldl_snoc (es : List Entry) : ∀ (d : List ByteArray), es.foldl (fun d e => d ++ [e.name]) d = d ++ es.map (·.name) := by
  induction es with
  | nil => intro d; simp
  | cons e es ih => intro d; rw [List.foldl_cons, ih]; simp
theorem gather_eq {n : Node} (h : NB n) {d : List ByteArray} (hd : d.length ≤ 1000000) : iter (m_lower_Names_b1 n) big (d, 0) = some (d ++ n.entries.map (·.name)) := by
  have hn := h.ents
  have := iter_fold (B := m_lower_Names_b1 n) (fun i d => (d, (i : Int))) n.entries (fun d e => d ++ [e.name]) (fun d => d) (fun i d' => d'.length ≤ d.length + i) (by
    intro i d' hi hd'
    simp only [m_lower_Names_b1]
    refine ⟨?_, by simp; omega⟩
    rw [if_pos (by omega), ix_at hi]
    simp only [Option.bind_some]
    rw [ap_of (by simp; omega) (by decide), wr_suc (by omega)]
    rfl) (by
    intro d' hd'
    simp only [m_lower_Names_b1]
    rw [if_neg (by omega)]) (s0 := d) (Nat.le_refl _) (fuel := big) (by rw [big_eq]; omega)
  have e0 : ((0 : Nat) : Int) = 0 := rfl
  rw [e0] at this
  rw [this.1, foldl_snoc]
theorem names1_eq {s : Stack} (h : PQ s.lowers) {l : List Place} (hl : l.length ≤ 1000) (nm : ByteArray) : m_lower_Names_1 nm s l = some (!fndQ s.lowers l nm) := by
  unfold m_lower_Names_1 fndQ
  rw [find_eq h hl]
  simp only [Option.bind_some]
  by_cases hk : (findQ s.lowers l nm).1 = 0 <;> simp [hk]
theorem filter_true (l : List ByteArray) : l.filter (fun _ => true) = l := by simp
theorem names_eq {s : Stack} (h : PQ s.lowers) {l : List Place} (hl : l.length ≤ 1000) : m_lower_Names s l = some (namesQ s.lowers l) := by
  unfold m_lower_Names
  have := iter_fold (B := m_lower_Names_b0 s l) (fun i d => (d, (i : Int))) l (addQ s.lowers fun _ => true) (fun d => d) (fun i d => d.length ≤ 16 * i) (by
    intro i d hi hd
    refine ⟨?_, by have := addQ_len h (fun _ => true) d l[i]; omega⟩
    simp only [m_lower_Names_b0]
    rw [if_pos (by omega), ix_at hi]
    simp only [Option.bind_some]
    rw [pile_eq h, wr_suc (by omega)]
    simp only [Option.bind_some, addQ]
    by_cases hk : (nodeQ s.lowers l[i]).kind = 1
    · rw [if_pos hk, if_pos hk, gather_eq (nodeQ_nb h _) (by omega), filter_true]
      rfl
    · rw [if_neg hk, if_neg hk]) (by
    intro d hd
    simp only [m_lower_Names_b0]
    rw [if_neg (by omega)]) (s0 := []) (Nat.le_refl _) (fuel := big) (by rw [big_eq]; omega)
  have e0 : ((0 : Nat) : Int) = 0 := rfl
  rw [e0] at this
  rw [this.1]
  simp only [Option.bind_some]
  have hlen := allQ_len h (fun _ => true) l []
  simp only [List.length_nil] at hlen
  change (List.length (allQ s.lowers (fun _ => true) l)) ≤ _ at hlen
  change (m_name_Sort (allQ s.lowers (fun _ => true) l)).bind _ = _
  rw [nsort_eq (by omega)]
  simp only [Option.bind_some]
  have hsl := sortQ_len (allQ s.lowers (fun _ => true) l)
  unfold deleteM ck
  rw [if_pos (by omega)]
  simp only [Option.bind_some]
  rw [delM_tot (fun z => !fndQ s.lowers l z) _ fun x _ => names1_eq h hl x]
  simp only [Option.bind_some, Bool.not_not]
  congr 1
  refine rising_ext (List.Pairwise.filter _ (sortQ_rising _)) (sortQ_rising _) fun x => ?_
  unfold namesQ
  rw [List.mem_filter, sortQ_mem, sortQ_mem]
  unfold allQ
  rw [allQ_mem, allQ_mem]
  simp only [List.not_mem_nil, false_or, true_and]
  exact ⟨fun ⟨a, b⟩ => ⟨b, a⟩, fun ⟨a, b⟩ => ⟨b, a⟩⟩
/-! ### the reference's -/
theorem foldl_filt (p : ByteArray → Bool) (es : List Entry) : ∀ (d : List ByteArray), es.foldl (fun d e => if p e.name = true then d ++ [e.name] else d) d = d ++ (es.map (·.name)).filter p := by
  induction es with
  | nil => intro d; simp
  | cons e es ih =>
    intro d
    rw [List.foldl_cons, ih, List.map_cons, List.filter_cons]
    by_cases h : p e.name = true
    · rw [if_pos h, if_pos h]; simp
    · rw [if_neg h, if_neg h]
theorem rgather_eq {s : Stack} (h : PQ s.lowers) {l : List Place} (hl : l.length ≤ 1000) {n : Node} (hn : NB n) {d : List ByteArray} (hd : d.length ≤ 1000000) : iter (m_ref16_Names_b1 s l n) big (d, 0) = some (if n.kind = 1 then d ++ (n.entries.map (·.name)).filter (fndQ s.lowers l) else d) := by
  have hne := hn.ents
  by_cases hk : n.kind = 1
  · rw [if_pos hk]
    have := iter_fold (B := m_ref16_Names_b1 s l n) (fun i d => (d, (i : Int))) n.entries (fun d e => if fndQ s.lowers l e.name = true then d ++ [e.name] else d) (fun d => d) (fun i d' => d'.length ≤ d.length + i) (by
      intro i d' hi hd'
      simp only [m_ref16_Names_b1]
      rw [if_pos (by omega), if_pos hk, ix_at hi]
      simp only [Option.bind_some]
      rw [rfind_eq h hl, wr_suc (by omega)]
      simp only [Option.bind_some]
      by_cases hf : (findQ s.lowers l n.entries[i].name).1 = 0
      · have : ¬ fndQ s.lowers l n.entries[i].name = true := by simp [fndQ, hf]
        rw [if_pos hf, if_neg this]
        exact ⟨rfl, by omega⟩
      · have : fndQ s.lowers l n.entries[i].name = true := by simp [fndQ, hf]
        rw [if_neg hf, if_pos this, ap_of (by simp; omega) (by decide)]
        exact ⟨rfl, by simp; omega⟩) (by
      intro d' hd'
      simp only [m_ref16_Names_b1]
      rw [if_neg (by omega)]) (s0 := d) (Nat.le_refl _) (fuel := big) (by rw [big_eq]; omega)
    have e0 : ((0 : Nat) : Int) = 0 := rfl
    rw [e0] at this
    rw [this.1, foldl_filt]
  · rw [if_neg hk, show big = 999999999999999999 + 1 from rfl, iter_succ]
    simp only [m_ref16_Names_b1]
    split <;> rfl
theorem rnames_eq {s : Stack} (h : PQ s.lowers) {l : List Place} (hl : l.length ≤ 1000) : m_ref16_Names s l = some (namesQ s.lowers l) := by
  unfold m_ref16_Names
  have := iter_fold (B := m_ref16_Names_b0 s l) (fun i d => (d, (i : Int))) l (addQ s.lowers (fndQ s.lowers l)) (fun d => d) (fun i d => d.length ≤ 16 * i) (by
    intro i d hi hd
    refine ⟨?_, by have := addQ_len h (fndQ s.lowers l) d l[i]; omega⟩
    simp only [m_ref16_Names_b0]
    rw [if_pos (by omega), ix_at hi]
    simp only [Option.bind_some]
    rw [lowerQ h, wr_suc (by omega)]
    simp only [Option.bind_some, addQ]
    rw [rgather_eq h hl (nodeQ_nb h _) (by omega)]
    rfl) (by
    intro d hd
    simp only [m_ref16_Names_b0]
    rw [if_neg (by omega)]) (s0 := []) (Nat.le_refl _) (fuel := big) (by rw [big_eq]; omega)
  have e0 : ((0 : Nat) : Int) = 0 := rfl
  rw [e0] at this
  rw [this.1]
  simp only [Option.bind_some]
  have hlen := allQ_len h (fndQ s.lowers l) l []
  simp only [List.length_nil] at hlen
  change (List.length (allQ s.lowers (fndQ s.lowers l) l)) ≤ _ at hlen
  change (m_ref03_Sort (allQ s.lowers (fndQ s.lowers l) l)).bind _ = _
  rw [rsort_eq (by omega), sortU_sortQ]
  rfl
theorem namesQ_len {bs : List Branch} (h : PQ bs) (l : List Place) : (namesQ bs l).length ≤ 16 * l.length := by
  have h1 := sortQ_len (allQ bs (fndQ bs l) l)
  have h2 := allQ_len h (fndQ bs l) l []
  simp only [List.length_nil] at h2
  unfold namesQ
  unfold allQ at *
  omega
theorem namesQ_mem {bs : List Branch} (l : List Place) (nm : ByteArray) : nm ∈ namesQ bs l ↔ ¬ (findQ bs l nm).1 = 0 := by
  unfold namesQ
  rw [sortQ_mem]
  unfold allQ
  rw [allQ_mem]
  simp only [List.not_mem_nil, false_or]
  constructor
  · rintro ⟨h, _⟩
    simpa [fndQ] using h
  · intro h
    refine ⟨by simp [fndQ, h], ?_⟩
    obtain ⟨x, hx, p, hp⟩ := findQ_some h
    obtain ⟨_, _, h3, h4⟩ := entQ_some hp
    exact ⟨x, hx, h3, h4⟩
/-! ### The laws -/
theorem awake16 : m_law16_awake = some true := by kernel_rfl
theorem SB.pq {s : Stack} (h : SB s) : PQ s.lowers := ⟨h.low, fun b hb => h.lows b hb⟩
theorem law_lowerTells (s : Stack) (l : List Place) (nms : List ByteArray) : m_law16_LowerTells s l nms = some true := by
  unfold m_law16_LowerTells
  obtain ⟨r, h1, h2⟩ := stack_tot s
  rw [h1]
  simp only [Option.bind_some]
  cases r with
  | false => rw [if_pos (by simp), awake16]; rfl
  | true =>
    rw [if_neg (by simp)]
    have hp := (h2 rfl).pq
    by_cases hl : 8 < (l.length : Int)
    · rw [if_pos hl, awake16]; rfl
    rw [if_neg hl]
    by_cases hn : 8 < (nms.length : Int)
    · rw [if_pos hn, awake16]; rfl
    rw [if_neg hn]
    obtain ⟨r, g1, g2⟩ := iter_term (B := m_law16_LowerTells_b0 s l nms) (R := fun r => r = .inl ()) (fun i t => t = (i : Int) ∧ i ≤ nms.length) nms.length (by
      rintro i t ⟨rfl, hi⟩
      refine ⟨hi, ?_⟩
      simp only [m_law16_LowerTells_b0]
      by_cases hlt : i < nms.length
      · rw [if_pos (by omega), ix_at hlt]
        simp only [Option.bind_some]
        rw [find_eq hp (by omega), rfind_eq hp (by omega)]
        simp only [Option.bind_some, if_true]
        have hfl := findQ_len s.lowers l nms[i]
        rw [equal_place (by omega), wr_suc (by omega)]
        exact .inl ⟨_, by simp, rfl, by omega⟩
      · rw [if_neg (by omega)]
        exact .inr ⟨_, rfl, rfl⟩) big 0 0 ⟨rfl, by omega⟩ (by rw [big_eq]; omega)
    subst g2
    rw [g1]
    simp only [Option.bind_some]
    have hll := lookQ_len nms l (bs := s.lowers)
    have hrl := rootsQ_len hp
    have hnl := namesQ_len hp l
    rw [look_eq hp (by omega) (by omega), rlook_eq hp (by omega) (by omega)]
    simp only [Option.bind_some]
    rw [equal_place (by omega), roots_eq hp, rroots_eq hp, names_eq hp (by omega), rnames_eq hp (by omega), awake16]
    simp only [Option.bind_some]
    rw [equal_place (by omega), equal_str (by omega)]
    simp only [Option.bind_some, decide_true, if_true]
    cases (lookQ s.lowers l nms).2 <;> rfl
theorem law_lowerNames (s : Stack) (l : List Place) (nm : ByteArray) : m_law16_LowerNames s l nm = some true := by
  unfold m_law16_LowerNames
  obtain ⟨r, h1, h2⟩ := stack_tot s
  rw [h1]
  simp only [Option.bind_some]
  cases r with
  | false => rw [if_pos (by simp), awake16]; rfl
  | true =>
    rw [if_neg (by simp)]
    have hp := (h2 rfl).pq
    by_cases hl : 8 < (l.length : Int)
    · rw [if_pos hl, awake16]; rfl
    rw [if_neg hl, names_eq hp (by omega)]
    simp only [Option.bind_some]
    have hnl := namesQ_len hp l
    obtain ⟨r, g1, g2⟩ := iter_term (B := m_law16_LowerNames_b0 s l (namesQ s.lowers l)) (R := fun r => r = .inl ()) (fun i t => t = (i : Int) ∧ i ≤ (namesQ s.lowers l).length) (namesQ s.lowers l).length (by
      rintro i t ⟨rfl, hi⟩
      refine ⟨hi, ?_⟩
      simp only [m_law16_LowerNames_b0]
      by_cases hlt : i < (namesQ s.lowers l).length
      · rw [if_pos (by omega), ix_at hlt]
        simp only [Option.bind_some]
        rw [find_eq hp (by omega)]
        simp only [Option.bind_some]
        have hk := (namesQ_mem l _).1 (List.getElem_mem hlt)
        rw [if_neg hk]
        have hs := (findQ_prop s.lowers l (namesQ s.lowers l)[i]).some.resolve_left hk
        rw [if_neg (by omega), wr_suc (by omega)]
        exact .inl ⟨_, rfl, rfl, by omega⟩
      · rw [if_neg (by omega)]
        exact .inr ⟨_, rfl, rfl⟩) big 0 0 ⟨rfl, by omega⟩ (by rw [big_eq]; omega)
    subst g2
    rw [g1]
    simp only [Option.bind_some]
    rw [find_eq hp (by omega)]
    simp only [Option.bind_some]
    obtain ⟨b, c1, c2⟩ := contains_str (l := namesQ s.lowers l) nm (by omega)
    rw [c1, sorted_eq (show Rising (namesQ s.lowers l) from sortQ_rising _) (by omega), awake16]
    simp only [Option.bind_some, if_true]
    have hq := findQ_prop s.lowers l nm
    rw [namesQ_mem] at c2
    by_cases hk : (findQ s.lowers l nm).1 = 0
    · have hb : ¬ b = true := fun h => (c2.1 h) hk
      have hnil := hq.nil hk
      rw [if_pos hk, if_neg hb, hnil, hk]
      simp
    · have hb : b = true := c2.2 hk
      have hs := hq.some.resolve_left hk
      rw [if_neg hk, if_pos hb, if_pos (by omega)]
      by_cases h2' : (findQ s.lowers l nm).1 = 2
      · have h1' := hq.one (by omega)
        rw [if_pos h2', if_pos (by omega)]
      · rw [if_neg h2']
theorem ok_lowerTells (s : Stack) (l : List Place) (nms : List ByteArray) : Ok Try.prog 6 [encStack s, .sl 2 (l.map encPlace), .sl 1 (nms.map str)] (bool true) := ok_law16_LowerTells s l nms true (law_lowerTells s l nms)
theorem ok_lowerNames (s : Stack) (l : List Place) (nm : ByteArray) : Ok Try.prog 7 [encStack s, .sl 2 (l.map encPlace), str nm] (bool true) := ok_law16_LowerNames s l nm true (law_lowerNames s l nm)
end Go.Proofs.Ytlgikchfddhocaa.AL

/- What any name, and any names, tell beneath any places of any stack, and all names there, are what the document says: for every stack, every list of places and every list of names. -/
namespace Go.Proofs.Ytlgikchfddhocaa
theorem lowerTells_holds : Rows.LowerTellsSaid := holds_lowerTells_of fun s l n _ _ _ => AL.ok_lowerTells s l n
#print axioms lowerTells_holds
end Go.Proofs.Ytlgikchfddhocaa

