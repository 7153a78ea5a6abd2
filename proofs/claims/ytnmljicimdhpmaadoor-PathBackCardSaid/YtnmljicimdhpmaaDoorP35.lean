/- A law of the given program is proved: part 35 of 36. -/
import Derived.Laws.RangeAny
import Derived.Lib.SplitLaws
import Derived.Lib.Join
import Derived.Test.YtnmljicimdhpmaaDoorP34
set_option linter.all false
/- Models of functions, and that the functions are as their models: written by gen.py. -/
set_option linter.all false
set_option maxRecDepth 100000
namespace Go.Proofs.YtnmljicimdhpmaaDoor.AL
open Go Go.Proofs
def m_ref03_letter (a0 : Int) : Option (Bool) := if 97 ≤ a0 then if a0 ≤ 122 then some true
 else if 48 ≤ a0 then if a0 ≤ 57 then some true
 else if a0 = 46 then some true
 else if a0 = 95 then some true
 else if a0 = 45 then some true
 else some false
 else if a0 = 46 then some true
 else if a0 = 95 then some true
 else if a0 = 45 then some true
 else some false
 else if 48 ≤ a0 then if a0 ≤ 57 then some true
 else if a0 = 46 then some true
 else if a0 = 95 then some true
 else if a0 = 45 then some true
 else some false
 else if a0 = 46 then some true
 else if a0 = 95 then some true
 else if a0 = 45 then some true
 else some false
def Y_ref03_letter := And.intro ((@EV)) ((@R5))
set_option maxHeartbeats 2000000 in
theorem ok_ref03_letter (a0 : Int) (r : Bool) (hm0 : m_ref03_letter a0 = some r) : Ok Tryd.prog 32 [ik .u8 a0] (bool r) := by
 unfold m_ref03_letter at hm0
 refine okG fc_ref03_letter ?_
 unfold c_ref03_letter
 rcases iteE hm0 with ⟨e2, hm0⟩ | ⟨e2, hm0⟩
 · rcases iteE hm0 with ⟨e4, hm0⟩ | ⟨e4, hm0⟩
   · obtain rfl := Option.some.inj hm0
     simp only [e2, e4, Y_ref03_letter, ↓EVd, isCall, sevalprocAttr]
     all_goals first | done | rfl
   rcases iteE hm0 with ⟨e6, hm0⟩ | ⟨e6, hm0⟩
   · rcases iteE hm0 with ⟨e8, hm0⟩ | ⟨e8, hm0⟩
     · obtain rfl := Option.some.inj hm0
       simp only [e2, e4, e6, e8, Y_ref03_letter, ↓EVd, isCall, sevalprocAttr]
       all_goals first | done | rfl
     rcases iteE hm0 with ⟨e10, hm0⟩ | ⟨e10, hm0⟩
     · obtain rfl := Option.some.inj hm0
       simp only [e2, e4, e6, e8, e10, Y_ref03_letter, ↓EVd, isCall, sevalprocAttr]
       all_goals first | done | rfl
     rcases iteE hm0 with ⟨e12, hm0⟩ | ⟨e12, hm0⟩
     · obtain rfl := Option.some.inj hm0
       simp only [e2, e4, e6, e8, e10, e12, Y_ref03_letter, ↓EVd, isCall, sevalprocAttr]
       all_goals first | done | rfl
     rcases iteE hm0 with ⟨e14, hm0⟩ | ⟨e14, hm0⟩
     · obtain rfl := Option.some.inj hm0
       simp only [e2, e4, e6, e8, e10, e12, e14, Y_ref03_letter, ↓EVd, isCall, sevalprocAttr]
       all_goals first | done | rfl
     obtain rfl := Option.some.inj hm0
     simp only [e2, e4, e6, e8, e10, e12, e14, Y_ref03_letter, ↓EVd, isCall, sevalprocAttr]
     all_goals first | done | rfl
   rcases iteE hm0 with ⟨e16, hm0⟩ | ⟨e16, hm0⟩
   · obtain rfl := Option.some.inj hm0
     simp only [e2, e4, e6, e16, Y_ref03_letter, ↓EVd, isCall, sevalprocAttr]
     all_goals first | done | rfl
   rcases iteE hm0 with ⟨e18, hm0⟩ | ⟨e18, hm0⟩
   · obtain rfl := Option.some.inj hm0
     simp only [e2, e4, e6, e16, e18, Y_ref03_letter, ↓EVd, isCall, sevalprocAttr]
     all_goals first | done | rfl
   rcases iteE hm0 with ⟨e20, hm0⟩ | ⟨e20, hm0⟩
   · obtain rfl := Option.some.inj hm0
     simp only [e2, e4, e6, e16, e18, e20, Y_ref03_letter, ↓EVd, isCall, sevalprocAttr]
     all_goals first | done | rfl
   obtain rfl := Option.some.inj hm0
   simp only [e2, e4, e6, e16, e18, e20, Y_ref03_letter, ↓EVd, isCall, sevalprocAttr]
   all_goals first | done | rfl
 rcases iteE hm0 with ⟨e22, hm0⟩ | ⟨e22, hm0⟩
 · rcases iteE hm0 with ⟨e24, hm0⟩ | ⟨e24, hm0⟩
   · obtain rfl := Option.some.inj hm0
     simp only [e2, e22, e24, Y_ref03_letter, ↓EVd, isCall, sevalprocAttr]
     all_goals first | done | rfl
   rcases iteE hm0 with ⟨e26, hm0⟩ | ⟨e26, hm0⟩
   · obtain rfl := Option.some.inj hm0
     simp only [e2, e22, e24, e26, Y_ref03_letter, ↓EVd, isCall, sevalprocAttr]
     all_goals first | done | rfl
   rcases iteE hm0 with ⟨e28, hm0⟩ | ⟨e28, hm0⟩
   · obtain rfl := Option.some.inj hm0
     simp only [e2, e22, e24, e26, e28, Y_ref03_letter, ↓EVd, isCall, sevalprocAttr]
     all_goals first | done | rfl
   rcases iteE hm0 with ⟨e30, hm0⟩ | ⟨e30, hm0⟩
   · obtain rfl := Option.some.inj hm0
     simp only [e2, e22, e24, e26, e28, e30, Y_ref03_letter, ↓EVd, isCall, sevalprocAttr]
     all_goals first | done | rfl
   obtain rfl := Option.some.inj hm0
   simp only [e2, e22, e24, e26, e28, e30, Y_ref03_letter, ↓EVd, isCall, sevalprocAttr]
   all_goals first | done | rfl
 rcases iteE hm0 with ⟨e32, hm0⟩ | ⟨e32, hm0⟩
 · obtain rfl := Option.some.inj hm0
   simp only [e2, e22, e32, Y_ref03_letter, ↓EVd, isCall, sevalprocAttr]
   all_goals first | done | rfl
 rcases iteE hm0 with ⟨e34, hm0⟩ | ⟨e34, hm0⟩
 · obtain rfl := Option.some.inj hm0
   simp only [e2, e22, e32, e34, Y_ref03_letter, ↓EVd, isCall, sevalprocAttr]
   all_goals first | done | rfl
 rcases iteE hm0 with ⟨e36, hm0⟩ | ⟨e36, hm0⟩
 · obtain rfl := Option.some.inj hm0
   simp only [e2, e22, e32, e34, e36, Y_ref03_letter, ↓EVd, isCall, sevalprocAttr]
   all_goals first | done | rfl
 obtain rfl := Option.some.inj hm0
 simp only [e2, e22, e32, e34, e36, Y_ref03_letter, ↓EVd, isCall, sevalprocAttr]
 all_goals first | done | rfl
def m_ref03_Right_b0 (a0 : ByteArray) : Int → Option (St (Int) ((Unit) ⊕ (Bool)))
 | v10 => if v10 < (a0.size : Int) then (ixB a0 v10).bind fun v14 => (m_ref03_letter (v14.toNat : Int)).bind fun v17 => if (!v17) = true then some (.out (.inr false))
 else some (.nx (wr (v10 + 1)))
 else some (.out (.inl ()))
def m_ref03_Right (a0 : ByteArray) : Option (Bool) := if (a0.size : Int) < 1 then some false
 else if 12 < (a0.size : Int) then some false
 else if a0 = (ByteArray.mk #[46]) then some false
 else if a0 = (ByteArray.mk #[46, 46]) then some false
 else (iter (m_ref03_Right_b0 a0) big 0).bind fun o => (match o with
 | (.inl _) => some true
 | (.inr r) => some r)
def Y_ref03_Right := And.intro (And.intro ((@EV)) ((@R3))) (And.intro ((@R5)) ((@R9)))
set_option maxHeartbeats 2000000 in
theorem ok_ref03_Right (a0 : ByteArray) (r : Bool) (hm0 : m_ref03_Right a0 = some r) : Ok Tryd.prog 23 [str a0] (bool r) := by
 unfold m_ref03_Right at hm0
 refine okG fc_ref03_Right ?_
 unfold c_ref03_Right
 rcases iteE hm0 with ⟨e2, hm0⟩ | ⟨e2, hm0⟩
 · obtain rfl := Option.some.inj hm0
   simp only [e2, Y_ref03_Right, ↓EVd, isCall, sevalprocAttr]
   all_goals first | done | rfl
 rcases iteE hm0 with ⟨e4, hm0⟩ | ⟨e4, hm0⟩
 · obtain rfl := Option.some.inj hm0
   simp only [e2, e4, Y_ref03_Right, ↓EVd, isCall, sevalprocAttr]
   all_goals first | done | rfl
 rcases iteE hm0 with ⟨e6, hm0⟩ | ⟨e6, hm0⟩
 · obtain rfl := Option.some.inj hm0
   simp only [e2, e4, e6, Y_ref03_Right, ↓EVd, isCall, sevalprocAttr]
   all_goals first | done | rfl
 rcases iteE hm0 with ⟨e8, hm0⟩ | ⟨e8, hm0⟩
 · obtain rfl := Option.some.inj hm0
   simp only [e2, e4, e6, e8, Y_ref03_Right, ↓EVd, isCall, sevalprocAttr]
   all_goals first | done | rfl
 obtain ⟨o0, ho0, hm0⟩ := bsE hm0
 simp only [e2, e4, e6, e8, Y_ref03_Right, ↓EVd, isCall, sevalprocAttr]
 refine cwp_cx 0 (fun s => (.inl ()) = o0) ?_ fun J0_0 hJ0_0 => ?_
 · rintro T0 H0 x11 rfl
   try dsimp only at hm0
   obtain rfl := Option.some.inj hm0
   simp only [e2, e4, e6, e8, Y_ref03_Right, ↓EVd, isCall, sevalprocAttr]
   all_goals first | done | rfl
 refine cwp_lp ho0 (fun v10 s => s.T 0 = str a0 ∧ s.T 3 = int v10) ?_ ?_
 · refine TI.here ⟨?_, ?_⟩
   all_goals try simp only [e2, e4, e6, e8, Y_ref03_Right, ↓EVd, isCall, sevalprocAttr]
   all_goals first | omega | exact lq (by omega) | exact nq (by omega) | rfl | (congr 1; omega)
 rintro I0 v10 T0 H0 x9 st0 kk0 hm1 hI0 hO0
 dsimp only [Lq, Nq] at kk0
 simp only [m_ref03_Right_b0] at hm1
 rcases iteE hm1 with ⟨e13, hm1⟩ | ⟨e13, hm1⟩
 · obtain ⟨v14, e16, hm1⟩ := ixBE hm1
   obtain ⟨v17, h18, hm1⟩ := bsE hm1
   simp only [kk0, e2, e4, e6, e8, e13, e16, Y_ref03_Right, ↓EVd, isCall, sevalprocAttr]
   refine qc (ok_ref03_letter _ _ h18) rfl ?_
   rcases itbE hm1 with ⟨e20, hm1⟩ | ⟨e20, hm1⟩
   · obtain rfl := Option.some.inj hm1
     obtain rfl := hO0 _ rfl
     try dsimp only at hm0
     obtain rfl := Option.some.inj hm0
     simp only [kk0, e2, e4, e6, e8, e13, e16, e20, Y_ref03_Right, ↓EVd, isCall, sevalprocAttr]
     all_goals first | done | rfl
   obtain rfl := Option.some.inj hm1
   simp only [kk0, e2, e4, e6, e8, e13, e16, e20, Y_ref03_Right, ↓EVd, isCall, sevalprocAttr]
   refine TI.here (hI0 _ rfl _ ⟨?_, ?_⟩)
   all_goals try simp only [kk0, e2, e4, e6, e8, e13, e16, e20, Y_ref03_Right, ↓EVd, isCall, sevalprocAttr]
   all_goals first | omega | exact lq (by omega) | exact nq (by omega) | rfl | (congr 1; omega)
 obtain rfl := Option.some.inj hm1
 simp only [kk0, e2, e4, e6, e8, e13, Y_ref03_Right, ↓EVd, isCall, sevalprocAttr]
 refine TI.here (hJ0_0 _ (hO0 _ rfl))
def m_ref04_Join_b0 (a0 : List ByteArray) : (ByteArray × Int) → Option (St (ByteArray × Int) (ByteArray))
 | (v2, v3) => if v3 < (a0.length : Int) then if 0 < v3 then (ck (v2.size + (ByteArray.mk #[47]).size ≤ 9223372036854775807)).bind fun _ => (ix a0 v3).bind fun v12 => (ck ((v2 ++ (ByteArray.mk #[47])).size + v12.size ≤ 9223372036854775807)).bind fun _ => some (.nx (((v2 ++ (ByteArray.mk #[47])) ++ v12), (wr (v3 + 1))))
 else (ix a0 v3).bind fun v17 => (ck (v2.size + v17.size ≤ 9223372036854775807)).bind fun _ => some (.nx ((v2 ++ v17), (wr (v3 + 1))))
 else some (.out v2)
def m_ref04_Join (a0 : List ByteArray) : Option (ByteArray) := (iter (m_ref04_Join_b0 a0) big ((ByteArray.mk #[47]), 0)).bind fun o => (match o with
 | v5 => some v5)
def Y_ref04_Join := And.intro (And.intro ((@EV)) ((@R3))) (And.intro ((@R9)) ((@R22)))
set_option maxHeartbeats 2000000 in
theorem ok_ref04_Join (a0 : List ByteArray) (r : ByteArray) (hm0 : m_ref04_Join a0 = some r) : Ok Tryd.prog 11 [.sl 1 (a0.map str)] (str r) := by
 unfold m_ref04_Join at hm0
 refine okG fc_ref04_Join ?_
 unfold c_ref04_Join
 obtain ⟨o0, ho0, hm0⟩ := bsE hm0
 simp only [Y_ref04_Join, ↓EVd, isCall, sevalprocAttr]
 refine cwp_cx 0 (fun s => ∃ v5 : ByteArray, (s.T 3 = str v5) ∧ v5 = o0) ?_ fun J0_0 hJ0_0 => ?_
 · rintro T0 H0 x4 ⟨v5, kk0_0, rfl⟩
   dsimp only [Lq, Nq] at kk0_0
   try dsimp only at hm0
   obtain rfl := Option.some.inj hm0
   simp only [kk0_0, Y_ref04_Join, ↓EVd, isCall, sevalprocAttr]
   all_goals first | done | rfl
 refine cwp_lp ho0 (fun (v2, v3) s => s.T 0 = .sl 1 (a0.map str) ∧ s.T 3 = str v2 ∧ s.T 4 = int v3) ?_ ?_
 · refine TI.here ⟨?_, ?_, ?_⟩
   all_goals try simp only [Y_ref04_Join, ↓EVd, isCall, sevalprocAttr]
   all_goals first | omega | exact lq (by omega) | exact nq (by omega) | rfl | (congr 1; omega)
 rintro I0 ⟨v2, v3⟩ T0 H0 x1 st0 kk0 hm1 hI0 hO0
 dsimp only [Lq, Nq] at kk0
 simp only [m_ref04_Join_b0] at hm1
 rcases iteE hm1 with ⟨e7, hm1⟩ | ⟨e7, hm1⟩
 · rcases iteE hm1 with ⟨e9, hm1⟩ | ⟨e9, hm1⟩
   · obtain ⟨e11, hm1⟩ := ckE hm1
     obtain ⟨v12, e14, hm1⟩ := ixE str hm1
     obtain ⟨e16, hm1⟩ := ckE hm1
     obtain rfl := Option.some.inj hm1
     simp only [kk0, e7, e9, e11, e14, e16, Y_ref04_Join, ↓EVd, isCall, sevalprocAttr]
     refine TI.here (hI0 _ rfl _ ⟨?_, ?_, ?_⟩)
     all_goals try simp only [kk0, e7, e9, e11, e14, e16, Y_ref04_Join, ↓EVd, isCall, sevalprocAttr]
     all_goals first | omega | exact lq (by omega) | exact nq (by omega) | rfl | (congr 1; omega)
   obtain ⟨v17, e19, hm1⟩ := ixE str hm1
   obtain ⟨e21, hm1⟩ := ckE hm1
   obtain rfl := Option.some.inj hm1
   simp only [kk0, e7, e9, e19, e21, Y_ref04_Join, ↓EVd, isCall, sevalprocAttr]
   refine TI.here (hI0 _ rfl _ ⟨?_, ?_, ?_⟩)
   all_goals try simp only [kk0, e7, e9, e19, e21, Y_ref04_Join, ↓EVd, isCall, sevalprocAttr]
   all_goals first | omega | exact lq (by omega) | exact nq (by omega) | rfl | (congr 1; omega)
 obtain rfl := Option.some.inj hm1
 simp only [kk0, e7, Y_ref04_Join, ↓EVd, isCall, sevalprocAttr]
 refine TI.here (hJ0_0 _ ⟨v2, ?_, hO0 _ rfl⟩)
 all_goals try simp only [kk0, e7, Y_ref04_Join, ↓EVd, isCall, sevalprocAttr]
 all_goals first | omega | exact lq (by omega) | exact nq (by omega) | rfl | (congr 1; omega)
def m_ref04_parts_b0 (a0 : ByteArray) : (List ByteArray × Int) → Option (St (List ByteArray × Int) (List ByteArray))
 | (v3, v4) => if v4 < (a0.size : Int) then (ixB a0 v4).bind fun v10 => if (v10.toNat : Int) = 47 then (ap 16 v3 ([noBytes] : List ByteArray)).bind fun _ => some (.nx ((v3 ++ ([noBytes] : List ByteArray)), (wr (v4 + 1))))
 else (ix v3 (wr ((v3.length : Int) - 1))).bind fun v19 => (strM a0 (some v4) (some (wr (v4 + 1)))).bind fun v22 => (ck (v19.size + v22.size ≤ 9223372036854775807)).bind fun _ => some (.nx ((v3.set ((wr ((v3.length : Int) - 1))).toNat (v19 ++ v22)), (wr (v4 + 1))))
 else some (.out v3)
def m_ref04_parts (a0 : ByteArray) : Option (List ByteArray) := (iter (m_ref04_parts_b0 a0) big (([noBytes] : List ByteArray), 1)).bind fun o => (match o with
 | v7 => some v7)
def Y_ref04_parts := And.intro (And.intro ((@EV)) (And.intro ((@R3)) ((@R5)))) (And.intro ((@R9)) (And.intro ((@R22)) ((@mixed))))
set_option maxHeartbeats 2000000 in
theorem ok_ref04_parts (a0 : ByteArray) (r : List ByteArray) (hm0 : m_ref04_parts a0 = some r) : Ok Tryd.prog 22 [str a0] (.sl 1 (r.map str)) := by
 unfold m_ref04_parts at hm0
 refine okG fc_ref04_parts ?_
 unfold c_ref04_parts
 obtain ⟨o0, ho0, hm0⟩ := bsE hm0
 simp only [Y_ref04_parts, ↓EVd, isCall, sevalprocAttr]
 refine cwp_cx 0 (fun s => ∃ v7 : List ByteArray, ∃ l6 : Nat, (s.T 3 = .msl l6 v7.length ∧ s.H l6 = some (.row 9 1 (v7.map str)) ∧ Lq l6 s.nx) ∧ v7 = o0) ?_ fun J0_0 hJ0_0 => ?_
 · rintro T0 H0 x5 ⟨v7, l6, kk0_0, rfl⟩
   dsimp only [Lq, Nq] at kk0_0
   try dsimp only at hm0
   obtain rfl := Option.some.inj hm0
   simp only [kk0_0, Y_ref04_parts, ↓EVd, isCall, sevalprocAttr]
   all_goals first | done | rfl | exact frzR_e (by simp only [kk0_0, FZ, CLO, Y_ref04_parts, ↓EVd, isCall, sevalprocAttr])
 refine cwp_lp ho0 (fun (v3, v4) s => ∃ l2 : Nat, s.T 0 = str a0 ∧ s.T 3 = .msl l2 v3.length ∧ s.T 4 = int v4 ∧ s.H l2 = some (.row 9 1 (v3.map str)) ∧ Lq l2 s.nx) ?_ ?_
 · refine TI.here ⟨1, ?_, ?_, ?_, ?_, ?_⟩
   all_goals try simp only [Y_ref04_parts, ↓EVd, isCall, sevalprocAttr]
   all_goals first | omega | exact lq (by omega) | exact nq (by omega) | rfl | (congr 1; omega)
 rintro I0 ⟨v3, v4⟩ T0 H0 x1 st0 ⟨l2, kk0⟩ hm1 hI0 hO0
 dsimp only [Lq, Nq] at kk0
 simp only [m_ref04_parts_b0] at hm1
 rcases iteE hm1 with ⟨e9, hm1⟩ | ⟨e9, hm1⟩
 · obtain ⟨v10, e12, hm1⟩ := ixBE hm1
   rcases iteE hm1 with ⟨e14, hm1⟩ | ⟨e14, hm1⟩
   · obtain ⟨e17, hm1⟩ := apE hm1
     try simp only [ZL] at e17
     obtain rfl := Option.some.inj hm1
     simp only [kk0, e9, e12, e14, e17, Y_ref04_parts, ↓EVd, isCall, sevalprocAttr]
     refine TI.here (hI0 _ rfl _ ⟨(x1 + 10), ?_, ?_, ?_, ?_, ?_⟩)
     all_goals try simp only [kk0, e9, e12, e14, e17, Y_ref04_parts, ↓EVd, isCall, sevalprocAttr]
     all_goals first | omega | exact lq (by omega) | exact nq (by omega) | rfl | (congr 1; omega)
   obtain ⟨v19, e21, hm1⟩ := ixE str hm1
   obtain ⟨v22, h23, hm1⟩ := bsE hm1
   have e24 := show evalSlice Tryd.prog 9 (str a0) (some (int v4)) (some (int (wr (v4 + 1)))) none = some (str v22) from str_fact (by kernel_rfl) h23
   obtain ⟨e26, hm1⟩ := ckE hm1
   obtain rfl := Option.some.inj hm1
   simp only [kk0, e9, e12, e14, e21, e24, e26, Y_ref04_parts, ↓EVd, isCall, sevalprocAttr]
   refine TI.here (hI0 _ rfl _ ⟨l2, ?_, ?_, ?_, ?_, ?_⟩)
   all_goals try simp only [kk0, e9, e12, e14, e21, e24, e26, Y_ref04_parts, ↓EVd, isCall, sevalprocAttr]
   all_goals first | omega | exact lq (by omega) | exact nq (by omega) | rfl | (congr 1; omega)
 obtain rfl := Option.some.inj hm1
 simp only [kk0, e9, Y_ref04_parts, ↓EVd, isCall, sevalprocAttr]
 refine TI.here (hJ0_0 _ ⟨v3, l2, ⟨?_, ?_, ?_⟩, hO0 _ rfl⟩)
 all_goals try simp only [kk0, e9, Y_ref04_parts, ↓EVd, isCall, sevalprocAttr]
 all_goals first | omega | exact lq (by omega) | exact nq (by omega) | rfl | (congr 1; omega)
def m_ref04_Split_b0 (v10 : List ByteArray) : Int → Option (St (Int) ((Unit) ⊕ (List ByteArray × Bool)))
 | v13 => if v13 < (v10.length : Int) then (ix v10 v13).bind fun v17 => (m_ref03_Right v17).bind fun v20 => if (!v20) = true then some (.out (.inr ([], false)))
 else some (.nx (wr (v13 + 1)))
 else some (.out (.inl ()))
def m_ref04_Split (a0 : ByteArray) : Option (List ByteArray × Bool) := if a0 = (ByteArray.mk #[47]) then some ([], true)
 else if (a0.size : Int) = 0 then some ([], false)
 else (ixB a0 0).bind fun v5 => if (v5.toNat : Int) = 47 then (m_ref04_parts a0).bind fun v10 => (iter (m_ref04_Split_b0 v10) big 0).bind fun o => (match o with
 | (.inl _) => some (v10, true)
 | (.inr r) => some r)
 else some ([], false)
def Y_ref04_Split := And.intro (And.intro ((@EV)) ((@R3))) (And.intro ((@R5)) (And.intro ((@R9)) ((@R22))))
set_option maxHeartbeats 2000000 in
theorem ok_ref04_Split (a0 : ByteArray) (r : List ByteArray × Bool) (hm0 : m_ref04_Split a0 = some r) : Ok Tryd.prog 8 [str a0] (.tup [.sl 1 (r.1.map str), bool r.2]) := by
 unfold m_ref04_Split at hm0
 refine okG fc_ref04_Split ?_
 unfold c_ref04_Split
 rcases iteE hm0 with ⟨e2, hm0⟩ | ⟨e2, hm0⟩
 · obtain rfl := Option.some.inj hm0
   simp only [e2, Y_ref04_Split, ↓EVd, isCall, sevalprocAttr]
   all_goals first | done | rfl | exact frzR_closed (by simp only [CLO]) | exact frzR_sub (by simp only [CLO]) (Sub.tup (Subs.cons (Sub.nilS _) (Subs.cons (Sub.refl _) (Subs.nil))))
 rcases iteE hm0 with ⟨e4, hm0⟩ | ⟨e4, hm0⟩
 · obtain rfl := Option.some.inj hm0
   simp only [e2, e4, Y_ref04_Split, ↓EVd, isCall, sevalprocAttr]
   all_goals first | done | rfl | exact frzR_closed (by simp only [CLO]) | exact frzR_sub (by simp only [CLO]) (Sub.tup (Subs.cons (Sub.nilS _) (Subs.cons (Sub.refl _) (Subs.nil))))
 obtain ⟨v5, e7, hm0⟩ := ixBE hm0
 try simp only [sevalprocAttr, eq_self, true_and] at e7
 rcases iteE hm0 with ⟨e9, hm0⟩ | ⟨e9, hm0⟩
 · obtain ⟨v10, h11, hm0⟩ := bsE hm0
   simp only [e2, e4, e7, e9, Y_ref04_Split, ↓EVd, isCall, sevalprocAttr]
   refine qc (ok_ref04_parts _ _ h11) rfl ?_
   obtain ⟨o0, ho0, hm0⟩ := bsE hm0
   simp only [e2, e4, e7, e9, Y_ref04_Split, ↓EVd, isCall, sevalprocAttr]
   refine cwp_cx 0 (fun s => (s.T 4 = .sl 1 (v10.map str)) ∧ (.inl ()) = o0) ?_ fun J0_0 hJ0_0 => ?_
   · rintro T0 H0 x14 ⟨kk0_0, rfl⟩
     dsimp only [Lq, Nq] at kk0_0
     try dsimp only at hm0
     obtain rfl := Option.some.inj hm0
     simp only [kk0_0, e2, e4, e7, e9, Y_ref04_Split, ↓EVd, isCall, sevalprocAttr]
     all_goals first | done | rfl | exact frzR_closed (by simp only [CLO]) | exact frzR_sub (by simp only [CLO]) (Sub.tup (Subs.cons (Sub.refl _) (Subs.cons (Sub.refl _) (Subs.nil))))
   refine cwp_lp ho0 (fun v13 s => s.T 4 = .sl 1 (v10.map str) ∧ s.T 5 = int v13) ?_ ?_
   · refine TI.here ⟨?_, ?_⟩
     all_goals try simp only [e2, e4, e7, e9, Y_ref04_Split, ↓EVd, isCall, sevalprocAttr]
     all_goals first | omega | exact lq (by omega) | exact nq (by omega) | rfl | (congr 1; omega)
   rintro I0 v13 T0 H0 x12 st0 kk0 hm1 hI0 hO0
   dsimp only [Lq, Nq] at kk0
   simp only [m_ref04_Split_b0] at hm1
   rcases iteE hm1 with ⟨e16, hm1⟩ | ⟨e16, hm1⟩
   · obtain ⟨v17, e19, hm1⟩ := ixE str hm1
     obtain ⟨v20, h21, hm1⟩ := bsE hm1
     simp only [kk0, e2, e4, e7, e9, e16, e19, Y_ref04_Split, ↓EVd, isCall, sevalprocAttr]
     refine qc (ok_ref03_Right _ _ h21) rfl ?_
     rcases itbE hm1 with ⟨e23, hm1⟩ | ⟨e23, hm1⟩
     · obtain rfl := Option.some.inj hm1
       obtain rfl := hO0 _ rfl
       try dsimp only at hm0
       obtain rfl := Option.some.inj hm0
       simp only [kk0, e2, e4, e7, e9, e16, e19, e23, Y_ref04_Split, ↓EVd, isCall, sevalprocAttr]
       all_goals first | done | rfl | exact frzR_closed (by simp only [CLO]) | exact frzR_sub (by simp only [CLO]) (Sub.tup (Subs.cons (Sub.nilS _) (Subs.cons (Sub.refl _) (Subs.nil))))
     obtain rfl := Option.some.inj hm1
     simp only [kk0, e2, e4, e7, e9, e16, e19, e23, Y_ref04_Split, ↓EVd, isCall, sevalprocAttr]
     refine TI.here (hI0 _ rfl _ ⟨?_, ?_⟩)
     all_goals try simp only [kk0, e2, e4, e7, e9, e16, e19, e23, Y_ref04_Split, ↓EVd, isCall, sevalprocAttr]
     all_goals first | omega | exact lq (by omega) | exact nq (by omega) | rfl | (congr 1; omega)
   obtain rfl := Option.some.inj hm1
   simp only [kk0, e2, e4, e7, e9, e16, Y_ref04_Split, ↓EVd, isCall, sevalprocAttr]
   refine TI.here (hJ0_0 _ ⟨?_, hO0 _ rfl⟩)
   all_goals try simp only [kk0, e2, e4, e7, e9, e16, Y_ref04_Split, ↓EVd, isCall, sevalprocAttr]
   all_goals first | omega | exact lq (by omega) | exact nq (by omega) | rfl | (congr 1; omega)
 obtain rfl := Option.some.inj hm0
 simp only [e2, e4, e7, e9, Y_ref04_Split, ↓EVd, isCall, sevalprocAttr]
 all_goals first | done | rfl | exact frzR_closed (by simp only [CLO]) | exact frzR_sub (by simp only [CLO]) (Sub.tup (Subs.cons (Sub.nilS _) (Subs.cons (Sub.refl _) (Subs.nil))))
def m_ref04_Clean_b0 (v8 : List ByteArray) : (List ByteArray × Int) → Option (St (List ByteArray × Int) ((List ByteArray) ⊕ (ByteArray × Bool)))
 | (v12, v13) => if v13 < (v8.length : Int) then (ix v8 v13).bind fun v19 => if v19 = noBytes then some (.nx (v12, (wr (v13 + 1))))
 else if v19 = (ByteArray.mk #[46]) then some (.nx (v12, (wr (v13 + 1))))
 else if v19 = (ByteArray.mk #[46, 46]) then if (v12.length : Int) = 0 then some (.out (.inr (noBytes, false)))
 else (ck (0 ≤ (wr ((v12.length : Int) - 1)) ∧ (wr ((v12.length : Int) - 1)) ≤ (v12.length : Int))).bind fun _ => some (.nx ((v12.take ((wr ((v12.length : Int) - 1))).toNat), (wr (v13 + 1))))
 else (m_ref03_Right v19).bind fun v33 => if (!v33) = true then some (.out (.inr (noBytes, false)))
 else (ap 16 v12 ([v19] : List ByteArray)).bind fun _ => some (.nx ((v12 ++ ([v19] : List ByteArray)), (wr (v13 + 1))))
 else some (.out (.inl v12))
def m_ref04_Clean (a0 : ByteArray) : Option (ByteArray × Bool) := if (a0.size : Int) = 0 then some (noBytes, false)
 else (ixB a0 0).bind fun v3 => if (v3.toNat : Int) = 47 then (m_ref04_parts a0).bind fun v8 => (iter (m_ref04_Clean_b0 v8) big (([] : List ByteArray), 0)).bind fun o => (match o with
 | (.inl v16) => (m_ref04_Join v16).bind fun v41 => some (v41, true)
 | (.inr r) => some r)
 else some (noBytes, false)
def Y_ref04_Clean := And.intro (And.intro ((@EV)) ((@R3))) (And.intro ((@R5)) (And.intro ((@R9)) ((@R22))))
set_option maxHeartbeats 2000000 in
theorem ok_ref04_Clean (a0 : ByteArray) (r : ByteArray × Bool) (hm0 : m_ref04_Clean a0 = some r) : Ok Tryd.prog 15 [str a0] (.tup [str r.1, bool r.2]) := by
 unfold m_ref04_Clean at hm0
 refine okG fc_ref04_Clean ?_
 unfold c_ref04_Clean
 rcases iteE hm0 with ⟨e2, hm0⟩ | ⟨e2, hm0⟩
 · obtain rfl := Option.some.inj hm0
   simp only [e2, Y_ref04_Clean, ↓EVd, isCall, sevalprocAttr]
   all_goals first | done | rfl | exact frzR_closed (by simp only [CLO]) | exact frzR_sub (by simp only [CLO]) (Sub.tup (Subs.cons (Sub.refl _) (Subs.cons (Sub.refl _) (Subs.nil))))
 obtain ⟨v3, e5, hm0⟩ := ixBE hm0
 try simp only [sevalprocAttr, eq_self, true_and] at e5
 rcases iteE hm0 with ⟨e7, hm0⟩ | ⟨e7, hm0⟩
 · obtain ⟨v8, h9, hm0⟩ := bsE hm0
   simp only [e2, e5, e7, Y_ref04_Clean, ↓EVd, isCall, sevalprocAttr]
   refine qc (ok_ref04_parts _ _ h9) rfl ?_
   obtain ⟨o0, ho0, hm0⟩ := bsE hm0
   simp only [e2, e5, e7, Y_ref04_Clean, ↓EVd, isCall, sevalprocAttr]
   refine cwp_cx 0 (fun s => ∃ v16 : List ByteArray, ∃ l15 : Nat, (s.T 5 = .msl l15 v16.length ∧ s.H l15 = some (.row 9 1 (v16.map str)) ∧ Lq l15 s.nx) ∧ (.inl v16) = o0) ?_ fun J0_0 hJ0_0 => ?_
   · rintro T0 H0 x14 ⟨v16, l15, kk0_0, rfl⟩
     dsimp only [Lq, Nq] at kk0_0
     try dsimp only at hm0
     obtain ⟨v41, h42, hm0⟩ := bsE hm0
     simp only [kk0_0, e2, e5, e7, Y_ref04_Clean, ↓EVd, isCall, sevalprocAttr]
     refine qcb (ok_ref04_Join _ _ h42) rfl (by simp only [kk0_0, e2, e5, e7, FZ, CLO, Y_ref04_Clean, ↓EVd, isCall, sevalprocAttr]) ?_
     obtain rfl := Option.some.inj hm0
     simp only [kk0_0, e2, e5, e7, Y_ref04_Clean, ↓EVd, isCall, sevalprocAttr]
     all_goals first | done | rfl | exact frzR_closed (by simp only [CLO]) | exact frzR_sub (by simp only [CLO]) (Sub.tup (Subs.cons (Sub.refl _) (Subs.cons (Sub.refl _) (Subs.nil))))
   refine cwp_lp ho0 (fun (v12, v13) s => ∃ l11 : Nat, s.T 4 = .sl 1 (v8.map str) ∧ s.T 5 = .msl l11 v12.length ∧ s.T 6 = int v13 ∧ s.H l11 = some (.row 9 1 (v12.map str)) ∧ Lq l11 s.nx) ?_ ?_
   · refine TI.here ⟨13, ?_, ?_, ?_, ?_, ?_⟩
     all_goals try simp only [e2, e5, e7, Y_ref04_Clean, ↓EVd, isCall, sevalprocAttr]
     all_goals first | omega | exact lq (by omega) | exact nq (by omega) | rfl | (congr 1; omega)
   rintro I0 ⟨v12, v13⟩ T0 H0 x10 st0 ⟨l11, kk0⟩ hm1 hI0 hO0
   dsimp only [Lq, Nq] at kk0
   simp only [m_ref04_Clean_b0] at hm1
   rcases iteE hm1 with ⟨e18, hm1⟩ | ⟨e18, hm1⟩
   · obtain ⟨v19, e21, hm1⟩ := ixE str hm1
     rcases iteE hm1 with ⟨e23, hm1⟩ | ⟨e23, hm1⟩
     · obtain rfl := Option.some.inj hm1
       simp only [kk0, e2, e5, e7, e18, e21, e23, Y_ref04_Clean, ↓EVd, isCall, sevalprocAttr]
       refine TI.here (hI0 _ rfl _ ⟨l11, ?_, ?_, ?_, ?_, ?_⟩)
       all_goals try simp only [kk0, e2, e5, e7, e18, e21, e23, Y_ref04_Clean, ↓EVd, isCall, sevalprocAttr]
       all_goals first | omega | exact lq (by omega) | exact nq (by omega) | rfl | (congr 1; omega)
     rcases iteE hm1 with ⟨e25, hm1⟩ | ⟨e25, hm1⟩
     · obtain rfl := Option.some.inj hm1
       simp only [kk0, e2, e5, e7, e18, e21, e23, e25, Y_ref04_Clean, ↓EVd, isCall, sevalprocAttr]
       refine TI.here (hI0 _ rfl _ ⟨l11, ?_, ?_, ?_, ?_, ?_⟩)
       all_goals try simp only [kk0, e2, e5, e7, e18, e21, e23, e25, Y_ref04_Clean, ↓EVd, isCall, sevalprocAttr]
       all_goals first | omega | exact lq (by omega) | exact nq (by omega) | rfl | (congr 1; omega)
     rcases iteE hm1 with ⟨e27, hm1⟩ | ⟨e27, hm1⟩
     · have g43 := And.intro (And.intro (And.intro ((e2)) ((e5))) (And.intro ((e7)) ((e18)))) (And.intro (And.intro ((e21)) ((e23))) (And.intro ((e25)) ((e27))))
       rcases iteE hm1 with ⟨e29, hm1⟩ | ⟨e29, hm1⟩
       · obtain rfl := Option.some.inj hm1
         obtain rfl := hO0 _ rfl
         try dsimp only at hm0
         obtain rfl := Option.some.inj hm0
         simp only [kk0, g43, e29, Y_ref04_Clean, ↓EVd, isCall, sevalprocAttr]
         all_goals first | done | rfl | exact frzR_closed (by simp only [CLO]) | exact frzR_sub (by simp only [CLO]) (Sub.tup (Subs.cons (Sub.refl _) (Subs.cons (Sub.refl _) (Subs.nil))))
       obtain ⟨e31, hm1⟩ := ckE hm1
       have e32 : ∀ l, evalSlice Tryd.prog 22 (.msl l (v12).length) none (some (int (wr ((v12.length : Int) - 1)))) none = some (.msl l ((wr ((v12.length : Int) - 1))).toNat) := slice_cut elemOfT_22 aggN_9 e31
       obtain rfl := Option.some.inj hm1
       simp only [kk0, g43, e29, e31, e32, Y_ref04_Clean, ↓EVd, isCall, sevalprocAttr]
       refine TI.by (Tn.trunc 5 l11 (((wr ((v12.length : Int) - 1))).toNat) 9 1 str v12 (by simp only [kk0, g43, e29, e31, e32, Y_ref04_Clean, ↓EVd, isCall, sevalprocAttr]) (by simp only [kk0, g43, e29, e31, e32, Y_ref04_Clean, ↓EVd, isCall, sevalprocAttr]) (by have := e31; omega)) ?_
       refine TI.here (hI0 _ rfl _ ⟨l11, ?_, ?_, ?_, ?_, ?_⟩)
       all_goals try simp only [kk0, g43, e29, e31, e32, Y_ref04_Clean, ↓EVd, isCall, sevalprocAttr]
       all_goals first | omega | exact lq (by omega) | exact nq (by omega) | rfl | (congr 1; omega)
     have g44 := And.intro (And.intro (And.intro ((e2)) ((e5))) (And.intro ((e7)) ((e18)))) (And.intro (And.intro ((e21)) ((e23))) (And.intro ((e25)) ((e27))))
     obtain ⟨v33, h34, hm1⟩ := bsE hm1
     simp only [kk0, g44, Y_ref04_Clean, ↓EVd, isCall, sevalprocAttr]
     refine qc (ok_ref03_Right _ _ h34) rfl ?_
     rcases itbE hm1 with ⟨e36, hm1⟩ | ⟨e36, hm1⟩
     · obtain rfl := Option.some.inj hm1
       obtain rfl := hO0 _ rfl
       try dsimp only at hm0
       obtain rfl := Option.some.inj hm0
       simp only [kk0, g44, e36, Y_ref04_Clean, ↓EVd, isCall, sevalprocAttr]
       all_goals first | done | rfl | exact frzR_closed (by simp only [CLO]) | exact frzR_sub (by simp only [CLO]) (Sub.tup (Subs.cons (Sub.refl _) (Subs.cons (Sub.refl _) (Subs.nil))))
     obtain ⟨e39, hm1⟩ := apE hm1
     try simp only [ZL] at e39
     obtain rfl := Option.some.inj hm1
     simp only [kk0, g44, e36, e39, Y_ref04_Clean, ↓EVd, isCall, sevalprocAttr]
     refine TI.here (hI0 _ rfl _ ⟨(x10 + 33), ?_, ?_, ?_, ?_, ?_⟩)
     all_goals try simp only [kk0, g44, e36, e39, Y_ref04_Clean, ↓EVd, isCall, sevalprocAttr]
     all_goals first | omega | exact lq (by omega) | exact nq (by omega) | rfl | (congr 1; omega)
   obtain rfl := Option.some.inj hm1
   simp only [kk0, e2, e5, e7, e18, Y_ref04_Clean, ↓EVd, isCall, sevalprocAttr]
   refine TI.here (hJ0_0 _ ⟨v12, l11, ⟨?_, ?_, ?_⟩, hO0 _ rfl⟩)
   all_goals try simp only [kk0, e2, e5, e7, e18, Y_ref04_Clean, ↓EVd, isCall, sevalprocAttr]
   all_goals first | omega | exact lq (by omega) | exact nq (by omega) | rfl | (congr 1; omega)
 obtain rfl := Option.some.inj hm0
 simp only [e2, e5, e7, Y_ref04_Clean, ↓EVd, isCall, sevalprocAttr]
 all_goals first | done | rfl | exact frzR_closed (by simp only [CLO]) | exact frzR_sub (by simp only [CLO]) (Sub.tup (Subs.cons (Sub.refl _) (Subs.cons (Sub.refl _) (Subs.nil))))
def m_ref04_Redirect (a0 : ByteArray) : Option (List ByteArray × Bool × Bool) := if 24 < (a0.size : Int) then some ([], false, false)
 else if 0 < (a0.size : Int) then (ixB a0 0).bind fun v5 => if (v5.toNat : Int) = 47 then (m_ref04_Split a0).bind fun v10 => some (v10.1, v10.2, v10.2)
 else (m_ref03_Right a0).bind fun v12 => if v12 = true then some (([a0] : List ByteArray), false, true)
 else some ([], false, false)
 else (m_ref03_Right a0).bind fun v16 => if v16 = true then some (([a0] : List ByteArray), false, true)
 else some ([], false, false)
def Y_ref04_Redirect := And.intro (And.intro ((@EV)) ((@R3))) (And.intro ((@R5)) (And.intro ((@R9)) ((@R22))))
set_option maxHeartbeats 2000000 in
theorem ok_ref04_Redirect (a0 : ByteArray) (r : List ByteArray × Bool × Bool) (hm0 : m_ref04_Redirect a0 = some r) : Ok Tryd.prog 17 [str a0] (.tup [.sl 1 (r.1.map str), bool r.2.1, bool r.2.2]) := by
 unfold m_ref04_Redirect at hm0
 refine okG fc_ref04_Redirect ?_
 unfold c_ref04_Redirect
 rcases iteE hm0 with ⟨e2, hm0⟩ | ⟨e2, hm0⟩
 · obtain rfl := Option.some.inj hm0
   simp only [e2, Y_ref04_Redirect, ↓EVd, isCall, sevalprocAttr]
   all_goals first | done | rfl | exact frzR_closed (by simp only [CLO]) | exact frzR_sub (by simp only [CLO]) (Sub.tup (Subs.cons (Sub.nilS _) (Subs.cons (Sub.refl _) (Subs.cons (Sub.refl _) (Subs.nil)))))
 rcases iteE hm0 with ⟨e4, hm0⟩ | ⟨e4, hm0⟩
 · obtain ⟨v5, e7, hm0⟩ := ixBE hm0
   try simp only [sevalprocAttr, eq_self, true_and] at e7
   rcases iteE hm0 with ⟨e9, hm0⟩ | ⟨e9, hm0⟩
   · obtain ⟨v10, h11, hm0⟩ := bsE hm0
     simp only [e2, e4, e7, e9, Y_ref04_Redirect, ↓EVd, isCall, sevalprocAttr]
     refine qc (ok_ref04_Split _ _ h11) rfl ?_
     obtain rfl := Option.some.inj hm0
     simp only [e2, e4, e7, e9, Y_ref04_Redirect, ↓EVd, isCall, sevalprocAttr]
     all_goals first | done | rfl | exact frzR_closed (by simp only [CLO]) | exact frzR_sub (by simp only [CLO]) (Sub.tup (Subs.cons (Sub.refl _) (Subs.cons (Sub.refl _) (Subs.cons (Sub.refl _) (Subs.nil)))))
   obtain ⟨v12, h13, hm0⟩ := bsE hm0
   simp only [e2, e4, e7, e9, Y_ref04_Redirect, ↓EVd, isCall, sevalprocAttr]
   refine qc (ok_ref03_Right _ _ h13) rfl ?_
   rcases itbE hm0 with ⟨e15, hm0⟩ | ⟨e15, hm0⟩
   · obtain rfl := Option.some.inj hm0
     simp only [e2, e4, e7, e9, e15, Y_ref04_Redirect, ↓EVd, isCall, sevalprocAttr]
     all_goals first | done | rfl | exact frzR_of 9 (by simp only [e2, e4, e7, e9, e15, FZ, CLO, Y_ref04_Redirect, ↓EVd, isCall, sevalprocAttr]) (Sub.tup (Subs.cons (Sub.refl _) (Subs.cons (Sub.refl _) (Subs.cons (Sub.refl _) (Subs.nil)))))
   obtain rfl := Option.some.inj hm0
   simp only [e2, e4, e7, e9, e15, Y_ref04_Redirect, ↓EVd, isCall, sevalprocAttr]
   all_goals first | done | rfl | exact frzR_closed (by simp only [CLO]) | exact frzR_sub (by simp only [CLO]) (Sub.tup (Subs.cons (Sub.nilS _) (Subs.cons (Sub.refl _) (Subs.cons (Sub.refl _) (Subs.nil)))))
 obtain ⟨v16, h17, hm0⟩ := bsE hm0
 simp only [e2, e4, Y_ref04_Redirect, ↓EVd, isCall, sevalprocAttr]
 refine qc (ok_ref03_Right _ _ h17) rfl ?_
 rcases itbE hm0 with ⟨e19, hm0⟩ | ⟨e19, hm0⟩
 · obtain rfl := Option.some.inj hm0
   simp only [e2, e4, e19, Y_ref04_Redirect, ↓EVd, isCall, sevalprocAttr]
   all_goals first | done | rfl | exact frzR_of 9 (by simp only [e2, e4, e19, FZ, CLO, Y_ref04_Redirect, ↓EVd, isCall, sevalprocAttr]) (Sub.tup (Subs.cons (Sub.refl _) (Subs.cons (Sub.refl _) (Subs.cons (Sub.refl _) (Subs.nil)))))
 obtain rfl := Option.some.inj hm0
 simp only [e2, e4, e19, Y_ref04_Redirect, ↓EVd, isCall, sevalprocAttr]
 all_goals first | done | rfl | exact frzR_closed (by simp only [CLO]) | exact frzR_sub (by simp only [CLO]) (Sub.tup (Subs.cons (Sub.nilS _) (Subs.cons (Sub.refl _) (Subs.cons (Sub.refl _) (Subs.nil)))))
def m_ref04_Begins_b0 (a0 : List ByteArray) (a1 : List ByteArray) : Int → Option (St (Int) ((Unit) ⊕ (Bool)))
 | v4 => if v4 < (a0.length : Int) then (ix a0 v4).bind fun v8 => (ix a1 v4).bind fun v11 => if v8 = v11 then some (.nx (wr (v4 + 1)))
 else some (.out (.inr false))
 else some (.out (.inl ()))
def m_ref04_Begins (a0 : List ByteArray) (a1 : List ByteArray) : Option (Bool) := if (a1.length : Int) < (a0.length : Int) then some false
 else (iter (m_ref04_Begins_b0 a0 a1) big 0).bind fun o => (match o with
 | (.inl _) => some true
 | (.inr r) => some r)
def Y_ref04_Begins := And.intro (And.intro ((@EV)) ((@R3))) (And.intro ((@R9)) (And.intro ((@R22)) ((@mixed))))
set_option maxHeartbeats 2000000 in
theorem ok_ref04_Begins (a0 : List ByteArray) (a1 : List ByteArray) (r : Bool) (hm0 : m_ref04_Begins a0 a1 = some r) : Ok Tryd.prog 13 [.sl 1 (a0.map str), .sl 1 (a1.map str)] (bool r) := by
 unfold m_ref04_Begins at hm0
 refine okG fc_ref04_Begins ?_
 unfold c_ref04_Begins
 rcases iteE hm0 with ⟨e2, hm0⟩ | ⟨e2, hm0⟩
 · obtain rfl := Option.some.inj hm0
   simp only [e2, Y_ref04_Begins, ↓EVd, isCall, sevalprocAttr]
   all_goals first | done | rfl
 obtain ⟨o0, ho0, hm0⟩ := bsE hm0
 simp only [e2, Y_ref04_Begins, ↓EVd, isCall, sevalprocAttr]
 refine cwp_cx 0 (fun s => (.inl ()) = o0) ?_ fun J0_0 hJ0_0 => ?_
 · rintro T0 H0 x5 rfl
   try dsimp only at hm0
   obtain rfl := Option.some.inj hm0
   simp only [e2, Y_ref04_Begins, ↓EVd, isCall, sevalprocAttr]
   all_goals first | done | rfl
 refine cwp_lp ho0 (fun v4 s => s.T 0 = .sl 1 (a0.map str) ∧ s.T 1 = .sl 1 (a1.map str) ∧ s.T 5 = int v4) ?_ ?_
 · refine TI.here ⟨?_, ?_, ?_⟩
   all_goals try simp only [e2, Y_ref04_Begins, ↓EVd, isCall, sevalprocAttr]
   all_goals first | omega | exact lq (by omega) | exact nq (by omega) | rfl | (congr 1; omega)
 rintro I0 v4 T0 H0 x3 st0 kk0 hm1 hI0 hO0
 dsimp only [Lq, Nq] at kk0
 simp only [m_ref04_Begins_b0] at hm1
 rcases iteE hm1 with ⟨e7, hm1⟩ | ⟨e7, hm1⟩
 · obtain ⟨v8, e10, hm1⟩ := ixE str hm1
   obtain ⟨v11, e13, hm1⟩ := ixE str hm1
   rcases iteE hm1 with ⟨e15, hm1⟩ | ⟨e15, hm1⟩
   · obtain rfl := Option.some.inj hm1
     simp only [kk0, e2, e7, e10, e13, e15, Y_ref04_Begins, ↓EVd, isCall, sevalprocAttr]
     refine TI.here (hI0 _ rfl _ ⟨?_, ?_, ?_⟩)
     all_goals try simp only [kk0, e2, e7, e10, e13, e15, Y_ref04_Begins, ↓EVd, isCall, sevalprocAttr]
     all_goals first | omega | exact lq (by omega) | exact nq (by omega) | rfl | (congr 1; omega)
   obtain rfl := Option.some.inj hm1
   obtain rfl := hO0 _ rfl
   try dsimp only at hm0
   obtain rfl := Option.some.inj hm0
   simp only [kk0, e2, e7, e10, e13, e15, Y_ref04_Begins, ↓EVd, isCall, sevalprocAttr]
   all_goals first | done | rfl
 obtain rfl := Option.some.inj hm1
 simp only [kk0, e2, e7, Y_ref04_Begins, ↓EVd, isCall, sevalprocAttr]
 refine TI.here (hJ0_0 _ (hO0 _ rfl))
def m_name_letter (a0 : Int) : Option (Bool) := if 97 ≤ a0 then if a0 ≤ 122 then some true
 else if 48 ≤ a0 then if a0 ≤ 57 then some true
 else if a0 = 46 then some true
 else if a0 = 95 then some true
 else if a0 = 45 then some true
 else some false
 else if a0 = 46 then some true
 else if a0 = 95 then some true
 else if a0 = 45 then some true
 else some false
 else if 48 ≤ a0 then if a0 ≤ 57 then some true
 else if a0 = 46 then some true
 else if a0 = 95 then some true
 else if a0 = 45 then some true
 else some false
 else if a0 = 46 then some true
 else if a0 = 95 then some true
 else if a0 = 45 then some true
 else some false
def Y_name_letter := And.intro ((@EV)) ((@R21))
set_option maxHeartbeats 2000000 in
theorem ok_name_letter (a0 : Int) (r : Bool) (hm0 : m_name_letter a0 = some r) : Ok Tryd.prog 31 [ik .i32 a0] (bool r) := by
 unfold m_name_letter at hm0
 refine okG fc_name_letter ?_
 unfold c_name_letter
 rcases iteE hm0 with ⟨e2, hm0⟩ | ⟨e2, hm0⟩
 · rcases iteE hm0 with ⟨e4, hm0⟩ | ⟨e4, hm0⟩
   · obtain rfl := Option.some.inj hm0
     simp only [e2, e4, Y_name_letter, ↓EVd, isCall, sevalprocAttr]
     all_goals first | done | rfl
   rcases iteE hm0 with ⟨e6, hm0⟩ | ⟨e6, hm0⟩
   · rcases iteE hm0 with ⟨e8, hm0⟩ | ⟨e8, hm0⟩
     · obtain rfl := Option.some.inj hm0
       simp only [e2, e4, e6, e8, Y_name_letter, ↓EVd, isCall, sevalprocAttr]
       all_goals first | done | rfl
     rcases iteE hm0 with ⟨e10, hm0⟩ | ⟨e10, hm0⟩
     · obtain rfl := Option.some.inj hm0
       simp only [e2, e4, e6, e8, e10, Y_name_letter, ↓EVd, isCall, sevalprocAttr]
       all_goals first | done | rfl
     rcases iteE hm0 with ⟨e12, hm0⟩ | ⟨e12, hm0⟩
     · obtain rfl := Option.some.inj hm0
       simp only [e2, e4, e6, e8, e10, e12, Y_name_letter, ↓EVd, isCall, sevalprocAttr]
       all_goals first | done | rfl
     rcases iteE hm0 with ⟨e14, hm0⟩ | ⟨e14, hm0⟩
     · obtain rfl := Option.some.inj hm0
       simp only [e2, e4, e6, e8, e10, e12, e14, Y_name_letter, ↓EVd, isCall, sevalprocAttr]
       all_goals first | done | rfl
     obtain rfl := Option.some.inj hm0
     simp only [e2, e4, e6, e8, e10, e12, e14, Y_name_letter, ↓EVd, isCall, sevalprocAttr]
     all_goals first | done | rfl
   rcases iteE hm0 with ⟨e16, hm0⟩ | ⟨e16, hm0⟩
   · obtain rfl := Option.some.inj hm0
     simp only [e2, e4, e6, e16, Y_name_letter, ↓EVd, isCall, sevalprocAttr]
     all_goals first | done | rfl
   rcases iteE hm0 with ⟨e18, hm0⟩ | ⟨e18, hm0⟩
   · obtain rfl := Option.some.inj hm0
     simp only [e2, e4, e6, e16, e18, Y_name_letter, ↓EVd, isCall, sevalprocAttr]
     all_goals first | done | rfl
   rcases iteE hm0 with ⟨e20, hm0⟩ | ⟨e20, hm0⟩
   · obtain rfl := Option.some.inj hm0
     simp only [e2, e4, e6, e16, e18, e20, Y_name_letter, ↓EVd, isCall, sevalprocAttr]
     all_goals first | done | rfl
   obtain rfl := Option.some.inj hm0
   simp only [e2, e4, e6, e16, e18, e20, Y_name_letter, ↓EVd, isCall, sevalprocAttr]
   all_goals first | done | rfl
 rcases iteE hm0 with ⟨e22, hm0⟩ | ⟨e22, hm0⟩
 · rcases iteE hm0 with ⟨e24, hm0⟩ | ⟨e24, hm0⟩
   · obtain rfl := Option.some.inj hm0
     simp only [e2, e22, e24, Y_name_letter, ↓EVd, isCall, sevalprocAttr]
     all_goals first | done | rfl
   rcases iteE hm0 with ⟨e26, hm0⟩ | ⟨e26, hm0⟩
   · obtain rfl := Option.some.inj hm0
     simp only [e2, e22, e24, e26, Y_name_letter, ↓EVd, isCall, sevalprocAttr]
     all_goals first | done | rfl
   rcases iteE hm0 with ⟨e28, hm0⟩ | ⟨e28, hm0⟩
   · obtain rfl := Option.some.inj hm0
     simp only [e2, e22, e24, e26, e28, Y_name_letter, ↓EVd, isCall, sevalprocAttr]
     all_goals first | done | rfl
   rcases iteE hm0 with ⟨e30, hm0⟩ | ⟨e30, hm0⟩
   · obtain rfl := Option.some.inj hm0
     simp only [e2, e22, e24, e26, e28, e30, Y_name_letter, ↓EVd, isCall, sevalprocAttr]
     all_goals first | done | rfl
   obtain rfl := Option.some.inj hm0
   simp only [e2, e22, e24, e26, e28, e30, Y_name_letter, ↓EVd, isCall, sevalprocAttr]
   all_goals first | done | rfl
 rcases iteE hm0 with ⟨e32, hm0⟩ | ⟨e32, hm0⟩
 · obtain rfl := Option.some.inj hm0
   simp only [e2, e22, e32, Y_name_letter, ↓EVd, isCall, sevalprocAttr]
   all_goals first | done | rfl
 rcases iteE hm0 with ⟨e34, hm0⟩ | ⟨e34, hm0⟩
 · obtain rfl := Option.some.inj hm0
   simp only [e2, e22, e32, e34, Y_name_letter, ↓EVd, isCall, sevalprocAttr]
   all_goals first | done | rfl
 rcases iteE hm0 with ⟨e36, hm0⟩ | ⟨e36, hm0⟩
 · obtain rfl := Option.some.inj hm0
   simp only [e2, e22, e32, e34, e36, Y_name_letter, ↓EVd, isCall, sevalprocAttr]
   all_goals first | done | rfl
 obtain rfl := Option.some.inj hm0
 simp only [e2, e22, e32, e34, e36, Y_name_letter, ↓EVd, isCall, sevalprocAttr]
 all_goals first | done | rfl
def m_name_Right_1 (a0 : Int) : Option (Bool) := (m_name_letter a0).bind fun v1 => some (!v1)
def Y_name_Right_1 := And.intro ((@EV)) ((@R21))
set_option maxHeartbeats 2000000 in
theorem ok_name_Right_1 (a0 : Int) (r : Bool) (hm0 : m_name_Right_1 a0 = some r) : Ok Tryd.prog 30 [ik .i32 a0] (bool r) := by
 unfold m_name_Right_1 at hm0
 refine okG fc_name_Right_1 ?_
 unfold c_name_Right_1
 obtain ⟨v1, h2, hm0⟩ := bsE hm0
 simp only [Y_name_Right_1, ↓EVd, isCall, sevalprocAttr]
 refine qc (ok_name_letter _ _ h2) rfl ?_
 obtain rfl := Option.some.inj hm0
 simp only [Y_name_Right_1, ↓EVd, isCall, sevalprocAttr]
 all_goals first | done | rfl
def m_name_Right (a0 : ByteArray) : Option (Bool) := if (a0.size : Int) = 0 then some false
 else if 12 < (a0.size : Int) then some false
 else if a0 = (ByteArray.mk #[46]) then some false
 else if a0 = (ByteArray.mk #[46, 46]) then some false
 else (idxFM (fun z => m_name_Right_1 z) a0).bind fun v9 => if v9 < 0 then some true
 else some false
def Y_name_Right := And.intro (And.intro ((@EV)) ((@R3))) (And.intro ((@R9)) ((@R42)))
set_option maxHeartbeats 2000000 in
theorem ok_name_Right (a0 : ByteArray) (r : Bool) (hm0 : m_name_Right a0 = some r) : Ok Tryd.prog 21 [str a0] (bool r) := by
 unfold m_name_Right at hm0
 refine okG fc_name_Right ?_
 unfold c_name_Right
 rcases iteE hm0 with ⟨e2, hm0⟩ | ⟨e2, hm0⟩
 · obtain rfl := Option.some.inj hm0
   simp only [e2, Y_name_Right, ↓EVd, isCall, sevalprocAttr]
   all_goals first | done | rfl
 rcases iteE hm0 with ⟨e4, hm0⟩ | ⟨e4, hm0⟩
 · obtain rfl := Option.some.inj hm0
   simp only [e2, e4, Y_name_Right, ↓EVd, isCall, sevalprocAttr]
   all_goals first | done | rfl
 rcases iteE hm0 with ⟨e6, hm0⟩ | ⟨e6, hm0⟩
 · obtain rfl := Option.some.inj hm0
   simp only [e2, e4, e6, Y_name_Right, ↓EVd, isCall, sevalprocAttr]
   all_goals first | done | rfl
 rcases iteE hm0 with ⟨e8, hm0⟩ | ⟨e8, hm0⟩
 · obtain rfl := Option.some.inj hm0
   simp only [e2, e4, e6, e8, Y_name_Right, ↓EVd, isCall, sevalprocAttr]
   all_goals first | done | rfl
 obtain ⟨v9, h10, hm0⟩ := bsE hm0
 simp only [e2, e4, e6, e8, Y_name_Right, ↓EVd, isCall, sevalprocAttr]
 refine qc (ok_strings_IndexFunc (fun z => m_name_Right_1 z) _ _ h10 (by kernel_rfl) (fun z b hz => ok_name_Right_1 z b hz)) rfl ?_
 rcases iteE hm0 with ⟨e12, hm0⟩ | ⟨e12, hm0⟩
 · obtain rfl := Option.some.inj hm0
   simp only [e2, e4, e6, e8, e12, Y_name_Right, ↓EVd, isCall, sevalprocAttr]
   all_goals first | done | rfl
 obtain rfl := Option.some.inj hm0
 simp only [e2, e4, e6, e8, e12, Y_name_Right, ↓EVd, isCall, sevalprocAttr]
 all_goals first | done | rfl
def m_path_Join (a0 : List ByteArray) : Option (ByteArray) := (m_strings_Join a0 (ByteArray.mk #[47])).bind fun v1 => (ck ((ByteArray.mk #[47]).size + v1.size ≤ 9223372036854775807)).bind fun _ => some ((ByteArray.mk #[47]) ++ v1)
def Y_path_Join := And.intro ((@EV)) (And.intro ((@R9)) ((@R22)))
set_option maxHeartbeats 2000000 in
theorem ok_path_Join (a0 : List ByteArray) (r : ByteArray) (hm0 : m_path_Join a0 = some r) : Ok Tryd.prog 10 [.sl 1 (a0.map str)] (str r) := by
 unfold m_path_Join at hm0
 refine okG fc_path_Join ?_
 unfold c_path_Join
 obtain ⟨v1, h2, hm0⟩ := bsE hm0
 simp only [Y_path_Join, ↓EVd, isCall, sevalprocAttr]
 refine qc (ok_strings_Join _ _ _ h2) rfl ?_
 obtain ⟨e4, hm0⟩ := ckE hm0
 obtain rfl := Option.some.inj hm0
 simp only [e4, Y_path_Join, ↓EVd, isCall, sevalprocAttr]
 all_goals first | done | rfl
def m_path_parts (a0 : ByteArray) : Option (List ByteArray × Bool) := (m_strings_CutPrefix a0 (ByteArray.mk #[47])).bind fun v1 => if (!v1.2) = true then some ([], false)
 else (m_strings_Split v1.1 (ByteArray.mk #[47])).bind fun v5 => some (v5, true)
def Y_path_parts := And.intro ((@EV)) ((@R9))
set_option maxHeartbeats 2000000 in
theorem ok_path_parts (a0 : ByteArray) (r : List ByteArray × Bool) (hm0 : m_path_parts a0 = some r) : Ok Tryd.prog 18 [str a0] (.tup [.sl 1 (r.1.map str), bool r.2]) := by
 unfold m_path_parts at hm0
 refine okG fc_path_parts ?_
 unfold c_path_parts
 obtain ⟨v1, h2, hm0⟩ := bsE hm0
 simp only [Y_path_parts, ↓EVd, isCall, sevalprocAttr]
 refine qc (ok_strings_CutPrefix _ _ _ h2) rfl ?_
 rcases itbE hm0 with ⟨e4, hm0⟩ | ⟨e4, hm0⟩
 · obtain rfl := Option.some.inj hm0
   simp only [e4, Y_path_parts, ↓EVd, isCall, sevalprocAttr]
   all_goals first | done | rfl | exact frzR_closed (by simp only [CLO]) | exact frzR_sub (by simp only [CLO]) (Sub.tup (Subs.cons (Sub.nilS _) (Subs.cons (Sub.refl _) (Subs.nil))))
 obtain ⟨v5, h6, hm0⟩ := bsE hm0
 simp only [e4, Y_path_parts, ↓EVd, isCall, sevalprocAttr]
 refine qc (ok_strings_Split _ _ _ h6) rfl ?_
 obtain rfl := Option.some.inj hm0
 simp only [e4, Y_path_parts, ↓EVd, isCall, sevalprocAttr]
 all_goals first | done | rfl | exact frzR_closed (by simp only [CLO]) | exact frzR_sub (by simp only [CLO]) (Sub.tup (Subs.cons (Sub.refl _) (Subs.cons (Sub.refl _) (Subs.nil))))
def m_path_Split_1 (a0 : ByteArray) : Option (Bool) := (m_name_Right a0).bind fun v1 => some (!v1)
def Y_path_Split_1 := And.intro ((@EV)) ((@R9))
set_option maxHeartbeats 2000000 in
theorem ok_path_Split_1 (a0 : ByteArray) (r : Bool) (hm0 : m_path_Split_1 a0 = some r) : Ok Tryd.prog 20 [str a0] (bool r) := by
 unfold m_path_Split_1 at hm0
 refine okG fc_path_Split_1 ?_
 unfold c_path_Split_1
 obtain ⟨v1, h2, hm0⟩ := bsE hm0
 simp only [Y_path_Split_1, ↓EVd, isCall, sevalprocAttr]
 refine qc (ok_name_Right _ _ h2) rfl ?_
 obtain rfl := Option.some.inj hm0
 simp only [Y_path_Split_1, ↓EVd, isCall, sevalprocAttr]
 all_goals first | done | rfl
def m_path_Split (a0 : ByteArray) : Option (List ByteArray × Bool) := (m_path_parts a0).bind fun v1 => if a0 = (ByteArray.mk #[47]) then some ([], true)
 else if (!v1.2) = true then some ([], false)
 else (containsM (fun z => m_path_Split_1 z ) v1.1).bind fun v7 => if v7 = true then some ([], false)
 else some (v1.1, true)
def Y_path_Split := And.intro (And.intro ((@EV)) ((@R9))) (And.intro ((@R22)) ((@R33)))
set_option maxHeartbeats 2000000 in
theorem ok_path_Split (a0 : ByteArray) (r : List ByteArray × Bool) (hm0 : m_path_Split a0 = some r) : Ok Tryd.prog 7 [str a0] (.tup [.sl 1 (r.1.map str), bool r.2]) := by
 unfold m_path_Split at hm0
 refine okG fc_path_Split ?_
 unfold c_path_Split
 obtain ⟨v1, h2, hm0⟩ := bsE hm0
 simp only [Y_path_Split, ↓EVd, isCall, sevalprocAttr]
 refine qc (ok_path_parts _ _ h2) rfl ?_
 rcases iteE hm0 with ⟨e4, hm0⟩ | ⟨e4, hm0⟩
 · obtain rfl := Option.some.inj hm0
   simp only [e4, Y_path_Split, ↓EVd, isCall, sevalprocAttr]
   all_goals first | done | rfl | exact frzR_closed (by simp only [CLO]) | exact frzR_sub (by simp only [CLO]) (Sub.tup (Subs.cons (Sub.nilS _) (Subs.cons (Sub.refl _) (Subs.nil))))
 rcases itbE hm0 with ⟨e6, hm0⟩ | ⟨e6, hm0⟩
 · obtain rfl := Option.some.inj hm0
   simp only [e4, e6, Y_path_Split, ↓EVd, isCall, sevalprocAttr]
   all_goals first | done | rfl | exact frzR_closed (by simp only [CLO]) | exact frzR_sub (by simp only [CLO]) (Sub.tup (Subs.cons (Sub.nilS _) (Subs.cons (Sub.refl _) (Subs.nil))))
 obtain ⟨v7, h8, hm0⟩ := bsE hm0
 simp only [e4, e6, Y_path_Split, ↓EVd, isCall, sevalprocAttr]
 refine qc (containsM_ok fc_slices_ContainsFunc_string_string fc_slices_IndexFunc_string_string elemOfT_22 aggN_9 (fi := []) (ca := []) str v1.1 (fun z => m_path_Split_1 z ) _ h8 (fun z b hz => ok_path_Split_1 z  b hz) (fun z => by simp only [CLO]) rfl (by simp only [CLO]) (fun z => by simp only [Y_path_Split, ↓EVd, isCall, sevalprocAttr])) rfl ?_
 rcases itbE hm0 with ⟨e10, hm0⟩ | ⟨e10, hm0⟩
 · obtain rfl := Option.some.inj hm0
   simp only [e4, e6, e10, Y_path_Split, ↓EVd, isCall, sevalprocAttr]
   all_goals first | done | rfl | exact frzR_closed (by simp only [CLO]) | exact frzR_sub (by simp only [CLO]) (Sub.tup (Subs.cons (Sub.nilS _) (Subs.cons (Sub.refl _) (Subs.nil))))
 obtain rfl := Option.some.inj hm0
 simp only [e4, e6, e10, Y_path_Split, ↓EVd, isCall, sevalprocAttr]
 all_goals first | done | rfl | exact frzR_closed (by simp only [CLO]) | exact frzR_sub (by simp only [CLO]) (Sub.tup (Subs.cons (Sub.refl _) (Subs.cons (Sub.refl _) (Subs.nil))))
def m_path_Clean_p0 (a0 : ByteArray) : Option ((List ByteArray) ⊕ (ByteArray × Bool)) := (m_path_parts a0).bind fun v36 => if (!v36.2) = true then some (.inr (noBytes, false))
 else some (.inl v36.1)
def m_path_Clean_b1  : (List ByteArray × List ByteArray) → Option (St (List ByteArray × List ByteArray) (ByteArray × Bool))
 | (v4, v6) => if (v4.length : Int) = 0 then (m_path_Join v6).bind fun v9 => some (.out (v9, true))
 else (ix v4 0).bind fun v11 => (slM v4 (some 1) none).bind fun v14 => if v11 = noBytes then some (.nx (v14, v6))
 else if v11 = (ByteArray.mk #[46]) then some (.nx (v14, v6))
 else if v11 = (ByteArray.mk #[46, 46]) then if (v6.length : Int) = 0 then some (.out (noBytes, false))
 else (ck (0 ≤ (wr ((v6.length : Int) - 1)) ∧ (wr ((v6.length : Int) - 1)) ≤ (v6.length : Int))).bind fun _ => some (.nx (v14, (v6.take ((wr ((v6.length : Int) - 1))).toNat)))
 else (m_name_Right v11).bind fun v28 => if (!v28) = true then some (.out (noBytes, false))
 else (ap 16 v6 ([v11] : List ByteArray)).bind fun _ => some (.nx (v14, (v6 ++ ([v11] : List ByteArray))))
def m_path_Clean (a0 : ByteArray) : Option (ByteArray × Bool) := (m_path_Clean_p0 a0).bind fun o => (match o with
 | (.inl v2) => (iter (m_path_Clean_b1) (big + 1) (v2, [])).bind fun o => (match o with
 | r => some r)
 | (.inr r) => some r)
def Y_path_Clean := And.intro (And.intro ((@EV)) (And.intro ((@R3)) ((@R9)))) (And.intro (And.intro ((@R22)) ((@L_goto))) (And.intro ((@cwL_cons)) ((@cwL_nil))))
set_option maxHeartbeats 2000000 in
theorem ok_path_Clean (a0 : ByteArray) (r : ByteArray × Bool) (hm0 : m_path_Clean a0 = some r) : Ok Tryd.prog 14 [str a0] (.tup [str r.1, bool r.2]) := by
 unfold m_path_Clean at hm0
 refine okG fc_path_Clean ?_
 unfold c_path_Clean
 obtain ⟨op1, hp1, hm0⟩ := bsE hm0
 rcases op1 with v2 | rv1
 rotate_left
 · try dsimp only at hm0
   simp only [Y_path_Clean, ↓EVd, isCall, sevalprocAttr]
   refine cwp_sr [_, _, _] 0 rfl ?_
   intro G1
   have hm1 := hp1
   unfold m_path_Clean_p0 at hm1
   obtain ⟨v36, h37, hm1⟩ := bsE hm1
   simp only [Y_path_Clean, ↓EVd, isCall, sevalprocAttr]
   refine qc (ok_path_parts _ _ h37) rfl ?_
   rcases itbE hm1 with ⟨e39, hm1⟩ | ⟨e39, hm1⟩
   · obtain rfl := Sum.inr.inj (Option.some.inj hm1)
     obtain rfl := Option.some.inj hm0
     simp only [e39, Y_path_Clean, ↓EVd, isCall, sevalprocAttr]
     all_goals first | done | rfl | exact frzR_closed (by simp only [CLO]) | exact frzR_sub (by simp only [CLO]) (Sub.tup (Subs.cons (Sub.refl _) (Subs.cons (Sub.refl _) (Subs.nil))))
   cases (Option.some.inj hm1)
 try dsimp only at hm0
 obtain ⟨o1, ho1, hm0⟩ := bsE hm0
 simp only [Y_path_Clean, ↓EVd, isCall, sevalprocAttr]
 refine cwp_sp [_, _, _] 0 ho1 (fun (v4, v6) s => ∃ l5 : Nat, s.T 4 = .sl 1 (v4.map str) ∧ s.T 6 = .msl l5 v6.length ∧ s.H l5 = some (.row 9 1 (v6.map str)) ∧ Lq l5 s.nx) rfl ?_ ?_
 · intro K1 G1 hK1 hG1
   have hm1 := hp1
   unfold m_path_Clean_p0 at hm1
   obtain ⟨v36, h37, hm1⟩ := bsE hm1
   simp only [Y_path_Clean, ↓EVd, isCall, sevalprocAttr]
   refine qc (ok_path_parts _ _ h37) rfl ?_
   rcases itbE hm1 with ⟨e39, hm1⟩ | ⟨e39, hm1⟩
   · cases (Option.some.inj hm1)
   have hm1 := Sum.inl.inj (Option.some.inj hm1)
   obtain rfl := hm1
   simp only [e39, Y_path_Clean, ↓EVd, isCall, sevalprocAttr]
   apply hK1
   refine TI.by (Tn.adopt 6 9 1 (by simp only [e39, Y_path_Clean, ↓EVd, isCall, sevalprocAttr])) ?_
   refine TI.here ⟨12, ?_, ?_, ?_, ?_⟩
   all_goals try simp only [e39, Y_path_Clean, ↓EVd, isCall, sevalprocAttr]
   all_goals first | omega | exact lq (by omega) | exact nq (by omega) | rfl | (congr 1; omega)
 rintro I1 ⟨v4, v6⟩ T1 H1 x3 st1 ⟨l5, kk1⟩ hm1 hI1 hO1
 dsimp only [Lq, Nq] at kk1
 simp only [m_path_Clean_b1] at hm1
 rcases iteE hm1 with ⟨e8, hm1⟩ | ⟨e8, hm1⟩
 · obtain ⟨v9, h10, hm1⟩ := bsE hm1
   simp only [kk1, e8, Y_path_Clean, ↓EVd, isCall, sevalprocAttr]
   refine qcb (ok_path_Join _ _ h10) rfl (by simp only [kk1, e8, FZ, CLO, Y_path_Clean, ↓EVd, isCall, sevalprocAttr]) ?_
   obtain rfl := Option.some.inj hm1
   obtain rfl := hO1 _ rfl
   try dsimp only at hm0
   obtain rfl := Option.some.inj hm0
   simp only [kk1, e8, Y_path_Clean, ↓EVd, isCall, sevalprocAttr]
   all_goals first | done | rfl | exact frzR_closed (by simp only [CLO]) | exact frzR_sub (by simp only [CLO]) (Sub.tup (Subs.cons (Sub.refl _) (Subs.cons (Sub.refl _) (Subs.nil))))
 obtain ⟨v11, e13, hm1⟩ := ixE str hm1
 try simp only [sevalprocAttr, eq_self, true_and] at e13
 obtain ⟨v14, h15, hm1⟩ := bsE hm1
 have e16 := show evalSlice Tryd.prog 22 (.sl 1 (v4.map str)) (some (int 1)) none none = some (.sl 1 (v14.map str)) from slice_fact elemOfT_22 aggN_9 str h15
 rcases iteE hm1 with ⟨e18, hm1⟩ | ⟨e18, hm1⟩
 · obtain rfl := Option.some.inj hm1
   simp only [kk1, e8, e13, e16, e18, Y_path_Clean, ↓EVd, isCall, sevalprocAttr]
   refine TI.here (hI1 _ rfl _ ⟨l5, ?_, ?_, ?_, ?_⟩)
   all_goals try simp only [kk1, e8, e13, e16, e18, Y_path_Clean, ↓EVd, isCall, sevalprocAttr]
   all_goals first | omega | exact lq (by omega) | exact nq (by omega) | rfl | (congr 1; omega)
 rcases iteE hm1 with ⟨e20, hm1⟩ | ⟨e20, hm1⟩
 · obtain rfl := Option.some.inj hm1
   simp only [kk1, e8, e13, e16, e18, e20, Y_path_Clean, ↓EVd, isCall, sevalprocAttr]
   refine TI.here (hI1 _ rfl _ ⟨l5, ?_, ?_, ?_, ?_⟩)
   all_goals try simp only [kk1, e8, e13, e16, e18, e20, Y_path_Clean, ↓EVd, isCall, sevalprocAttr]
   all_goals first | omega | exact lq (by omega) | exact nq (by omega) | rfl | (congr 1; omega)
 rcases iteE hm1 with ⟨e22, hm1⟩ | ⟨e22, hm1⟩
 · rcases iteE hm1 with ⟨e24, hm1⟩ | ⟨e24, hm1⟩
   · obtain rfl := Option.some.inj hm1
     obtain rfl := hO1 _ rfl
     try dsimp only at hm0
     obtain rfl := Option.some.inj hm0
     simp only [kk1, e8, e13, e16, e18, e20, e22, e24, Y_path_Clean, ↓EVd, isCall, sevalprocAttr]
     all_goals first | done | rfl | exact frzR_closed (by simp only [CLO]) | exact frzR_sub (by simp only [CLO]) (Sub.tup (Subs.cons (Sub.refl _) (Subs.cons (Sub.refl _) (Subs.nil))))
   obtain ⟨e26, hm1⟩ := ckE hm1
   have e27 : ∀ l, evalSlice Tryd.prog 22 (.msl l (v6).length) none (some (int (wr ((v6.length : Int) - 1)))) none = some (.msl l ((wr ((v6.length : Int) - 1))).toNat) := slice_cut elemOfT_22 aggN_9 e26
   obtain rfl := Option.some.inj hm1
   simp only [kk1, e8, e13, e16, e18, e20, e22, e24, e26, e27, Y_path_Clean, ↓EVd, isCall, sevalprocAttr]
   refine TI.by (Tn.trunc 6 l5 (((wr ((v6.length : Int) - 1))).toNat) 9 1 str v6 (by simp only [kk1, e8, e13, e16, e18, e20, e22, e24, e26, e27, Y_path_Clean, ↓EVd, isCall, sevalprocAttr]) (by simp only [kk1, e8, e13, e16, e18, e20, e22, e24, e26, e27, Y_path_Clean, ↓EVd, isCall, sevalprocAttr]) (by have := e26; omega)) ?_
   refine TI.here (hI1 _ rfl _ ⟨l5, ?_, ?_, ?_, ?_⟩)
   all_goals try simp only [kk1, e8, e13, e16, e18, e20, e22, e24, e26, e27, Y_path_Clean, ↓EVd, isCall, sevalprocAttr]
   all_goals first | omega | exact lq (by omega) | exact nq (by omega) | rfl | (congr 1; omega)
 obtain ⟨v28, h29, hm1⟩ := bsE hm1
 simp only [kk1, e8, e13, e16, e18, e20, e22, Y_path_Clean, ↓EVd, isCall, sevalprocAttr]
 refine qc (ok_name_Right _ _ h29) rfl ?_
 rcases itbE hm1 with ⟨e31, hm1⟩ | ⟨e31, hm1⟩
 · obtain rfl := Option.some.inj hm1
   obtain rfl := hO1 _ rfl
   try dsimp only at hm0
   obtain rfl := Option.some.inj hm0
   simp only [kk1, e8, e13, e16, e18, e20, e22, e31, Y_path_Clean, ↓EVd, isCall, sevalprocAttr]
   all_goals first | done | rfl | exact frzR_closed (by simp only [CLO]) | exact frzR_sub (by simp only [CLO]) (Sub.tup (Subs.cons (Sub.refl _) (Subs.cons (Sub.refl _) (Subs.nil))))
 obtain ⟨e34, hm1⟩ := apE hm1
 try simp only [ZL] at e34
 obtain rfl := Option.some.inj hm1
 simp only [kk1, e8, e13, e16, e18, e20, e22, e31, e34, Y_path_Clean, ↓EVd, isCall, sevalprocAttr]
 refine TI.here (hI1 _ rfl _ ⟨(x3 + 27), ?_, ?_, ?_, ?_⟩)
 all_goals try simp only [kk1, e8, e13, e16, e18, e20, e22, e31, e34, Y_path_Clean, ↓EVd, isCall, sevalprocAttr]
 all_goals first | omega | exact lq (by omega) | exact nq (by omega) | rfl | (congr 1; omega)
def m_path_Redirect (a0 : ByteArray) : Option (List ByteArray × Bool × Bool) := if 24 < (a0.size : Int) then some ([], false, false)
 else (m_strings_HasPrefix a0 (ByteArray.mk #[47])).bind fun v3 => if v3 = true then (m_path_Split a0).bind fun v7 => some (v7.1, v7.2, v7.2)
 else (m_name_Right a0).bind fun v9 => if v9 = true then some (([a0] : List ByteArray), false, true)
 else some ([], false, false)
def Y_path_Redirect := And.intro (And.intro ((@EV)) ((@R3))) (And.intro ((@R9)) ((@R22)))
set_option maxHeartbeats 2000000 in
theorem ok_path_Redirect (a0 : ByteArray) (r : List ByteArray × Bool × Bool) (hm0 : m_path_Redirect a0 = some r) : Ok Tryd.prog 16 [str a0] (.tup [.sl 1 (r.1.map str), bool r.2.1, bool r.2.2]) := by
 unfold m_path_Redirect at hm0
 refine okG fc_path_Redirect ?_
 unfold c_path_Redirect
 rcases iteE hm0 with ⟨e2, hm0⟩ | ⟨e2, hm0⟩
 · obtain rfl := Option.some.inj hm0
   simp only [e2, Y_path_Redirect, ↓EVd, isCall, sevalprocAttr]
   all_goals first | done | rfl | exact frzR_closed (by simp only [CLO]) | exact frzR_sub (by simp only [CLO]) (Sub.tup (Subs.cons (Sub.nilS _) (Subs.cons (Sub.refl _) (Subs.cons (Sub.refl _) (Subs.nil)))))
 obtain ⟨v3, h4, hm0⟩ := bsE hm0
 simp only [e2, Y_path_Redirect, ↓EVd, isCall, sevalprocAttr]
 refine qc (ok_strings_HasPrefix _ _ _ h4) rfl ?_
 rcases itbE hm0 with ⟨e6, hm0⟩ | ⟨e6, hm0⟩
 · obtain ⟨v7, h8, hm0⟩ := bsE hm0
   simp only [e2, e6, Y_path_Redirect, ↓EVd, isCall, sevalprocAttr]
   refine qc (ok_path_Split _ _ h8) rfl ?_
   obtain rfl := Option.some.inj hm0
   simp only [e2, e6, Y_path_Redirect, ↓EVd, isCall, sevalprocAttr]
   all_goals first | done | rfl | exact frzR_closed (by simp only [CLO]) | exact frzR_sub (by simp only [CLO]) (Sub.tup (Subs.cons (Sub.refl _) (Subs.cons (Sub.refl _) (Subs.cons (Sub.refl _) (Subs.nil)))))
 obtain ⟨v9, h10, hm0⟩ := bsE hm0
 simp only [e2, e6, Y_path_Redirect, ↓EVd, isCall, sevalprocAttr]
 refine qc (ok_name_Right _ _ h10) rfl ?_
 rcases itbE hm0 with ⟨e12, hm0⟩ | ⟨e12, hm0⟩
 · obtain rfl := Option.some.inj hm0
   simp only [e2, e6, e12, Y_path_Redirect, ↓EVd, isCall, sevalprocAttr]
   all_goals first | done | rfl | exact frzR_of 9 (by simp only [e2, e6, e12, FZ, CLO, Y_path_Redirect, ↓EVd, isCall, sevalprocAttr]) (Sub.tup (Subs.cons (Sub.refl _) (Subs.cons (Sub.refl _) (Subs.cons (Sub.refl _) (Subs.nil)))))
 obtain rfl := Option.some.inj hm0
 simp only [e2, e6, e12, Y_path_Redirect, ↓EVd, isCall, sevalprocAttr]
 all_goals first | done | rfl | exact frzR_closed (by simp only [CLO]) | exact frzR_sub (by simp only [CLO]) (Sub.tup (Subs.cons (Sub.nilS _) (Subs.cons (Sub.refl _) (Subs.cons (Sub.refl _) (Subs.nil)))))
def m_slices_Equal_string_string_b0 (a0 : List ByteArray) (a1 : List ByteArray) : Int → Option (St (Int) ((Unit) ⊕ (Bool)))
 | v4 => if v4 < (a0.length : Int) then (ix a0 v4).bind fun v8 => (ix a1 v4).bind fun v11 => if v8 = v11 then some (.nx (wr (v4 + 1)))
 else some (.out (.inr false))
 else some (.out (.inl ()))
def m_slices_Equal_string_string (a0 : List ByteArray) (a1 : List ByteArray) : Option (Bool) := if (a0.length : Int) = (a1.length : Int) then (iter (m_slices_Equal_string_string_b0 a0 a1) big 0).bind fun o => (match o with
 | (.inl _) => some true
 | (.inr r) => some r)
 else some false
def Y_slices_Equal_string_string := And.intro (And.intro ((@EV)) ((@R3))) (And.intro ((@R9)) (And.intro ((@R22)) ((@mixed))))
set_option maxHeartbeats 2000000 in
theorem ok_slices_Equal_string_string (a0 : List ByteArray) (a1 : List ByteArray) (r : Bool) (hm0 : m_slices_Equal_string_string a0 a1 = some r) : Ok Tryd.prog 9 [.sl 1 (a0.map str), .sl 1 (a1.map str)] (bool r) := by
 unfold m_slices_Equal_string_string at hm0
 refine okG fc_slices_Equal_string_string ?_
 unfold c_slices_Equal_string_string
 rcases iteE hm0 with ⟨e2, hm0⟩ | ⟨e2, hm0⟩
 · obtain ⟨o0, ho0, hm0⟩ := bsE hm0
   simp only [e2, Y_slices_Equal_string_string, ↓EVd, isCall, sevalprocAttr]
   refine cwp_cx 0 (fun s => (.inl ()) = o0) ?_ fun J0_0 hJ0_0 => ?_
   · rintro T0 H0 x5 rfl
     try dsimp only at hm0
     obtain rfl := Option.some.inj hm0
     simp only [e2, Y_slices_Equal_string_string, ↓EVd, isCall, sevalprocAttr]
     all_goals first | done | rfl
   refine cwp_lp ho0 (fun v4 s => s.T 0 = .sl 1 (a0.map str) ∧ s.T 1 = .sl 1 (a1.map str) ∧ s.T 12 = int (a0.length : Int) ∧ s.T 13 = int v4) ?_ ?_
   · refine TI.here ⟨?_, ?_, ?_, ?_⟩
     all_goals try simp only [e2, Y_slices_Equal_string_string, ↓EVd, isCall, sevalprocAttr]
     all_goals first | omega | exact lq (by omega) | exact nq (by omega) | rfl | (congr 1; omega)
   rintro I0 v4 T0 H0 x3 st0 kk0 hm1 hI0 hO0
   dsimp only [Lq, Nq] at kk0
   simp only [m_slices_Equal_string_string_b0] at hm1
   rcases iteE hm1 with ⟨e7, hm1⟩ | ⟨e7, hm1⟩
   · obtain ⟨v8, e10, hm1⟩ := ixE str hm1
     obtain ⟨v11, e13, hm1⟩ := ixE str hm1
     rcases iteE hm1 with ⟨e15, hm1⟩ | ⟨e15, hm1⟩
     · obtain rfl := Option.some.inj hm1
       simp only [kk0, e2, e7, e10, e13, e15, Y_slices_Equal_string_string, ↓EVd, isCall, sevalprocAttr]
       refine TI.here (hI0 _ rfl _ ⟨?_, ?_, ?_, ?_⟩)
       all_goals try simp only [kk0, e2, e7, e10, e13, e15, Y_slices_Equal_string_string, ↓EVd, isCall, sevalprocAttr]
       all_goals first | omega | exact lq (by omega) | exact nq (by omega) | rfl | (congr 1; omega)
     obtain rfl := Option.some.inj hm1
     obtain rfl := hO0 _ rfl
     try dsimp only at hm0
     obtain rfl := Option.some.inj hm0
     simp only [kk0, e2, e7, e10, e13, e15, Y_slices_Equal_string_string, ↓EVd, isCall, sevalprocAttr]
     all_goals first | done | rfl
   obtain rfl := Option.some.inj hm1
   simp only [kk0, e2, e7, Y_slices_Equal_string_string, ↓EVd, isCall, sevalprocAttr]
   refine TI.here (hJ0_0 _ (hO0 _ rfl))
 obtain rfl := Option.some.inj hm0
 simp only [e2, Y_slices_Equal_string_string, ↓EVd, isCall, sevalprocAttr]
 all_goals first | done | rfl
def m_path_Begins (a0 : List ByteArray) (a1 : List ByteArray) : Option (Bool) := if (a0.length : Int) ≤ (a1.length : Int) then (slM a1 none (some (a0.length : Int))).bind fun v3 => (m_slices_Equal_string_string a0 v3).bind fun v6 => some v6
 else some false
def Y_path_Begins := And.intro (And.intro ((@EV)) ((@R3))) (And.intro ((@R9)) ((@R22)))
set_option maxHeartbeats 2000000 in
theorem ok_path_Begins (a0 : List ByteArray) (a1 : List ByteArray) (r : Bool) (hm0 : m_path_Begins a0 a1 = some r) : Ok Tryd.prog 12 [.sl 1 (a0.map str), .sl 1 (a1.map str)] (bool r) := by
 unfold m_path_Begins at hm0
 refine okG fc_path_Begins ?_
 unfold c_path_Begins
 rcases iteE hm0 with ⟨e2, hm0⟩ | ⟨e2, hm0⟩
 · obtain ⟨v3, h4, hm0⟩ := bsE hm0
   have e5 := show evalSlice Tryd.prog 22 (.sl 1 (a1.map str)) none (some (int (a0.length : Int))) none = some (.sl 1 (v3.map str)) from slice_fact elemOfT_22 aggN_9 str h4
   obtain ⟨v6, h7, hm0⟩ := bsE hm0
   simp only [e2, e5, Y_path_Begins, ↓EVd, isCall, sevalprocAttr]
   refine qc (ok_slices_Equal_string_string _ _ _ h7) rfl ?_
   obtain rfl := Option.some.inj hm0
   simp only [e2, e5, Y_path_Begins, ↓EVd, isCall, sevalprocAttr]
   all_goals first | done | rfl
 obtain rfl := Option.some.inj hm0
 simp only [e2, Y_path_Begins, ↓EVd, isCall, sevalprocAttr]
 all_goals first | done | rfl
end Go.Proofs.YtnmljicimdhpmaaDoor.AL

/- Loops of models, in plain words. -/
set_option linter.all false
namespace Go.Proofs.YtnmljicimdhpmaaDoor.AL
open Go Go.Proofs

/-! ### Loops -/
theorem iter_term {S ρ : Type} {B : S → Option (St S ρ)} {R : ρ → Prop} (I : Nat → S → Prop) (N : Nat) (hs : ∀ i s, I i s → i ≤ N ∧ ((∃ s', B s = some (.nx s') ∧ I (i + 1) s') ∨ ∃ r, B s = some (.out r) ∧ R r)) :
    ∀ (fuel i : Nat) (s : S), I i s → N < fuel + i → ∃ r, iter B fuel s = some r ∧ R r
  | 0, i, s, h, hf => by have := (hs i s h).1; omega
  | fuel + 1, i, s, h, hf => by
    rw [iter_succ]
    rcases (hs i s h).2 with ⟨s', h1, h2⟩ | ⟨r, h1, h2⟩
    · rw [h1]
      exact iter_term I N hs fuel (i + 1) s' h2 (by omega)
    · rw [h1]
      exact ⟨r, rfl, h2⟩
theorem big_eq : big = 1000000000000000000 := rfl
theorem ix_at {α : Type} {xs : List α} {i : Nat} (h : i < xs.length) : ix xs (i : Int) = some xs[i] := by
  unfold ix
  rw [if_pos (by omega)]
  simp [h]
theorem wr_suc {i : Nat} (h : i < 4611686018427387904) : wr ((i : Int) + 1) = ((i + 1 : Nat) : Int) := by rw [wr_in (by omega) (by omega)]; omega
theorem ap_of {α : Type} {k : Nat} {xs ys : List α} (h : (xs.length + ys.length) * k ≤ 140737488355328) (hk : 0 < k) : ap k xs ys = some (xs ++ ys) := by
  unfold ap
  have : xs.length + ys.length ≤ (xs.length + ys.length) * k := Nat.le_mul_of_pos_right _ hk
  have h2 : xs.length + ys.length ≤ 9223372036854775807 := by omega
  rw [if_pos ⟨h, h2⟩]
/-- Over the places of a list, from the first to the last. -/
theorem iter_fold {α σ S ρ : Type} {B : S → Option (St S ρ)} (mk : Nat → σ → S) (xs : List α) (step : σ → α → σ) (fin : σ → ρ) (I : Nat → σ → Prop) (hs : ∀ i s (h : i < xs.length), I i s → B (mk i s) = some (.nx (mk (i + 1) (step s xs[i]))) ∧ I (i + 1) (step s xs[i]))
    (he : ∀ s, I xs.length s → B (mk xs.length s) = some (.out (fin s))) {s0 : σ} (h0 : I 0 s0) {fuel : Nat} (hf : xs.length < fuel) : iter B fuel (mk 0 s0) = some (fin (xs.foldl step s0)) ∧ I xs.length (xs.foldl step s0) := by
  have key : ∀ (d i : Nat) (s : σ) (fuel : Nat), d + i = xs.length → I i s → d < fuel → iter B fuel (mk i s) = some (fin ((xs.drop i).foldl step s)) ∧ I xs.length ((xs.drop i).foldl step s) := by
    intro d
    induction d with
    | zero =>
      intro i s fuel hd hi hf
      obtain rfl : i = xs.length := by omega
      cases fuel with
      | zero => omega
      | succ fuel =>
        rw [iter_succ, he s hi]
        simp [hi]
    | succ d ih =>
      intro i s fuel hd hi hf
      cases fuel with
      | zero => omega
      | succ fuel =>
        have hlt : i < xs.length := by omega
        obtain ⟨h1, h2⟩ := hs i s hlt hi
        rw [iter_succ, h1]
        have := ih (i + 1) _ fuel (by omega) h2 (by omega)
        rw [List.drop_eq_getElem_cons hlt]
        exact this
  have := key xs.length 0 s0 fuel (by omega) h0 hf
  simpa using this
theorem eqLoop {α : Type} [DecidableEq α] {a b : List α} {B : Int → Option (St Int (Unit ⊕ Bool))} (hl : a.length = b.length) (hlen : a.length ≤ 1000000000)
    (hB : ∀ (i : Nat) (h : i < a.length) (h' : i < b.length), B (i : Int) = if a[i] = b[i] then some (.nx ((i + 1 : Nat) : Int)) else some (.out (.inr false))) (hE : B (a.length : Int) = some (.out (.inl ()))) :
    iter B big 0 = some (if a = b then .inl () else .inr false) := by
  obtain ⟨r, h1, h2⟩ := iter_term (B := B) (R := fun r => r = if a = b then .inl () else .inr false) (fun i t => t = (i : Int) ∧ i ≤ a.length ∧ ∀ j (h : j < a.length) (h' : j < b.length), j < i → a[j] = b[j]) a.length (by
    rintro i t ⟨rfl, hi, hj⟩
    refine ⟨hi, ?_⟩
    by_cases hlt : i < a.length
    · rw [hB i hlt (by omega)]
      by_cases he : a[i] = b[i]
      · rw [if_pos he]
        refine .inl ⟨_, rfl, rfl, by omega, fun j h h' hji => ?_⟩
        by_cases e : j = i
        · subst e; exact he
        · exact hj j h h' (by omega)
      · rw [if_neg he]
        refine .inr ⟨_, rfl, ?_⟩
        rw [if_neg]
        rintro rfl
        exact he rfl
    · obtain rfl : i = a.length := by omega
      rw [hE]
      refine .inr ⟨_, rfl, ?_⟩
      rw [if_pos (List.ext_getElem hl fun j h h' => hj j h h' h)]) big 0 0 ⟨rfl, by omega, fun j _ _ h => by omega⟩ (by rw [big_eq]; omega)
  rw [h1, h2]
theorem contains_tot {α : Type} {p : α → Option Bool} {f : α → Bool} : ∀ (l : List α), (∀ x ∈ l, p x = some (f x)) → l.length < 1000000 → containsM p l = some (l.any f) := by
  have key : ∀ (l : List α) (i : Nat), (∀ x ∈ l, p x = some (f x)) → ∃ r, idxM p l i = some r ∧ (0 ≤ r ↔ l.any f = true) := by
    intro l
    induction l with
    | nil => intro i _; exact ⟨-1, rfl, by simp⟩
    | cons x l ih =>
      intro i h
      unfold idxM
      rw [h x (by simp)]
      simp only [Option.bind_some]
      by_cases hx : f x = true
      · rw [if_pos hx]; exact ⟨_, rfl, by simp [hx]⟩
      · rw [if_neg hx]
        obtain ⟨r, h1, h2⟩ := ih (i + 1) (fun y hy => h y (by simp [hy]))
        exact ⟨r, h1, by rw [h2]; simp [hx]⟩
  intro l h hl
  obtain ⟨r, h1, h2⟩ := key l 0 h
  unfold containsM indexM ck
  rw [if_pos (by omega)]
  simp only [Option.bind_some]
  rw [h1]
  simp only [Option.bind_some]
  congr 1
  cases ha : l.any f with
  | true => simp [h2.2 ha]
  | false =>
    have : ¬ 0 ≤ r := fun h => by have := h2.1 h; rw [ha] at this; cases this
    simp [this]
end Go.Proofs.YtnmljicimdhpmaaDoor.AL

/- Plain laws: names. -/
set_option linter.all false
namespace Go.Proofs.YtnmljicimdhpmaaDoor.AL
open Go Go.Proofs

def letP (n : Int) : Bool := decide ((97 ≤ n ∧ n ≤ 122) ∨ (48 ≤ n ∧ n ≤ 57) ∨ n = 46 ∨ n = 95 ∨ n = 45)
theorem letter_eq (n : Int) : m_ref03_letter n = some (letP n) := by
  unfold m_ref03_letter letP
  repeat' split
  all_goals (congr 1; symm; first | (apply decide_eq_true; omega) | (apply decide_eq_false; omega))
theorem nletter_eq (n : Int) : m_name_letter n = some (letP n) := letter_eq n
def rightP (s : ByteArray) : Bool := decide (1 ≤ s.size ∧ s.size ≤ 12 ∧ ¬ s = ⟨#[46]⟩ ∧ ¬ s = ⟨#[46, 46]⟩) && s.data.toList.all fun b => letP b.toNat
theorem bsize (s : ByteArray) : s.data.toList.length = s.size := by simp
theorem ixB_at {s : ByteArray} {i : Nat} (h : i < s.size) : ixB s (i : Int) = some (s.data.toList[i]'(by rw [bsize]; exact h)) := by
  unfold ixB
  rw [if_pos (by omega)]
  simp [h]
  rfl
theorem right_eq (s : ByteArray) : m_ref03_Right s = some (rightP s) := by
  unfold m_ref03_Right rightP
  by_cases h1 : (s.size : Int) < 1
  · rw [if_pos h1, decide_eq_false (by omega)]; rfl
  rw [if_neg h1]
  by_cases h2 : 12 < (s.size : Int)
  · rw [if_pos h2, decide_eq_false (by omega)]; rfl
  rw [if_neg h2]
  by_cases h3 : s = ⟨#[46]⟩
  · rw [if_pos h3, decide_eq_false (fun h => h.2.2.1 h3)]; rfl
  rw [if_neg h3]
  by_cases h4 : s = ⟨#[46, 46]⟩
  · rw [if_pos h4, decide_eq_false (fun h => h.2.2.2 h4)]; rfl
  rw [if_neg h4, decide_eq_true ⟨by omega, by omega, h3, h4⟩]
  have hb := bsize s
  obtain ⟨r, e1, e2⟩ := iter_term (B := m_ref03_Right_b0 s) (R := fun r => match r with | .inl _ => (s.data.toList.all fun b => letP b.toNat) = true | .inr r => r = false ∧ (s.data.toList.all fun b => letP b.toNat) = false)
    (fun i t => t = (i : Int) ∧ i ≤ s.size ∧ ∀ j (h : j < s.data.toList.length), j < i → letP (s.data.toList[j]).toNat = true) s.size (by
    rintro i t ⟨rfl, hi, hj⟩
    refine ⟨hi, ?_⟩
    simp only [m_ref03_Right_b0]
    by_cases hlt : i < s.size
    · rw [if_pos (by omega), ixB_at hlt]
      simp only [Option.bind_some]
      rw [letter_eq]
      simp only [Option.bind_some]
      by_cases hl : letP (s.data.toList[i]'(by omega)).toNat = true
      · rw [hl, if_neg (by simp), wr_suc (by omega)]
        refine .inl ⟨_, rfl, rfl, by omega, fun j h hj' => ?_⟩
        by_cases e : j = i
        · subst e; exact hl
        · exact hj j h (by omega)
      · rw [if_pos (by simpa using hl)]
        refine .inr ⟨_, rfl, rfl, ?_⟩
        rw [List.all_eq_false]
        exact ⟨_, List.getElem_mem (by omega), hl⟩
    · rw [if_neg (by omega)]
      refine .inr ⟨_, rfl, ?_⟩
      simp only
      rw [List.all_eq_true]
      intro b hb'
      obtain ⟨j, h, rfl⟩ := List.getElem_of_mem hb'
      exact hj j h (by omega)) big 0 0 ⟨rfl, by omega, fun j _ h => by omega⟩ (by rw [big_eq]; omega)
  rw [e1]
  cases r with
  | inl u => simp only at e2; rw [e2]; rfl
  | inr r => simp only at e2; rw [e2.1, e2.2]; rfl
/-- The runes of a text are all letters just if its bytes are. -/
theorem idx_letters (s : ByteArray) : ∀ (f pos : Nat), pos ≤ s.size → s.size ≤ f + pos → (Lib.idxFuncFrom (fun x => !letP (x : Int)) true s f pos < 0 ↔ ∀ j (h : j < s.data.toList.length), pos ≤ j → letP (s.data.toList[j]).toNat = true)
  | 0, pos, h1, h2 => by
    have hb := bsize s
    simp only [Lib.idxFuncFrom]
    exact ⟨fun _ j h hj => by omega, fun _ => by omega⟩
  | f + 1, pos, h1, h2 => by
    have hb := bsize s
    unfold Lib.idxFuncFrom
    by_cases hlt : pos < s.size
    · rw [if_pos hlt]
      have hg : s[pos]'hlt = s.data.toList[pos]'(by omega) := rfl
      by_cases ha : (s[pos]'hlt).toNat < 128
      · rw [decode_ascii s pos hlt ha]
        simp only
        by_cases hl : letP ((s[pos]'hlt).toNat : Int) = true
        · rw [if_neg (by simp [hl])]
          rw [idx_letters s f (pos + 1) (by omega) (by omega)]
          constructor
          · intro h j hj hpj
            by_cases e : j = pos
            · subst e; rw [← hg]; exact hl
            · exact h j hj (by omega)
          · intro h j hj hpj
            exact h j hj (by omega)
        · rw [if_pos (by simpa using hl)]
          constructor
          · intro h; omega
          · intro h
            have := h pos (by omega) (Nat.le_refl _)
            rw [← hg] at this
            exact absurd this hl
      · obtain ⟨d1, d2⟩ := decode_high s pos hlt (by omega)
        have hno : letP (((Utf8.decode s pos).1 : Nat) : Int) = false := by
          unfold letP
          apply decide_eq_false
          omega
        rw [if_pos (by simp [hno])]
        constructor
        · intro h; omega
        · intro h
          have := h pos (by omega) (Nat.le_refl _)
          rw [← hg] at this
          unfold letP at this
          have := of_decide_eq_true this
          omega
    · rw [if_neg hlt]
      exact ⟨fun _ j h hj => by omega, fun _ => by omega⟩
theorem nright_eq (s : ByteArray) : m_name_Right s = some (rightP s) := by
  have hb := bsize s
  unfold m_name_Right rightP
  by_cases h1 : (s.size : Int) = 0
  · rw [if_pos h1, decide_eq_false (by omega)]; rfl
  rw [if_neg h1]
  by_cases h2 : 12 < (s.size : Int)
  · rw [if_pos h2, decide_eq_false (by omega)]; rfl
  rw [if_neg h2]
  by_cases h3 : s = ⟨#[46]⟩
  · rw [if_pos h3, decide_eq_false (fun h => h.2.2.1 h3)]; rfl
  rw [if_neg h3]
  by_cases h4 : s = ⟨#[46, 46]⟩
  · rw [if_pos h4, decide_eq_false (fun h => h.2.2.2 h4)]; rfl
  rw [if_neg h4, decide_eq_true ⟨by omega, by omega, h3, h4⟩]
  have hp : ∀ x : Int, m_name_Right_1 x = some (!letP x) := fun x => by unfold m_name_Right_1; rw [nletter_eq]; rfl
  unfold idxFM ck
  rw [if_pos (fun x => by show (m_name_Right_1 _).isSome = true; rw [hp]; rfl)]
  simp only [Option.bind_some, hp, Option.getD_some]
  have key := idx_letters s s.size 0 (by omega) (by omega)
  unfold Lib.idxFunc
  by_cases ha : (s.data.toList.all fun b => letP b.toNat) = true
  · rw [if_pos (key.2 fun j h _ => List.all_eq_true.1 ha _ (List.getElem_mem h)), ha]; rfl
  · rw [if_neg (fun h => ha (List.all_eq_true.2 fun b hb' => by obtain ⟨j, hj, rfl⟩ := List.getElem_of_mem hb'; exact key.1 h j hj (by omega)))]
    simp only [Bool.not_eq_true] at ha
    rw [ha]; rfl
end Go.Proofs.YtnmljicimdhpmaaDoor.AL

/- Plain laws: the parts of a path. -/
set_option linter.all false
namespace Go.Proofs.YtnmljicimdhpmaaDoor.AL
open Go Go.Proofs

def mkB (l : List UInt8) : ByteArray := ⟨l.toArray⟩
theorem mkB_toList (l : List UInt8) : (mkB l).data.toList = l := rfl
theorem mkB_of (s : ByteArray) : mkB s.data.toList = s := rfl
theorem mkB_app (a b : List UInt8) : mkB a ++ mkB b = mkB (a ++ b) := by
  apply ByteArray.ext
  simp [mkB]
theorem mkB_size (a : List UInt8) : (mkB a).size = a.length := by simp [mkB, ByteArray.size]
/-- Cut at each stroke. -/
def splitL : List UInt8 → List (List UInt8)
  | [] => [[]]
  | b :: l => if b = 47 then [] :: splitL l else match splitL l with
    | [] => [[b]]
    | h :: t => (b :: h) :: t
theorem splitL_ne (l : List UInt8) : splitL l ≠ [] := by
  cases l with
  | nil => simp [splitL]
  | cons b l =>
    unfold splitL
    split
    · simp
    · split <;> simp
theorem isPrefix_one (b : UInt8) (l : List UInt8) : List.isPrefixOf [47] (b :: l) = ((47 : UInt8) == b) := by simp [List.isPrefixOf]
theorem index_cons (b : UInt8) (l sub : List UInt8) : Lib.index (b :: l) sub = if sub.isPrefixOf (b :: l) = true then 0 else if (Lib.index l sub == -1) = true then -1 else Lib.index l sub + 1 := rfl
theorem splitK_one : ∀ l : List UInt8, Lib.splitK [47] 0 (l.count 47) l = splitL l
  | [] => rfl
  | b :: l => by
    have ih := splitK_one l
    unfold splitL
    by_cases hb : b = 47
    · subst hb
      rw [if_pos rfl, List.count_cons_self]
      unfold Lib.splitK
      have hi : Lib.index (47 :: l) [47] = 0 := by rw [index_cons, isPrefix_one]; rfl
      rw [hi]
      simp only [Int.reduceNeg, Int.reduceBEq, Bool.false_eq_true, if_false]
      rw [← ih]
      rfl
    · rw [if_neg hb, List.count_cons_of_ne hb]
      have hp : List.isPrefixOf [47] (b :: l) = false := by rw [isPrefix_one]; exact beq_eq_false_iff_ne.2 (fun h => hb h.symm)
      have hg := Lib.index_ge l [47]
      by_cases hm : Lib.index l [47] = -1
      · have hi : Lib.index (b :: l) [47] = -1 := by rw [index_cons, hp, hm]; rfl
        have e1 : ∀ k, Lib.splitK [47] 0 k (b :: l) = [b :: l] := by
          intro k
          cases k with
          | zero => rfl
          | succ k => unfold Lib.splitK; rw [hi]; rfl
        have e2 : ∀ k, Lib.splitK [47] 0 k l = [l] := by
          intro k
          cases k with
          | zero => rfl
          | succ k => unfold Lib.splitK; rw [hm]; rfl
        rw [e2] at ih
        rw [e1, ← ih]
      · have hi : Lib.index (b :: l) [47] = Lib.index l [47] + 1 := by
          have : (Lib.index l [47] == -1) = false := beq_eq_false_iff_ne.2 hm
          rw [index_cons, hp, this]
          rfl
        have hc := Lib.count_hit (s := l) (sub := [47]) (i := (Lib.index l [47]).toNat) (by simp) (by omega)
        rw [Lib.count_one] at hc
        obtain ⟨k, hk⟩ : ∃ k, l.count 47 = k + 1 := ⟨l.count 47 - 1, by omega⟩
        rw [hk] at ih ⊢
        unfold Lib.splitK at ih ⊢
        have n1 : ¬ (Lib.index l [47] == -1) = true := by simpa using hm
        have n2 : ¬ (Lib.index (b :: l) [47] == -1) = true := by rw [hi]; simp; omega
        rw [if_neg n1] at ih
        rw [if_neg n2, ← ih, hi]
        have e : (Lib.index l [47] + 1).toNat = (Lib.index l [47]).toNat + 1 := by omega
        rw [e]
        simp
def partsP (s : ByteArray) : List ByteArray := (splitL (s.data.toList.drop 1)).map mkB
def absP (s : ByteArray) : Bool := List.isPrefixOf [47] s.data.toList
theorem absP_iff (s : ByteArray) : absP s = true ↔ s.data.toList[0]? = some 47 := by
  unfold absP
  cases h : s.data.toList with
  | nil => simp
  | cons b l =>
    rw [isPrefix_one]
    simp
    exact eq_comm
theorem myParts_eq {s : ByteArray} (hs : s.size ≤ 100000) : m_path_parts s = some (if absP s = true then (partsP s, true) else ([], false)) := by
  have hb := bsize s
  unfold m_path_parts m_strings_CutPrefix
  simp only [Option.bind_some]
  have hd : (ByteArray.mk #[47]).data.toList = [47] := rfl
  have hh : Lib.hasPrefix s.data.toList [47] = absP s := rfl
  rw [hh]
  by_cases ha : absP s = true
  · rw [ha, if_neg (by simp), if_pos rfl]
    have ht : Lib.trimPrefix s.data.toList [47] = s.data.toList.drop 1 := by unfold Lib.trimPrefix; rw [hh, if_pos ha]; rfl
    rw [ht]
    unfold m_strings_Split ck
    have hsz : (⟨(s.data.toList.drop 1).toArray⟩ : ByteArray).size = s.size - 1 := by
      have := mkB_size (s.data.toList.drop 1)
      rw [List.length_drop, hb] at this
      exact this
    rw [if_pos ⟨by rw [hsz]; omega, by decide⟩]
    simp only [Option.bind_some]
    congr 2
    have h1 := Lib.splitB_data (ByteArray.mk #[47]) 0 (Lib.countB (mkB (s.data.toList.drop 1)) (ByteArray.mk #[47])) (mkB (s.data.toList.drop 1))
    rw [hd, mkB_toList] at h1
    have h2 : Lib.countB (mkB (s.data.toList.drop 1)) (ByteArray.mk #[47]) = (s.data.toList.drop 1).count 47 := by
      show Lib.count (mkB (s.data.toList.drop 1)).data.toList (ByteArray.mk #[47]).data.toList = _
      rw [hd, mkB_toList, Lib.count_one]
    rw [h2, splitK_one] at h1
    unfold partsP
    rw [← h1, List.map_map]
    have h3 : (mkB ∘ fun x : ByteArray => x.data.toList) = id := by funext x; rfl
    rw [h3, List.map_id]
    show Lib.splitB _ 0 (Lib.countB (mkB (s.data.toList.drop 1)) _) _ = _
    rw [h2]
    rfl
  · rw [if_neg ha]
    simp only [Bool.not_eq_true] at ha
    rw [ha]
    rfl
end Go.Proofs.YtnmljicimdhpmaaDoor.AL

/- Plain laws: the document's parts, and joins. -/
set_option linter.all false
namespace Go.Proofs.YtnmljicimdhpmaaDoor.AL
open Go Go.Proofs

def pStep (t : List (List UInt8) × List UInt8) (b : UInt8) : List (List UInt8) × List UInt8 := if b = 47 then (t.1 ++ [t.2], []) else (t.1, t.2 ++ [b])
theorem pFold : ∀ (l : List UInt8) (A : List (List UInt8)) (cur : List UInt8), (l.foldl pStep (A, cur)).1 ++ [(l.foldl pStep (A, cur)).2] = A ++ (match splitL l with | [] => [cur] | h :: t => (cur ++ h) :: t)
  | [], A, cur => by simp [splitL]
  | b :: l, A, cur => by
    rw [List.foldl_cons]
    unfold splitL pStep
    by_cases hb : b = 47
    · simp only [if_pos hb]
      have h := pFold l (A ++ [cur]) []
      unfold pStep at h
      rw [h]
      cases hsl : splitL l with
      | nil => exact absurd hsl (splitL_ne l)
      | cons x t => simp
    · simp only [if_neg hb]
      have h := pFold l A (cur ++ [b])
      unfold pStep at h
      rw [h]
      cases hsl : splitL l with
      | nil => exact absurd hsl (splitL_ne l)
      | cons x t => simp
theorem extract_one (s : ByteArray) (i : Nat) (h : i < s.size) : s.extract i (i + 1) = mkB [s.data.toList[i]'(by rw [bsize]; exact h)] := by
  have hb := bsize s
  rw [← mkB_of (s.extract i (i + 1)), Lib.extract_data]
  congr 1
  rw [show i + 1 - i = 1 by omega]
  rw [List.take_one, List.head?_drop, List.getElem?_eq_getElem (by omega)]
  rfl
theorem refParts_eq {s : ByteArray} (hs : s.size ≤ 100000) (h1 : 1 ≤ s.size) : m_ref04_parts s = some (partsP s) := by
  have hb := bsize s
  unfold m_ref04_parts
  have key := iter_fold (B := m_ref04_parts_b0 s) (fun (i : Nat) (t : List (List UInt8) × List UInt8) => ((t.1 ++ [t.2]).map mkB, (i : Int) + 1)) (s.data.toList.drop 1) pStep (fun t => (t.1 ++ [t.2]).map mkB) (fun i t => t.1.length ≤ i ∧ t.2.length ≤ i) (by
    rintro i ⟨A, cur⟩ hi ⟨hA, hc⟩
    simp only at hA hc
    have hi' : i + 1 < s.size := by simp at hi; omega
    have hx : (s.data.toList.drop 1)[i] = s.data.toList[i + 1]'(by omega) := by
      rw [List.getElem_drop]
      congr 1
      omega
    rw [hx]
    generalize hbv : s.data.toList[i + 1]'(by omega) = b
    refine ⟨?_, ?_⟩
    rotate_left
    · unfold pStep
      split
      · simp; omega
      · simp; omega
    simp only [m_ref04_parts_b0]
    have hix : ixB s ((i : Int) + 1) = some b := by
      have := ixB_at (s := s) (i := i + 1) hi'
      rw [hbv] at this
      exact this
    have hwr : wr ((i : Int) + 1 + 1) = ((i + 1 : Nat) : Int) + 1 := by rw [wr_in (by omega) (by omega)]; omega
    rw [if_pos (by omega), hix]
    simp only [Option.bind_some]
    by_cases hb47 : b = 47
    · have e47 : (b.toNat : Int) = 47 := by subst hb47; rfl
      rw [if_pos e47, ap_of (by simp; omega) (by omega), hwr]
      simp only [Option.bind_some, pStep, if_pos hb47]
      congr 2
      simp [mkB, noBytes]
    · have e47 : ¬ (b.toNat : Int) = 47 := by
        intro h
        apply hb47
        apply UInt8.toNat.inj
        have : b.toNat = 47 := by omega
        rw [this]; rfl
      have hlen : (((A ++ [cur]).map mkB).length : Int) - 1 = (A.length : Int) := by simp
      have hw : wr ((((A ++ [cur]).map mkB).length : Int) - 1) = (A.length : Int) := by rw [hlen, wr_in (by omega) (by omega)]
      rw [if_neg e47, hw, ix_at (show A.length < ((A ++ [cur]).map mkB).length by simp)]
      simp only [Option.bind_some]
      have hst : strM s (some ((i : Int) + 1)) (some (wr ((i : Int) + 1 + 1))) = some (mkB [b]) := by
        unfold strM
        rw [hwr]
        simp only [Option.getD_some]
        rw [if_pos (by omega)]
        have e1 : ((i : Int) + 1).toNat = i + 1 := by omega
        have e2 : (((i + 1 : Nat) : Int) + 1).toNat = i + 1 + 1 := by omega
        rw [e1, e2, extract_one s (i + 1) hi', hbv]
      rw [hst]
      simp only [Option.bind_some]
      have hel : ((A ++ [cur]).map mkB)[A.length]'(by simp) = mkB cur := by simp
      rw [hel]
      unfold ck
      rw [if_pos (by rw [mkB_size, mkB_size]; simp; omega)]
      simp only [Option.bind_some, hwr, pStep, if_neg hb47]
      congr 2
      simp only [Int.toNat_natCast]
      rw [mkB_app, List.map_append, List.map_append]
      simp) (by
    rintro ⟨A, cur⟩ _
    simp only [m_ref04_parts_b0]
    rw [if_neg (by simp; omega)]) (s0 := ([], [])) (by simp) (fuel := big) (by rw [big_eq]; simp; omega)
  have h2 := key.1
  have e1 : ((([] : List (List UInt8)) ++ [([] : List UInt8)]).map mkB, ((0 : Nat) : Int) + 1) = (([noBytes] : List ByteArray), (1 : Int)) := rfl
  simp only at h2
  rw [e1] at h2
  rw [h2]
  simp only [Option.bind_some]
  congr 1
  unfold partsP
  rw [pFold]
  cases hsl : splitL (s.data.toList.drop 1) with
  | nil => exact absurd hsl (splitL_ne _)
  | cons x t => simp
/-! ### Joins -/
def joinP (l : List ByteArray) : ByteArray := mkB (47 :: Lib.join (l.map fun x => x.data.toList) [47])
theorem myJoin_eq {l : List ByteArray} (h1 : l.length ≤ 140737488355328) (h2 : (Lib.join (l.map fun x => x.data.toList) [47]).length ≤ 140737488355328) : m_path_Join l = some (joinP l) := by
  unfold m_path_Join m_strings_Join joinM ck
  have hd : (ByteArray.mk #[47]).data.toList = [47] := rfl
  rw [hd, if_pos ⟨h1, h2⟩]
  simp only [Option.bind_some]
  have e : (⟨(Lib.join (l.map fun x => x.data.toList) [47]).toArray⟩ : ByteArray) = mkB (Lib.join (l.map fun x => x.data.toList) [47]) := rfl
  rw [e, if_pos (by rw [mkB_size]; show 1 + _ ≤ _; omega)]
  simp only [Option.bind_some]
  show some (mkB [47] ++ mkB _) = _
  rw [mkB_app]
  rfl
theorem refJoin_eq {l : List ByteArray} (h1 : l.length ≤ 140737488355328) (h2 : (Lib.join (l.map fun x => x.data.toList) [47]).length ≤ 140737488355328) : m_ref04_Join l = some (joinP l) := by
  unfold m_ref04_Join
  cases l with
  | nil =>
    rw [show big = 999999999999999999 + 1 from rfl, iter_succ]
    simp only [m_ref04_Join_b0, List.length_nil]
    rfl
  | cons x r =>
    rw [List.map_cons, Lib.join_cons] at h2
    simp only [List.length_cons] at h1
    obtain ⟨v, e1, e2⟩ := iter_term (B := m_ref04_Join_b0 (x :: r)) (R := fun v => v = joinP (x :: r))
      (fun i t => i ≤ r.length + 1 ∧ t = (mkB (47 :: (if i = 0 then [] else x.data.toList ++ Lib.joinTail [47] ((r.map fun x => x.data.toList).take (i - 1)))), (i : Int))) (r.length + 1) (by
      rintro i t ⟨hi, rfl⟩
      refine ⟨hi, ?_⟩
      simp only [m_ref04_Join_b0, List.length_cons]
      have hx := bsize x
      by_cases hlt : i < r.length + 1
      · rw [if_pos (by omega)]
        cases i with
        | zero =>
          rw [if_neg (by omega)]
          have : ix (x :: r) ((0 : Nat) : Int) = some x := ix_at (xs := x :: r) (i := 0) (by simp)
          rw [this]
          simp only [Option.bind_some, if_true]
          unfold ck
          have hsz : (mkB [47]).size = 1 := rfl
          rw [if_pos (by rw [hsz]; simp only [List.length_append] at h2; omega), wr_suc (by omega)]
          refine .inl ⟨_, rfl, by omega, ?_⟩
          have : mkB [47] ++ x = mkB (47 :: x.data.toList) := by
            conv => lhs; rw [← mkB_of x]
            rw [mkB_app]; rfl
          rw [this]
          simp [Lib.joinTail]
        | succ k =>
          have hk : k < r.length := by omega
          have hkr : (r.map fun x => x.data.toList)[k]? = some (r[k].data.toList) := by simp [hk]
          have hle := Lib.joinTail_take_le [47] (r.map fun x => x.data.toList) k
          have hle2 := Lib.joinTail_take_le [47] (r.map fun x => x.data.toList) (k + 1)
          have hs2 := Lib.joinTail_take_succ [47] (r.map fun x => x.data.toList) k _ hkr
          have hs3 := congrArg List.length hs2
          simp only [List.length_append, List.length_cons, List.length_nil] at hs3 h2
          have hrk := bsize r[k]
          rw [if_pos (by omega)]
          have hix : ix (x :: r) ((k + 1 : Nat) : Int) = some r[k] := by
            have := ix_at (xs := x :: r) (i := k + 1) (by simp; omega)
            rw [this]; rfl
          unfold ck
          have h47 : (ByteArray.mk #[47]).size = 1 := rfl
          rw [h47, if_pos (by rw [mkB_size]; simp; omega)]
          simp only [Option.bind_some]
          rw [hix]
          simp only [Option.bind_some]
          have e47 : (ByteArray.mk #[47]) = mkB [47] := rfl
          rw [e47, mkB_app, if_pos (by rw [mkB_size]; simp; omega), wr_suc (by omega)]
          refine .inl ⟨_, rfl, by omega, ?_⟩
          congr 1
          conv => lhs; rw [← mkB_of r[k]]
          rw [mkB_app]
          congr 1
          simp only [Nat.add_sub_cancel, Nat.succ_ne_zero, if_false, hs2]
          simp
      · rw [if_neg (by omega)]
        refine .inr ⟨_, rfl, ?_⟩
        have : i = r.length + 1 := by omega
        subst this
        unfold joinP
        rw [List.map_cons, Lib.join_cons]
        simp only [Nat.add_sub_cancel, Nat.succ_ne_zero, if_false]
        rw [List.take_of_length_le (by simp)]) big 0 (mkB [47], 0) ⟨by omega, rfl⟩ (by rw [big_eq]; omega)
    have e0 : iter (m_ref04_Join_b0 (x :: r)) big (ByteArray.mk #[47], 0) = some v := e1
    rw [e0, e2]
    rfl
end Go.Proofs.YtnmljicimdhpmaaDoor.AL

/- Plain laws: paths: split, cleaned, redirects, beginnings. -/
set_option linter.all false
namespace Go.Proofs.YtnmljicimdhpmaaDoor.AL
open Go Go.Proofs

theorem splitL_len : ∀ l : List UInt8, (splitL l).length ≤ l.length + 1
  | [] => by simp [splitL]
  | b :: l => by
    have ih := splitL_len l
    unfold splitL
    split
    · simp; omega
    · split
      · simp
      · rename_i h t e
        rw [e] at ih
        simp only [List.length_cons] at ih ⊢
        omega
theorem partsP_len (s : ByteArray) : (partsP s).length ≤ s.size + 1 := by
  have := splitL_len (s.data.toList.drop 1)
  have hb := bsize s
  unfold partsP
  simp only [List.length_map, List.length_drop] at this ⊢
  omega
theorem abs_size {s : ByteArray} (h : absP s = true) : 1 ≤ s.size := by
  rw [absP_iff] at h
  have := (List.getElem?_eq_some_iff.1 h).1
  rw [bsize] at this
  omega
theorem abs_ix {s : ByteArray} (h : 1 ≤ s.size) : ∃ b, ixB s 0 = some b ∧ ((b.toNat : Int) = 47 ↔ absP s = true) := by
  have hb := bsize s
  refine ⟨_, ixB_at (s := s) (i := 0) (by omega), ?_⟩
  rw [absP_iff, List.getElem?_eq_getElem (by omega), Option.some.injEq]
  constructor
  · intro e
    apply UInt8.toNat.inj
    have : (s.data.toList[0]'(by omega)).toNat = 47 := by omega
    rw [this]; rfl
  · intro e; rw [e]; rfl
def rootB : ByteArray := ⟨#[47]⟩
def splitP (s : ByteArray) : List ByteArray × Bool := if s = rootB then ([], true) else if absP s = true ∧ (partsP s).all rightP = true then (partsP s, true) else ([], false)
theorem mySplit_eq {s : ByteArray} (hs : s.size ≤ 100000) : m_path_Split s = some (splitP s) := by
  have hl := partsP_len s
  unfold m_path_Split splitP
  rw [myParts_eq hs]
  simp only [Option.bind_some]
  by_cases h1 : s = rootB
  · have h1' : s = ByteArray.mk #[47] := h1
    rw [if_pos h1', if_pos h1]
  · have h1' : ¬ s = ByteArray.mk #[47] := h1
    rw [if_neg h1', if_neg h1]
    by_cases ha : absP s = true
    · rw [if_pos ha, if_neg (by simp), contains_tot (f := fun z => !rightP z) _ (fun z _ => by unfold m_path_Split_1; rw [nright_eq]; rfl) (by show (partsP s).length < _; omega)]
      simp only [Option.bind_some]
      by_cases hr : (partsP s).all rightP = true
      · have : ¬ ((partsP s).any fun z => !rightP z) = true := by
          rw [List.all_eq_true] at hr
          simp only [List.any_eq_true, not_exists, not_and]
          intro x hx
          simp [hr x hx]
        rw [if_neg this, if_pos ⟨ha, hr⟩]
      · have : ((partsP s).any fun z => !rightP z) = true := by
          simp only [Bool.not_eq_true, List.all_eq_false] at hr
          obtain ⟨x, hx, hn⟩ := hr
          exact List.any_eq_true.2 ⟨x, hx, by simpa using hn⟩
        rw [if_pos this, if_neg (fun h => hr h.2)]
    · rw [if_neg ha, if_pos (by simp), if_neg (fun h => ha h.1)]
theorem refSplit_eq {s : ByteArray} (hs : s.size ≤ 100000) : m_ref04_Split s = some (splitP s) := by
  have hl := partsP_len s
  unfold m_ref04_Split splitP
  by_cases h1 : s = rootB
  · have h1' : s = ByteArray.mk #[47] := h1
    rw [if_pos h1', if_pos h1]
  · have h1' : ¬ s = ByteArray.mk #[47] := h1
    rw [if_neg h1', if_neg h1]
    by_cases h0 : (s.size : Int) = 0
    · rw [if_pos h0, if_neg (fun h => by have := abs_size h.1; omega)]
    · rw [if_neg h0]
      obtain ⟨b, e1, e2⟩ := abs_ix (s := s) (by omega)
      rw [e1]
      simp only [Option.bind_some]
      by_cases ha : absP s = true
      · rw [if_pos (e2.2 ha), refParts_eq hs (by omega)]
        simp only [Option.bind_some]
        generalize partsP s = l at hl
        obtain ⟨r, g1, g2⟩ := iter_term (B := m_ref04_Split_b0 l) (R := fun r => match r with | .inl _ => l.all rightP = true | .inr q => q = ([], false) ∧ ¬ l.all rightP = true)
          (fun i t => t = (i : Int) ∧ i ≤ l.length ∧ ∀ j (h : j < l.length), j < i → rightP l[j] = true) l.length (by
          rintro i t ⟨rfl, hi, hj⟩
          refine ⟨hi, ?_⟩
          simp only [m_ref04_Split_b0]
          by_cases hlt : i < l.length
          · rw [if_pos (by omega), ix_at hlt]
            simp only [Option.bind_some]
            rw [right_eq]
            simp only [Option.bind_some]
            by_cases hr : rightP l[i] = true
            · rw [hr, if_neg (by simp), wr_suc (by omega)]
              refine .inl ⟨_, rfl, rfl, by omega, fun j h hj' => ?_⟩
              by_cases e : j = i
              · subst e; exact hr
              · exact hj j h (by omega)
            · rw [if_pos (by simpa using hr)]
              exact .inr ⟨_, rfl, rfl, fun h => hr (List.all_eq_true.1 h _ (List.getElem_mem hlt))⟩
          · rw [if_neg (by omega)]
            refine .inr ⟨_, rfl, ?_⟩
            simp only
            rw [List.all_eq_true]
            intro x hx
            obtain ⟨j, h, rfl⟩ := List.getElem_of_mem hx
            exact hj j h (by omega)) big 0 0 ⟨rfl, by omega, fun j _ h => by omega⟩ (by rw [big_eq]; omega)
        rw [g1]
        simp only [Option.bind_some]
        cases r with
        | inl u => simp only at g2; rw [if_pos ⟨ha, g2⟩]
        | inr q => simp only at g2; rw [if_neg (fun h => g2.2 h.2), g2.1]
      · rw [if_neg (fun h => ha (e2.1 h)), if_neg (fun h => ha h.1)]
/-! ### Cleaned -/
def dotB : ByteArray := ⟨#[46]⟩
def dotsB : ByteArray := ⟨#[46, 46]⟩
def cleanF : List ByteArray → List ByteArray → Option (List ByteArray)
  | [], out => some out
  | x :: l, out => if x = noBytes then cleanF l out else if x = dotB then cleanF l out else if x = dotsB then (if out.length = 0 then none else cleanF l (out.take (out.length - 1))) else if rightP x = true then cleanF l (out ++ [x]) else none
def cleanR : Option (List ByteArray) → ByteArray × Bool
  | some o => (joinP o, true)
  | none => (noBytes, false)
def cleanP (s : ByteArray) : ByteArray × Bool := if absP s = true then cleanR (cleanF (partsP s) []) else (noBytes, false)
theorem right_size {s : ByteArray} (h : rightP s = true) : 1 ≤ s.size ∧ s.size ≤ 12 ∧ ¬ s = dotB ∧ ¬ s = dotsB := by
  unfold rightP at h
  rw [Bool.and_eq_true] at h
  exact of_decide_eq_true h.1
theorem join_le : ∀ (o : List ByteArray), (∀ x ∈ o, rightP x = true) → (Lib.join (o.map fun x => x.data.toList) [47]).length ≤ 13 * o.length
  | [], _ => by simp [Lib.join_nil]
  | x :: r, h => by
    rw [List.map_cons, Lib.join_cons, List.length_append, Lib.joinTail_length]
    have hl : ∀ (r : List ByteArray), (∀ x ∈ r, rightP x = true) → Lib.lens (r.map fun x => x.data.toList) ≤ 12 * r.length := by
      intro r
      induction r with
      | nil => intro _; simp [Lib.lens]
      | cons y r ih =>
        intro h
        have := ih fun z hz => h z (by simp [hz])
        have hy := right_size (h y (by simp))
        have hb := bsize y
        simp only [Lib.lens, List.map_cons, List.sum_cons, List.length_cons] at this ⊢
        omega
    have h1 := hl r fun z hz => h z (by simp [hz])
    have h2 := right_size (h x (by simp))
    have hb := bsize x
    simp only [List.length_map, List.length_cons, List.length_nil] at h1 ⊢
    omega
theorem refClean_loop {l : List ByteArray} (hl : l.length ≤ 100001) : ∃ r, iter (m_ref04_Clean_b0 l) big (([] : List ByteArray), 0) = some r ∧ (match r with | .inl o => cleanF l [] = some o ∧ (∀ x ∈ o, rightP x = true) ∧ o.length ≤ l.length | .inr q => q = (noBytes, false) ∧ cleanF l [] = none) := by
  refine iter_term (B := m_ref04_Clean_b0 l) (fun i t => t.2 = (i : Int) ∧ i ≤ l.length ∧ t.1.length ≤ i ∧ (∀ x ∈ t.1, rightP x = true) ∧ cleanF (l.drop i) t.1 = cleanF l []) l.length ?_ big 0 _ ⟨rfl, by omega, by simp, by simp, by simp⟩ (by rw [big_eq]; omega)
  rintro i ⟨out, q⟩ ⟨h1, h2, h3, h4, h5⟩
  simp only at h1 h3 h4 h5
  subst h1
  refine ⟨h2, ?_⟩
  simp only [m_ref04_Clean_b0]
  by_cases hlt : i < l.length
  · rw [if_pos (by omega), ix_at hlt]
    simp only [Option.bind_some]
    rw [List.drop_eq_getElem_cons hlt, cleanF] at h5
    generalize l[i] = x at h5
    rw [wr_suc (by omega)]
    by_cases c1 : x = noBytes
    · rw [if_pos c1] at h5 ⊢
      exact .inl ⟨_, rfl, rfl, by omega, by simp only; omega, h4, h5⟩
    rw [if_neg c1] at h5 ⊢
    by_cases c2 : x = dotB
    · have c2' : x = ByteArray.mk #[46] := c2
      rw [if_pos c2] at h5
      rw [if_pos c2']
      exact .inl ⟨_, rfl, rfl, by omega, by simp only; omega, h4, h5⟩
    have c2' : ¬ x = ByteArray.mk #[46] := c2
    rw [if_neg c2] at h5
    rw [if_neg c2']
    by_cases c3 : x = dotsB
    · have c3' : x = ByteArray.mk #[46, 46] := c3
      rw [if_pos c3] at h5
      rw [if_pos c3']
      by_cases c4 : out.length = 0
      · rw [if_pos c4] at h5
        rw [if_pos (by omega)]
        exact .inr ⟨_, rfl, rfl, h5.symm⟩
      · rw [if_neg c4] at h5
        have hw : wr ((out.length : Int) - 1) = ((out.length - 1 : Nat) : Int) := by rw [wr_in (by omega) (by omega)]; omega
        unfold ck
        rw [if_neg (by omega), hw, if_pos (by omega)]
        simp only [Option.bind_some, Int.toNat_natCast]
        exact .inl ⟨_, rfl, rfl, by omega, by simp; omega, fun y hy => h4 y (List.mem_of_mem_take hy), h5⟩
    have c3' : ¬ x = ByteArray.mk #[46, 46] := c3
    rw [if_neg c3] at h5
    rw [if_neg c3', right_eq]
    simp only [Option.bind_some]
    by_cases c5 : rightP x = true
    · rw [if_pos c5] at h5
      rw [c5, if_neg (by simp), ap_of (by simp; omega) (by omega)]
      refine .inl ⟨_, rfl, rfl, by omega, by simp; omega, fun y hy => ?_, h5⟩
      rcases List.mem_append.1 hy with hy | hy
      · exact h4 y hy
      · simp only [List.mem_singleton] at hy; subst hy; exact c5
    · rw [if_neg c5] at h5
      rw [if_pos (by simpa using c5)]
      exact .inr ⟨_, rfl, rfl, h5.symm⟩
  · rw [if_neg (by omega)]
    have : i = l.length := by omega
    subst this
    rw [List.drop_length, cleanF] at h5
    exact .inr ⟨_, rfl, h5.symm, h4, h3⟩
theorem myClean_loop {l : List ByteArray} (hl : l.length ≤ 100001) : iter (m_path_Clean_b1) (big + 1) (l, []) = some (cleanR (cleanF l [])) := by
  obtain ⟨r, e1, e2⟩ := iter_term (B := m_path_Clean_b1) (R := fun r => r = cleanR (cleanF l [])) (fun i t => t.1 = l.drop i ∧ i ≤ l.length ∧ t.2.length ≤ i ∧ (∀ x ∈ t.2, rightP x = true) ∧ cleanF (l.drop i) t.2 = cleanF l []) l.length (by
    rintro i ⟨v, out⟩ ⟨h1, h2, h3, h4, h5⟩
    simp only at h1 h3 h4 h5
    subst h1
    refine ⟨h2, ?_⟩
    simp only [m_path_Clean_b1]
    by_cases hlt : i < l.length
    · have hne : ¬ ((l.drop i).length : Int) = 0 := by simp; omega
      rw [if_neg hne]
      have hix : ix (l.drop i) 0 = some l[i] := by
        have := ix_at (xs := l.drop i) (i := 0) (by simp; omega)
        rw [show ((0 : Nat) : Int) = 0 from rfl] at this
        rw [this, List.getElem_drop]
        rfl
      have hsl : slM (l.drop i) (some 1) none = some (l.drop (i + 1)) := by
        unfold slM
        simp only [Option.getD_some, Option.getD_none]
        rw [if_pos ⟨by omega, by simp; omega, by omega⟩]
        congr 1
        rw [show (1 : Int).toNat = 1 from rfl, List.drop_drop]
        rw [List.take_of_length_le (by simp; omega)]
      rw [hix]
      simp only [Option.bind_some]
      rw [hsl]
      simp only [Option.bind_some]
      rw [List.drop_eq_getElem_cons hlt, cleanF] at h5
      generalize l[i] = x at h5
      by_cases c1 : x = noBytes
      · rw [if_pos c1] at h5 ⊢
        exact .inl ⟨_, rfl, rfl, by omega, by simp only; omega, h4, h5⟩
      rw [if_neg c1] at h5 ⊢
      by_cases c2 : x = dotB
      · have c2' : x = ByteArray.mk #[46] := c2
        rw [if_pos c2] at h5
        rw [if_pos c2']
        exact .inl ⟨_, rfl, rfl, by omega, by simp only; omega, h4, h5⟩
      have c2' : ¬ x = ByteArray.mk #[46] := c2
      rw [if_neg c2] at h5
      rw [if_neg c2']
      by_cases c3 : x = dotsB
      · have c3' : x = ByteArray.mk #[46, 46] := c3
        rw [if_pos c3] at h5
        rw [if_pos c3']
        by_cases c4 : out.length = 0
        · rw [if_pos c4] at h5
          rw [if_pos (by omega)]
          exact .inr ⟨_, rfl, by rw [← h5]; rfl⟩
        · rw [if_neg c4] at h5
          have hw : wr ((out.length : Int) - 1) = ((out.length - 1 : Nat) : Int) := by rw [wr_in (by omega) (by omega)]; omega
          unfold ck
          rw [if_neg (by omega), hw, if_pos (by omega)]
          simp only [Option.bind_some, Int.toNat_natCast]
          exact .inl ⟨_, rfl, rfl, by omega, by simp; omega, fun y hy => h4 y (List.mem_of_mem_take hy), h5⟩
      have c3' : ¬ x = ByteArray.mk #[46, 46] := c3
      rw [if_neg c3] at h5
      rw [if_neg c3', nright_eq]
      simp only [Option.bind_some]
      by_cases c5 : rightP x = true
      · rw [if_pos c5] at h5
        rw [c5, if_neg (by simp), ap_of (by simp; omega) (by omega)]
        refine .inl ⟨_, rfl, rfl, by omega, by simp; omega, fun y hy => ?_, h5⟩
        rcases List.mem_append.1 hy with hy | hy
        · exact h4 y hy
        · simp only [List.mem_singleton] at hy; subst hy; exact c5
      · rw [if_neg c5] at h5
        rw [if_pos (by simpa using c5)]
        exact .inr ⟨_, rfl, by rw [← h5]; rfl⟩
    · have : i = l.length := by omega
      subst this
      rw [List.drop_length] at h5 ⊢
      rw [cleanF] at h5
      have hj := join_le out h4
      rw [if_pos (by simp), myJoin_eq (by omega) (by omega)]
      exact .inr ⟨_, rfl, by rw [← h5]; rfl⟩) (big + 1) 0 (l, []) ⟨rfl, by omega, by simp, by simp, rfl⟩ (by rw [big_eq]; omega)
  rw [e1, e2]
theorem myClean_eq {s : ByteArray} (hs : s.size ≤ 100000) : m_path_Clean s = some (cleanP s) := by
  have hl := partsP_len s
  unfold m_path_Clean m_path_Clean_p0 cleanP
  rw [myParts_eq hs]
  simp only [Option.bind_some]
  by_cases ha : absP s = true
  · rw [if_pos ha, if_pos ha, if_neg (by simp)]
    simp only [Option.bind_some]
    rw [myClean_loop (by omega)]
    rfl
  · rw [if_neg ha, if_neg ha, if_pos (by simp)]
    rfl
theorem refClean_eq {s : ByteArray} (hs : s.size ≤ 100000) : m_ref04_Clean s = some (cleanP s) := by
  have hl := partsP_len s
  unfold m_ref04_Clean cleanP
  by_cases h0 : (s.size : Int) = 0
  · rw [if_pos h0, if_neg (fun h => by have := abs_size h; omega)]
  · rw [if_neg h0]
    obtain ⟨b, e1, e2⟩ := abs_ix (s := s) (by omega)
    rw [e1]
    simp only [Option.bind_some]
    by_cases ha : absP s = true
    · rw [if_pos (e2.2 ha), if_pos ha, refParts_eq hs (by omega)]
      simp only [Option.bind_some]
      obtain ⟨r, g1, g2⟩ := refClean_loop (l := partsP s) (by omega)
      rw [g1]
      simp only [Option.bind_some]
      cases r with
      | inl o =>
        simp only at g2
        have hj := join_le o g2.2.1
        simp only
        rw [refJoin_eq (by omega) (by omega), g2.1]
        rfl
      | inr q =>
        simp only at g2
        rw [g2.2, g2.1]
        rfl
    · rw [if_neg (fun h => ha (e2.1 h)), if_neg ha]
/-! ### Redirects, lists -/
def redirP (s : ByteArray) : List ByteArray × Bool × Bool := if 24 < s.size then ([], false, false) else if absP s = true then ((splitP s).1, (splitP s).2, (splitP s).2) else if rightP s = true then ([s], false, true) else ([], false, false)
theorem myRedirect_eq {s : ByteArray} (hs : s.size ≤ 100000) : m_path_Redirect s = some (redirP s) := by
  unfold m_path_Redirect redirP m_strings_HasPrefix
  by_cases h1 : 24 < s.size
  · rw [if_pos (by omega), if_pos h1]
  · rw [if_neg (by omega), if_neg h1]
    simp only [Option.bind_some]
    have hh : Lib.hasPrefix s.data.toList (ByteArray.mk #[47]).data.toList = absP s := rfl
    rw [hh]
    by_cases ha : absP s = true
    · rw [if_pos ha, if_pos ha, mySplit_eq hs]; rfl
    · rw [if_neg ha, if_neg ha, nright_eq]
      simp only [Option.bind_some]
      by_cases hr : rightP s = true
      · rw [if_pos hr, if_pos hr]
      · rw [if_neg hr, if_neg hr]
theorem refRedirect_eq {s : ByteArray} (hs : s.size ≤ 100000) : m_ref04_Redirect s = some (redirP s) := by
  have tail : ((m_ref03_Right s).bind fun v12 => if v12 = true then some (([s] : List ByteArray), false, true) else some ([], false, false)) = some (if rightP s = true then ([s], false, true) else ([], false, false)) := by
    rw [right_eq]
    simp only [Option.bind_some]
    by_cases hr : rightP s = true
    · rw [if_pos hr, if_pos hr]
    · rw [if_neg hr, if_neg hr]
  unfold m_ref04_Redirect redirP
  by_cases h1 : 24 < s.size
  · rw [if_pos (by omega), if_pos h1]
  · rw [if_neg (by omega), if_neg h1]
    by_cases h0 : 0 < s.size
    · rw [if_pos (by omega)]
      obtain ⟨b, e1, e2⟩ := abs_ix (s := s) (by omega)
      rw [e1]
      simp only [Option.bind_some]
      by_cases ha : absP s = true
      · rw [if_pos (e2.2 ha), if_pos ha, refSplit_eq hs]; rfl
      · rw [if_neg (fun h => ha (e2.1 h)), if_neg ha]
        exact tail
    · rw [if_neg (by omega), if_neg (fun h => by have := abs_size h; omega)]
      exact tail
theorem equal_str {a b : List ByteArray} (h : a.length ≤ 1000000000) : m_slices_Equal_string_string a b = some (decide (a = b)) := by
  unfold m_slices_Equal_string_string
  by_cases hl : a.length = b.length
  · rw [if_pos (by omega), eqLoop hl h]
    · by_cases he : a = b <;> simp [he]
    · intro i h1 h2
      simp only [m_slices_Equal_string_string_b0]
      rw [if_pos (by omega), ix_at h1, ix_at h2]
      simp only [Option.bind_some]
      rw [wr_suc (by omega)]
    · simp only [m_slices_Equal_string_string_b0]
      rw [if_neg (by omega)]
  · rw [if_neg (by omega)]
    have : ¬ a = b := by rintro rfl; exact hl rfl
    simp [this]
def beginP (a b : List ByteArray) : Bool := decide (a.length ≤ b.length ∧ a = b.take a.length)
theorem myBegins_eq {a b : List ByteArray} (h : a.length ≤ 1000000) (h2 : b.length ≤ 1000000) : m_path_Begins a b = some (beginP a b) := by
  unfold m_path_Begins beginP
  by_cases hl : a.length ≤ b.length
  · rw [if_pos (by omega)]
    have hs : slM b none (some (a.length : Int)) = some (b.take a.length) := by
      unfold slM
      simp only [Option.getD_none, Option.getD_some]
      rw [if_pos (by omega)]
      simp
    rw [hs]
    simp only [Option.bind_some]
    rw [equal_str (by omega)]
    simp only [Option.bind_some, hl, true_and]
  · rw [if_neg (by omega), decide_eq_false (fun h => hl h.1)]
theorem refBegins_eq {a b : List ByteArray} (h : a.length ≤ 1000000) (h2 : b.length ≤ 1000000) : m_ref04_Begins a b = some (beginP a b) := by
  unfold m_ref04_Begins beginP
  by_cases hl : a.length ≤ b.length
  · rw [if_neg (by omega), eqLoop (a := a) (b := b.take a.length) (by simp; omega) (by omega)]
    · by_cases he : a = b.take a.length
      · rw [if_pos he, decide_eq_true ⟨hl, he⟩]; rfl
      · rw [if_neg he, decide_eq_false (fun h => he h.2)]; rfl
    · intro i h1 h3
      simp only [m_ref04_Begins_b0]
      rw [if_pos (by omega), ix_at h1, ix_at (show i < b.length by omega)]
      simp only [Option.bind_some]
      rw [wr_suc (by omega), List.getElem_take]
    · simp only [m_ref04_Begins_b0]
      rw [if_neg (by omega)]
  · rw [if_pos (by omega), decide_eq_false (fun h => hl h.1)]
end Go.Proofs.YtnmljicimdhpmaaDoor.AL

/- Models of functions, and that the functions are as their models: written by gen.py. -/
set_option linter.all false
set_option maxRecDepth 100000
namespace Go.Proofs.YtnmljicimdhpmaaDoor.AL
open Go Go.Proofs
def m_law04_awake  : Option (Bool) := (m_path_Clean (ByteArray.mk #[47, 97, 47, 47, 98, 47, 46, 46, 47, 99, 47])).bind fun v1 => (m_path_Split (ByteArray.mk #[47, 120, 47, 121])).bind fun v3 => (m_path_Clean (ByteArray.mk #[47, 46, 46])).bind fun v5 => (m_path_Redirect (ByteArray.mk #[98])).bind fun v7 => if v1.1 = (ByteArray.mk #[47, 97, 47, 99]) then if v1.2 = true then (m_slices_Equal_string_string v3.1 ([(ByteArray.mk #[120]), (ByteArray.mk #[121])] : List ByteArray)).bind fun v13 => if v13 = true then if v3.2 = true then if (!v5.2) = true then (m_path_Join []).bind fun v21 => if v21 = (ByteArray.mk #[47]) then if (v7.1.length : Int) = 1 then if (!v7.2.1) = true then if v7.2.2 = true then (slM v3.1 none (some 1)).bind fun v31 => (m_path_Begins v31 v3.1).bind fun v34 => some v34
 else some false
 else some false
 else some false
 else some false
 else some false
 else some false
 else some false
 else some false
 else some false
def Y_law04_awake := And.intro (And.intro ((@EV)) ((@R3))) (And.intro ((@R9)) ((@R22)))
set_option maxHeartbeats 2000000 in
theorem ok_law04_awake  (r : Bool) (hm0 : m_law04_awake  = some r) : Ok Tryd.prog 6 [] (bool r) := by
 unfold m_law04_awake at hm0
 refine okG fc_law04_awake ?_
 unfold c_law04_awake
 obtain ⟨v1, h2, hm0⟩ := bsE hm0
 simp only [Y_law04_awake, ↓EVd, isCall, sevalprocAttr]
 refine qc (ok_path_Clean _ _ h2) rfl ?_
 obtain ⟨v3, h4, hm0⟩ := bsE hm0
 simp only [Y_law04_awake, ↓EVd, isCall, sevalprocAttr]
 refine qc (ok_path_Split _ _ h4) rfl ?_
 obtain ⟨v5, h6, hm0⟩ := bsE hm0
 simp only [Y_law04_awake, ↓EVd, isCall, sevalprocAttr]
 refine qc (ok_path_Clean _ _ h6) rfl ?_
 obtain ⟨v7, h8, hm0⟩ := bsE hm0
 simp only [Y_law04_awake, ↓EVd, isCall, sevalprocAttr]
 refine qc (ok_path_Redirect _ _ h8) rfl ?_
 rcases iteE hm0 with ⟨e10, hm0⟩ | ⟨e10, hm0⟩
 · rcases itbE hm0 with ⟨e12, hm0⟩ | ⟨e12, hm0⟩
   · obtain ⟨v13, h14, hm0⟩ := bsE hm0
     simp only [e10, e12, Y_law04_awake, ↓EVd, isCall, sevalprocAttr]
     refine qcb (ok_slices_Equal_string_string _ _ _ h14) rfl (by simp only [e10, e12, FZ, CLO, Y_law04_awake, ↓EVd, isCall, sevalprocAttr]) ?_
     rcases itbE hm0 with ⟨e16, hm0⟩ | ⟨e16, hm0⟩
     · rcases itbE hm0 with ⟨e18, hm0⟩ | ⟨e18, hm0⟩
       · rcases itbE hm0 with ⟨e20, hm0⟩ | ⟨e20, hm0⟩
         · obtain ⟨v21, h22, hm0⟩ := bsE hm0
           simp only [e10, e12, e16, e18, e20, Y_law04_awake, ↓EVd, isCall, sevalprocAttr]
           refine qcs (ok_path_Join _ _ h22) rfl (.cons (.nilS _) .nil) ?_ (hcl := by first | (simp only [CLO]; done) | rfl)
           rcases iteE hm0 with ⟨e24, hm0⟩ | ⟨e24, hm0⟩
           · rcases iteE hm0 with ⟨e26, hm0⟩ | ⟨e26, hm0⟩
             · rcases itbE hm0 with ⟨e28, hm0⟩ | ⟨e28, hm0⟩
               · have g36 := And.intro (And.intro (And.intro ((e10)) ((e12))) (And.intro ((e16)) ((e18)))) (And.intro (And.intro ((e20)) ((e24))) (And.intro ((e26)) ((e28))))
                 rcases itbE hm0 with ⟨e30, hm0⟩ | ⟨e30, hm0⟩
                 · obtain ⟨v31, h32, hm0⟩ := bsE hm0
                   have e33 := show evalSlice Tryd.prog 22 (.sl 1 (v3.1.map str)) none (some (int 1)) none = some (.sl 1 (v31.map str)) from slice_fact elemOfT_22 aggN_9 str h32
                   obtain ⟨v34, h35, hm0⟩ := bsE hm0
                   simp only [g36, e30, e33, Y_law04_awake, ↓EVd, isCall, sevalprocAttr]
                   refine qc (ok_path_Begins _ _ _ h35) rfl ?_
                   obtain rfl := Option.some.inj hm0
                   simp only [g36, e30, e33, Y_law04_awake, ↓EVd, isCall, sevalprocAttr]
                   all_goals first | done | rfl
                 obtain rfl := Option.some.inj hm0
                 simp only [g36, e30, Y_law04_awake, ↓EVd, isCall, sevalprocAttr]
                 all_goals first | done | rfl
               obtain rfl := Option.some.inj hm0
               simp only [e10, e12, e16, e18, e20, e24, e26, e28, Y_law04_awake, ↓EVd, isCall, sevalprocAttr]
               all_goals first | done | rfl
             obtain rfl := Option.some.inj hm0
             simp only [e10, e12, e16, e18, e20, e24, e26, Y_law04_awake, ↓EVd, isCall, sevalprocAttr]
             all_goals first | done | rfl
           obtain rfl := Option.some.inj hm0
           simp only [e10, e12, e16, e18, e20, e24, Y_law04_awake, ↓EVd, isCall, sevalprocAttr]
           all_goals first | done | rfl
         obtain rfl := Option.some.inj hm0
         simp only [e10, e12, e16, e18, e20, Y_law04_awake, ↓EVd, isCall, sevalprocAttr]
         all_goals first | done | rfl
       obtain rfl := Option.some.inj hm0
       simp only [e10, e12, e16, e18, Y_law04_awake, ↓EVd, isCall, sevalprocAttr]
       all_goals first | done | rfl
     obtain rfl := Option.some.inj hm0
     simp only [e10, e12, e16, Y_law04_awake, ↓EVd, isCall, sevalprocAttr]
     all_goals first | done | rfl
   obtain rfl := Option.some.inj hm0
   simp only [e10, e12, Y_law04_awake, ↓EVd, isCall, sevalprocAttr]
   all_goals first | done | rfl
 obtain rfl := Option.some.inj hm0
 simp only [e10, Y_law04_awake, ↓EVd, isCall, sevalprocAttr]
 all_goals first | done | rfl
def m_law04_PathSplits (a0 : ByteArray) (a1 : List ByteArray) (a2 : List ByteArray) : Option (Bool) := if 300 < (a0.size : Int) then (m_law04_awake ).bind fun v3 => some v3
 else if 30 < (a1.length : Int) then (m_law04_awake ).bind fun v7 => some v7
 else if 30 < (a2.length : Int) then (m_law04_awake ).bind fun v11 => some v11
 else (m_path_Split a0).bind fun v13 => (m_ref04_Split a0).bind fun v15 => (m_slices_Equal_string_string v13.1 v15.1).bind fun v17 => if v17 = true then if v13.2 = true then if v15.2 = true then (m_path_Join a1).bind fun v25 => (m_ref04_Join a1).bind fun v27 => if v25 = v27 then (m_path_Begins a1 a2).bind fun v31 => (m_ref04_Begins a1 a2).bind fun v33 => if v31 = true then if v33 = true then (m_law04_awake ).bind fun v39 => some v39
 else some false
 else if v33 = true then some false
 else (m_law04_awake ).bind fun v43 => some v43
 else some false
 else some false
 else if v15.2 = true then some false
 else (m_path_Join a1).bind fun v47 => (m_ref04_Join a1).bind fun v49 => if v47 = v49 then (m_path_Begins a1 a2).bind fun v53 => (m_ref04_Begins a1 a2).bind fun v55 => if v53 = true then if v55 = true then (m_law04_awake ).bind fun v61 => some v61
 else some false
 else if v55 = true then some false
 else (m_law04_awake ).bind fun v65 => some v65
 else some false
 else some false
def Y_law04_PathSplits := And.intro (And.intro ((@EV)) ((@R3))) (And.intro ((@R4)) (And.intro ((@R9)) ((@R22))))
set_option maxHeartbeats 2000000 in
theorem ok_law04_PathSplits (a0 : ByteArray) (a1 : List ByteArray) (a2 : List ByteArray) (r : Bool) (hm0 : m_law04_PathSplits a0 a1 a2 = some r) : Ok Tryd.prog 3 [str a0, .sl 1 (a1.map str), .sl 1 (a2.map str)] (bool r) := by
 unfold m_law04_PathSplits at hm0
 refine okG fc_law04_PathSplits ?_
 unfold c_law04_PathSplits
 rcases iteE hm0 with ⟨e2, hm0⟩ | ⟨e2, hm0⟩
 · obtain ⟨v3, h4, hm0⟩ := bsE hm0
   simp only [e2, Y_law04_PathSplits, ↓EVd, isCall, sevalprocAttr]
   refine qc (ok_law04_awake  _ h4) rfl ?_
   obtain rfl := Option.some.inj hm0
   simp only [e2, Y_law04_PathSplits, ↓EVd, isCall, sevalprocAttr]
   all_goals first | done | rfl
 rcases iteE hm0 with ⟨e6, hm0⟩ | ⟨e6, hm0⟩
 · obtain ⟨v7, h8, hm0⟩ := bsE hm0
   simp only [e2, e6, Y_law04_PathSplits, ↓EVd, isCall, sevalprocAttr]
   refine qc (ok_law04_awake  _ h8) rfl ?_
   obtain rfl := Option.some.inj hm0
   simp only [e2, e6, Y_law04_PathSplits, ↓EVd, isCall, sevalprocAttr]
   all_goals first | done | rfl
 rcases iteE hm0 with ⟨e10, hm0⟩ | ⟨e10, hm0⟩
 · obtain ⟨v11, h12, hm0⟩ := bsE hm0
   simp only [e2, e6, e10, Y_law04_PathSplits, ↓EVd, isCall, sevalprocAttr]
   refine qc (ok_law04_awake  _ h12) rfl ?_
   obtain rfl := Option.some.inj hm0
   simp only [e2, e6, e10, Y_law04_PathSplits, ↓EVd, isCall, sevalprocAttr]
   all_goals first | done | rfl
 obtain ⟨v13, h14, hm0⟩ := bsE hm0
 simp only [e2, e6, e10, Y_law04_PathSplits, ↓EVd, isCall, sevalprocAttr]
 refine qc (ok_path_Split _ _ h14) rfl ?_
 obtain ⟨v15, h16, hm0⟩ := bsE hm0
 simp only [e2, e6, e10, Y_law04_PathSplits, ↓EVd, isCall, sevalprocAttr]
 refine qc (ok_ref04_Split _ _ h16) rfl ?_
 obtain ⟨v17, h18, hm0⟩ := bsE hm0
 simp only [e2, e6, e10, Y_law04_PathSplits, ↓EVd, isCall, sevalprocAttr]
 refine qc (ok_slices_Equal_string_string _ _ _ h18) rfl ?_
 rcases itbE hm0 with ⟨e20, hm0⟩ | ⟨e20, hm0⟩
 · rcases itbE hm0 with ⟨e22, hm0⟩ | ⟨e22, hm0⟩
   · rcases itbE hm0 with ⟨e24, hm0⟩ | ⟨e24, hm0⟩
     · obtain ⟨v25, h26, hm0⟩ := bsE hm0
       simp only [e2, e6, e10, e20, e22, e24, Y_law04_PathSplits, ↓EVd, isCall, sevalprocAttr]
       refine qc (ok_path_Join _ _ h26) rfl ?_
       obtain ⟨v27, h28, hm0⟩ := bsE hm0
       simp only [e2, e6, e10, e20, e22, e24, Y_law04_PathSplits, ↓EVd, isCall, sevalprocAttr]
       refine qc (ok_ref04_Join _ _ h28) rfl ?_
       rcases iteE hm0 with ⟨e30, hm0⟩ | ⟨e30, hm0⟩
       · obtain ⟨v31, h32, hm0⟩ := bsE hm0
         simp only [e2, e6, e10, e20, e22, e24, e30, Y_law04_PathSplits, ↓EVd, isCall, sevalprocAttr]
         refine qc (ok_path_Begins _ _ _ h32) rfl ?_
         obtain ⟨v33, h34, hm0⟩ := bsE hm0
         simp only [e2, e6, e10, e20, e22, e24, e30, Y_law04_PathSplits, ↓EVd, isCall, sevalprocAttr]
         refine qc (ok_ref04_Begins _ _ _ h34) rfl ?_
         rcases itbE hm0 with ⟨e36, hm0⟩ | ⟨e36, hm0⟩
         · have g67 := And.intro (And.intro (And.intro ((e2)) ((e6))) (And.intro ((e10)) ((e20)))) (And.intro (And.intro ((e22)) ((e24))) (And.intro ((e30)) ((e36))))
           rcases itbE hm0 with ⟨e38, hm0⟩ | ⟨e38, hm0⟩
           · obtain ⟨v39, h40, hm0⟩ := bsE hm0
             simp only [g67, e38, Y_law04_PathSplits, ↓EVd, isCall, sevalprocAttr]
             refine qc (ok_law04_awake  _ h40) rfl ?_
             obtain rfl := Option.some.inj hm0
             simp only [g67, e38, Y_law04_PathSplits, ↓EVd, isCall, sevalprocAttr]
             all_goals first | done | rfl
           obtain rfl := Option.some.inj hm0
           simp only [g67, e38, Y_law04_PathSplits, ↓EVd, isCall, sevalprocAttr]
           all_goals first | done | rfl
         have g68 := And.intro (And.intro (And.intro ((e2)) ((e6))) (And.intro ((e10)) ((e20)))) (And.intro (And.intro ((e22)) ((e24))) (And.intro ((e30)) ((e36))))
         rcases itbE hm0 with ⟨e42, hm0⟩ | ⟨e42, hm0⟩
         · obtain rfl := Option.some.inj hm0
           simp only [g68, e42, Y_law04_PathSplits, ↓EVd, isCall, sevalprocAttr]
           all_goals first | done | rfl
         obtain ⟨v43, h44, hm0⟩ := bsE hm0
         simp only [g68, e42, Y_law04_PathSplits, ↓EVd, isCall, sevalprocAttr]
         refine qc (ok_law04_awake  _ h44) rfl ?_
         obtain rfl := Option.some.inj hm0
         simp only [g68, e42, Y_law04_PathSplits, ↓EVd, isCall, sevalprocAttr]
         all_goals first | done | rfl
       obtain rfl := Option.some.inj hm0
       simp only [e2, e6, e10, e20, e22, e24, e30, Y_law04_PathSplits, ↓EVd, isCall, sevalprocAttr]
       all_goals first | done | rfl
     obtain rfl := Option.some.inj hm0
     simp only [e2, e6, e10, e20, e22, e24, Y_law04_PathSplits, ↓EVd, isCall, sevalprocAttr]
     all_goals first | done | rfl
   rcases itbE hm0 with ⟨e46, hm0⟩ | ⟨e46, hm0⟩
   · obtain rfl := Option.some.inj hm0
     simp only [e2, e6, e10, e20, e22, e46, Y_law04_PathSplits, ↓EVd, isCall, sevalprocAttr]
     all_goals first | done | rfl
   obtain ⟨v47, h48, hm0⟩ := bsE hm0
   simp only [e2, e6, e10, e20, e22, e46, Y_law04_PathSplits, ↓EVd, isCall, sevalprocAttr]
   refine qc (ok_path_Join _ _ h48) rfl ?_
   obtain ⟨v49, h50, hm0⟩ := bsE hm0
   simp only [e2, e6, e10, e20, e22, e46, Y_law04_PathSplits, ↓EVd, isCall, sevalprocAttr]
   refine qc (ok_ref04_Join _ _ h50) rfl ?_
   rcases iteE hm0 with ⟨e52, hm0⟩ | ⟨e52, hm0⟩
   · obtain ⟨v53, h54, hm0⟩ := bsE hm0
     simp only [e2, e6, e10, e20, e22, e46, e52, Y_law04_PathSplits, ↓EVd, isCall, sevalprocAttr]
     refine qc (ok_path_Begins _ _ _ h54) rfl ?_
     obtain ⟨v55, h56, hm0⟩ := bsE hm0
     simp only [e2, e6, e10, e20, e22, e46, e52, Y_law04_PathSplits, ↓EVd, isCall, sevalprocAttr]
     refine qc (ok_ref04_Begins _ _ _ h56) rfl ?_
     rcases itbE hm0 with ⟨e58, hm0⟩ | ⟨e58, hm0⟩
     · have g69 := And.intro (And.intro (And.intro ((e2)) ((e6))) (And.intro ((e10)) ((e20)))) (And.intro (And.intro ((e22)) ((e46))) (And.intro ((e52)) ((e58))))
       rcases itbE hm0 with ⟨e60, hm0⟩ | ⟨e60, hm0⟩
       · obtain ⟨v61, h62, hm0⟩ := bsE hm0
         simp only [g69, e60, Y_law04_PathSplits, ↓EVd, isCall, sevalprocAttr]
         refine qc (ok_law04_awake  _ h62) rfl ?_
         obtain rfl := Option.some.inj hm0
         simp only [g69, e60, Y_law04_PathSplits, ↓EVd, isCall, sevalprocAttr]
         all_goals first | done | rfl
       obtain rfl := Option.some.inj hm0
       simp only [g69, e60, Y_law04_PathSplits, ↓EVd, isCall, sevalprocAttr]
       all_goals first | done | rfl
     have g70 := And.intro (And.intro (And.intro ((e2)) ((e6))) (And.intro ((e10)) ((e20)))) (And.intro (And.intro ((e22)) ((e46))) (And.intro ((e52)) ((e58))))
     rcases itbE hm0 with ⟨e64, hm0⟩ | ⟨e64, hm0⟩
     · obtain rfl := Option.some.inj hm0
       simp only [g70, e64, Y_law04_PathSplits, ↓EVd, isCall, sevalprocAttr]
       all_goals first | done | rfl
     obtain ⟨v65, h66, hm0⟩ := bsE hm0
     simp only [g70, e64, Y_law04_PathSplits, ↓EVd, isCall, sevalprocAttr]
     refine qc (ok_law04_awake  _ h66) rfl ?_
     obtain rfl := Option.some.inj hm0
     simp only [g70, e64, Y_law04_PathSplits, ↓EVd, isCall, sevalprocAttr]
     all_goals first | done | rfl
   obtain rfl := Option.some.inj hm0
   simp only [e2, e6, e10, e20, e22, e46, e52, Y_law04_PathSplits, ↓EVd, isCall, sevalprocAttr]
   all_goals first | done | rfl
 obtain rfl := Option.some.inj hm0
 simp only [e2, e6, e10, e20, Y_law04_PathSplits, ↓EVd, isCall, sevalprocAttr]
 all_goals first | done | rfl
def m_law04_PathCleans (a0 : ByteArray) : Option (Bool) := if 300 < (a0.size : Int) then (m_law04_awake ).bind fun v3 => some v3
 else (m_path_Clean a0).bind fun v5 => (m_ref04_Clean a0).bind fun v7 => (m_path_Redirect a0).bind fun v9 => (m_ref04_Redirect a0).bind fun v11 => if v5.1 = v7.1 then if v5.2 = true then if v7.2 = true then (m_slices_Equal_string_string v9.1 v11.1).bind fun v19 => if v19 = true then if v9.2.1 = true then if v11.2.1 = true then if v9.2.2 = true then if v11.2.2 = true then (m_law04_awake ).bind fun v31 => some v31
 else some false
 else if v11.2.2 = true then some false
 else (m_law04_awake ).bind fun v35 => some v35
 else some false
 else if v11.2.1 = true then some false
 else if v9.2.2 = true then if v11.2.2 = true then (m_law04_awake ).bind fun v43 => some v43
 else some false
 else if v11.2.2 = true then some false
 else (m_law04_awake ).bind fun v47 => some v47
 else some false
 else some false
 else if v7.2 = true then some false
 else (m_slices_Equal_string_string v9.1 v11.1).bind fun v51 => if v51 = true then if v9.2.1 = true then if v11.2.1 = true then if v9.2.2 = true then if v11.2.2 = true then (m_law04_awake ).bind fun v63 => some v63
 else some false
 else if v11.2.2 = true then some false
 else (m_law04_awake ).bind fun v67 => some v67
 else some false
 else if v11.2.1 = true then some false
 else if v9.2.2 = true then if v11.2.2 = true then (m_law04_awake ).bind fun v75 => some v75
 else some false
 else if v11.2.2 = true then some false
 else (m_law04_awake ).bind fun v79 => some v79
 else some false
 else some false
def Y_law04_PathCleans := And.intro (And.intro ((@EV)) ((@R3))) (And.intro ((@R4)) (And.intro ((@R9)) ((@R22))))
set_option maxHeartbeats 2000000 in
theorem ok_law04_PathCleans (a0 : ByteArray) (r : Bool) (hm0 : m_law04_PathCleans a0 = some r) : Ok Tryd.prog 4 [str a0] (bool r) := by
 unfold m_law04_PathCleans at hm0
 refine okG fc_law04_PathCleans ?_
 unfold c_law04_PathCleans
 rcases iteE hm0 with ⟨e2, hm0⟩ | ⟨e2, hm0⟩
 · obtain ⟨v3, h4, hm0⟩ := bsE hm0
   simp only [e2, Y_law04_PathCleans, ↓EVd, isCall, sevalprocAttr]
   refine qc (ok_law04_awake  _ h4) rfl ?_
   obtain rfl := Option.some.inj hm0
   simp only [e2, Y_law04_PathCleans, ↓EVd, isCall, sevalprocAttr]
   all_goals first | done | rfl
 obtain ⟨v5, h6, hm0⟩ := bsE hm0
 simp only [e2, Y_law04_PathCleans, ↓EVd, isCall, sevalprocAttr]
 refine qc (ok_path_Clean _ _ h6) rfl ?_
 obtain ⟨v7, h8, hm0⟩ := bsE hm0
 simp only [e2, Y_law04_PathCleans, ↓EVd, isCall, sevalprocAttr]
 refine qc (ok_ref04_Clean _ _ h8) rfl ?_
 obtain ⟨v9, h10, hm0⟩ := bsE hm0
 simp only [e2, Y_law04_PathCleans, ↓EVd, isCall, sevalprocAttr]
 refine qc (ok_path_Redirect _ _ h10) rfl ?_
 obtain ⟨v11, h12, hm0⟩ := bsE hm0
 simp only [e2, Y_law04_PathCleans, ↓EVd, isCall, sevalprocAttr]
 refine qc (ok_ref04_Redirect _ _ h12) rfl ?_
 rcases iteE hm0 with ⟨e14, hm0⟩ | ⟨e14, hm0⟩
 · rcases itbE hm0 with ⟨e16, hm0⟩ | ⟨e16, hm0⟩
   · rcases itbE hm0 with ⟨e18, hm0⟩ | ⟨e18, hm0⟩
     · obtain ⟨v19, h20, hm0⟩ := bsE hm0
       simp only [e2, e14, e16, e18, Y_law04_PathCleans, ↓EVd, isCall, sevalprocAttr]
       refine qc (ok_slices_Equal_string_string _ _ _ h20) rfl ?_
       rcases itbE hm0 with ⟨e22, hm0⟩ | ⟨e22, hm0⟩
       · rcases itbE hm0 with ⟨e24, hm0⟩ | ⟨e24, hm0⟩
         · rcases itbE hm0 with ⟨e26, hm0⟩ | ⟨e26, hm0⟩
           · rcases itbE hm0 with ⟨e28, hm0⟩ | ⟨e28, hm0⟩
             · have g81 := And.intro (And.intro (And.intro ((e2)) ((e14))) (And.intro ((e16)) ((e18)))) (And.intro (And.intro ((e22)) ((e24))) (And.intro ((e26)) ((e28))))
               rcases itbE hm0 with ⟨e30, hm0⟩ | ⟨e30, hm0⟩
               · obtain ⟨v31, h32, hm0⟩ := bsE hm0
                 simp only [g81, e30, Y_law04_PathCleans, ↓EVd, isCall, sevalprocAttr]
                 refine qc (ok_law04_awake  _ h32) rfl ?_
                 obtain rfl := Option.some.inj hm0
                 simp only [g81, e30, Y_law04_PathCleans, ↓EVd, isCall, sevalprocAttr]
                 all_goals first | done | rfl
               obtain rfl := Option.some.inj hm0
               simp only [g81, e30, Y_law04_PathCleans, ↓EVd, isCall, sevalprocAttr]
               all_goals first | done | rfl
             have g82 := And.intro (And.intro (And.intro ((e2)) ((e14))) (And.intro ((e16)) ((e18)))) (And.intro (And.intro ((e22)) ((e24))) (And.intro ((e26)) ((e28))))
             rcases itbE hm0 with ⟨e34, hm0⟩ | ⟨e34, hm0⟩
             · obtain rfl := Option.some.inj hm0
               simp only [g82, e34, Y_law04_PathCleans, ↓EVd, isCall, sevalprocAttr]
               all_goals first | done | rfl
             obtain ⟨v35, h36, hm0⟩ := bsE hm0
             simp only [g82, e34, Y_law04_PathCleans, ↓EVd, isCall, sevalprocAttr]
             refine qc (ok_law04_awake  _ h36) rfl ?_
             obtain rfl := Option.some.inj hm0
             simp only [g82, e34, Y_law04_PathCleans, ↓EVd, isCall, sevalprocAttr]
             all_goals first | done | rfl
           obtain rfl := Option.some.inj hm0
           simp only [e2, e14, e16, e18, e22, e24, e26, Y_law04_PathCleans, ↓EVd, isCall, sevalprocAttr]
           all_goals first | done | rfl
         rcases itbE hm0 with ⟨e38, hm0⟩ | ⟨e38, hm0⟩
         · obtain rfl := Option.some.inj hm0
           simp only [e2, e14, e16, e18, e22, e24, e38, Y_law04_PathCleans, ↓EVd, isCall, sevalprocAttr]
           all_goals first | done | rfl
         rcases itbE hm0 with ⟨e40, hm0⟩ | ⟨e40, hm0⟩
         · have g83 := And.intro (And.intro (And.intro ((e2)) ((e14))) (And.intro ((e16)) ((e18)))) (And.intro (And.intro ((e22)) ((e24))) (And.intro ((e38)) ((e40))))
           rcases itbE hm0 with ⟨e42, hm0⟩ | ⟨e42, hm0⟩
           · obtain ⟨v43, h44, hm0⟩ := bsE hm0
             simp only [g83, e42, Y_law04_PathCleans, ↓EVd, isCall, sevalprocAttr]
             refine qc (ok_law04_awake  _ h44) rfl ?_
             obtain rfl := Option.some.inj hm0
             simp only [g83, e42, Y_law04_PathCleans, ↓EVd, isCall, sevalprocAttr]
             all_goals first | done | rfl
           obtain rfl := Option.some.inj hm0
           simp only [g83, e42, Y_law04_PathCleans, ↓EVd, isCall, sevalprocAttr]
           all_goals first | done | rfl
         have g84 := And.intro (And.intro (And.intro ((e2)) ((e14))) (And.intro ((e16)) ((e18)))) (And.intro (And.intro ((e22)) ((e24))) (And.intro ((e38)) ((e40))))
         rcases itbE hm0 with ⟨e46, hm0⟩ | ⟨e46, hm0⟩
         · obtain rfl := Option.some.inj hm0
           simp only [g84, e46, Y_law04_PathCleans, ↓EVd, isCall, sevalprocAttr]
           all_goals first | done | rfl
         obtain ⟨v47, h48, hm0⟩ := bsE hm0
         simp only [g84, e46, Y_law04_PathCleans, ↓EVd, isCall, sevalprocAttr]
         refine qc (ok_law04_awake  _ h48) rfl ?_
         obtain rfl := Option.some.inj hm0
         simp only [g84, e46, Y_law04_PathCleans, ↓EVd, isCall, sevalprocAttr]
         all_goals first | done | rfl
       obtain rfl := Option.some.inj hm0
       simp only [e2, e14, e16, e18, e22, Y_law04_PathCleans, ↓EVd, isCall, sevalprocAttr]
       all_goals first | done | rfl
     obtain rfl := Option.some.inj hm0
     simp only [e2, e14, e16, e18, Y_law04_PathCleans, ↓EVd, isCall, sevalprocAttr]
     all_goals first | done | rfl
   rcases itbE hm0 with ⟨e50, hm0⟩ | ⟨e50, hm0⟩
   · obtain rfl := Option.some.inj hm0
     simp only [e2, e14, e16, e50, Y_law04_PathCleans, ↓EVd, isCall, sevalprocAttr]
     all_goals first | done | rfl
   obtain ⟨v51, h52, hm0⟩ := bsE hm0
   simp only [e2, e14, e16, e50, Y_law04_PathCleans, ↓EVd, isCall, sevalprocAttr]
   refine qc (ok_slices_Equal_string_string _ _ _ h52) rfl ?_
   rcases itbE hm0 with ⟨e54, hm0⟩ | ⟨e54, hm0⟩
   · rcases itbE hm0 with ⟨e56, hm0⟩ | ⟨e56, hm0⟩
     · rcases itbE hm0 with ⟨e58, hm0⟩ | ⟨e58, hm0⟩
       · rcases itbE hm0 with ⟨e60, hm0⟩ | ⟨e60, hm0⟩
         · have g85 := And.intro (And.intro (And.intro ((e2)) ((e14))) (And.intro ((e16)) ((e50)))) (And.intro (And.intro ((e54)) ((e56))) (And.intro ((e58)) ((e60))))
           rcases itbE hm0 with ⟨e62, hm0⟩ | ⟨e62, hm0⟩
           · obtain ⟨v63, h64, hm0⟩ := bsE hm0
             simp only [g85, e62, Y_law04_PathCleans, ↓EVd, isCall, sevalprocAttr]
             refine qc (ok_law04_awake  _ h64) rfl ?_
             obtain rfl := Option.some.inj hm0
             simp only [g85, e62, Y_law04_PathCleans, ↓EVd, isCall, sevalprocAttr]
             all_goals first | done | rfl
           obtain rfl := Option.some.inj hm0
           simp only [g85, e62, Y_law04_PathCleans, ↓EVd, isCall, sevalprocAttr]
           all_goals first | done | rfl
         have g86 := And.intro (And.intro (And.intro ((e2)) ((e14))) (And.intro ((e16)) ((e50)))) (And.intro (And.intro ((e54)) ((e56))) (And.intro ((e58)) ((e60))))
         rcases itbE hm0 with ⟨e66, hm0⟩ | ⟨e66, hm0⟩
         · obtain rfl := Option.some.inj hm0
           simp only [g86, e66, Y_law04_PathCleans, ↓EVd, isCall, sevalprocAttr]
           all_goals first | done | rfl
         obtain ⟨v67, h68, hm0⟩ := bsE hm0
         simp only [g86, e66, Y_law04_PathCleans, ↓EVd, isCall, sevalprocAttr]
         refine qc (ok_law04_awake  _ h68) rfl ?_
         obtain rfl := Option.some.inj hm0
         simp only [g86, e66, Y_law04_PathCleans, ↓EVd, isCall, sevalprocAttr]
         all_goals first | done | rfl
       obtain rfl := Option.some.inj hm0
       simp only [e2, e14, e16, e50, e54, e56, e58, Y_law04_PathCleans, ↓EVd, isCall, sevalprocAttr]
       all_goals first | done | rfl
     rcases itbE hm0 with ⟨e70, hm0⟩ | ⟨e70, hm0⟩
     · obtain rfl := Option.some.inj hm0
       simp only [e2, e14, e16, e50, e54, e56, e70, Y_law04_PathCleans, ↓EVd, isCall, sevalprocAttr]
       all_goals first | done | rfl
     rcases itbE hm0 with ⟨e72, hm0⟩ | ⟨e72, hm0⟩
     · have g87 := And.intro (And.intro (And.intro ((e2)) ((e14))) (And.intro ((e16)) ((e50)))) (And.intro (And.intro ((e54)) ((e56))) (And.intro ((e70)) ((e72))))
       rcases itbE hm0 with ⟨e74, hm0⟩ | ⟨e74, hm0⟩
       · obtain ⟨v75, h76, hm0⟩ := bsE hm0
         simp only [g87, e74, Y_law04_PathCleans, ↓EVd, isCall, sevalprocAttr]
         refine qc (ok_law04_awake  _ h76) rfl ?_
         obtain rfl := Option.some.inj hm0
         simp only [g87, e74, Y_law04_PathCleans, ↓EVd, isCall, sevalprocAttr]
         all_goals first | done | rfl
       obtain rfl := Option.some.inj hm0
       simp only [g87, e74, Y_law04_PathCleans, ↓EVd, isCall, sevalprocAttr]
       all_goals first | done | rfl
     have g88 := And.intro (And.intro (And.intro ((e2)) ((e14))) (And.intro ((e16)) ((e50)))) (And.intro (And.intro ((e54)) ((e56))) (And.intro ((e70)) ((e72))))
     rcases itbE hm0 with ⟨e78, hm0⟩ | ⟨e78, hm0⟩
     · obtain rfl := Option.some.inj hm0
       simp only [g88, e78, Y_law04_PathCleans, ↓EVd, isCall, sevalprocAttr]
       all_goals first | done | rfl
     obtain ⟨v79, h80, hm0⟩ := bsE hm0
     simp only [g88, e78, Y_law04_PathCleans, ↓EVd, isCall, sevalprocAttr]
     refine qc (ok_law04_awake  _ h80) rfl ?_
     obtain rfl := Option.some.inj hm0
     simp only [g88, e78, Y_law04_PathCleans, ↓EVd, isCall, sevalprocAttr]
     all_goals first | done | rfl
   obtain rfl := Option.some.inj hm0
   simp only [e2, e14, e16, e50, e54, Y_law04_PathCleans, ↓EVd, isCall, sevalprocAttr]
   all_goals first | done | rfl
 obtain rfl := Option.some.inj hm0
 simp only [e2, e14, Y_law04_PathCleans, ↓EVd, isCall, sevalprocAttr]
 all_goals first | done | rfl
def m_law04_PathBack (a0 : ByteArray) : Option (Bool) := if 300 < (a0.size : Int) then (m_law04_awake ).bind fun v3 => some v3
 else (m_path_Split a0).bind fun v5 => if v5.2 = true then (m_path_Clean a0).bind fun v9 => (m_path_Join v5.1).bind fun v11 => if v11 = a0 then if (!v9.2) = true then some false
 else if v9.1 = a0 then (m_path_Clean a0).bind fun v19 => if (!v19.2) = true then if v19.1 = noBytes then (m_law04_awake ).bind fun v25 => some v25
 else some false
 else (m_path_Split v19.1).bind fun v27 => (m_path_Clean v19.1).bind fun v29 => if v27.2 = true then (m_path_Join v27.1).bind fun v33 => if v33 = v19.1 then if v29.2 = true then if v29.1 = v19.1 then (m_law04_awake ).bind fun v41 => some v41
 else some false
 else some false
 else some false
 else some false
 else some false
 else some false
 else (m_path_Clean a0).bind fun v43 => if (!v43.2) = true then if v43.1 = noBytes then (m_law04_awake ).bind fun v49 => some v49
 else some false
 else (m_path_Split v43.1).bind fun v51 => (m_path_Clean v43.1).bind fun v53 => if v51.2 = true then (m_path_Join v51.1).bind fun v57 => if v57 = v43.1 then if v53.2 = true then if v53.1 = v43.1 then (m_law04_awake ).bind fun v65 => some v65
 else some false
 else some false
 else some false
 else some false
def Y_law04_PathBack := And.intro (And.intro ((@EV)) ((@R3))) (And.intro ((@R9)) ((@R22)))
set_option maxHeartbeats 2000000 in
theorem ok_law04_PathBack (a0 : ByteArray) (r : Bool) (hm0 : m_law04_PathBack a0 = some r) : Ok Tryd.prog 5 [str a0] (bool r) := by
 unfold m_law04_PathBack at hm0
 refine okG fc_law04_PathBack ?_
 unfold c_law04_PathBack
 rcases iteE hm0 with ⟨e2, hm0⟩ | ⟨e2, hm0⟩
 · obtain ⟨v3, h4, hm0⟩ := bsE hm0
   simp only [e2, Y_law04_PathBack, ↓EVd, isCall, sevalprocAttr]
   refine qc (ok_law04_awake  _ h4) rfl ?_
   obtain rfl := Option.some.inj hm0
   simp only [e2, Y_law04_PathBack, ↓EVd, isCall, sevalprocAttr]
   all_goals first | done | rfl
 obtain ⟨v5, h6, hm0⟩ := bsE hm0
 simp only [e2, Y_law04_PathBack, ↓EVd, isCall, sevalprocAttr]
 refine qc (ok_path_Split _ _ h6) rfl ?_
 rcases itbE hm0 with ⟨e8, hm0⟩ | ⟨e8, hm0⟩
 · obtain ⟨v9, h10, hm0⟩ := bsE hm0
   simp only [e2, e8, Y_law04_PathBack, ↓EVd, isCall, sevalprocAttr]
   refine qc (ok_path_Clean _ _ h10) rfl ?_
   obtain ⟨v11, h12, hm0⟩ := bsE hm0
   simp only [e2, e8, Y_law04_PathBack, ↓EVd, isCall, sevalprocAttr]
   refine qc (ok_path_Join _ _ h12) rfl ?_
   rcases iteE hm0 with ⟨e14, hm0⟩ | ⟨e14, hm0⟩
   · rcases itbE hm0 with ⟨e16, hm0⟩ | ⟨e16, hm0⟩
     · obtain rfl := Option.some.inj hm0
       simp only [e2, e8, e14, e16, Y_law04_PathBack, ↓EVd, isCall, sevalprocAttr]
       all_goals first | done | rfl
     rcases iteE hm0 with ⟨e18, hm0⟩ | ⟨e18, hm0⟩
     · obtain ⟨v19, h20, hm0⟩ := bsE hm0
       simp only [e2, e8, e14, e16, e18, Y_law04_PathBack, ↓EVd, isCall, sevalprocAttr]
       refine qc (ok_path_Clean _ _ h20) rfl ?_
       rcases itbE hm0 with ⟨e22, hm0⟩ | ⟨e22, hm0⟩
       · rcases iteE hm0 with ⟨e24, hm0⟩ | ⟨e24, hm0⟩
         · obtain ⟨v25, h26, hm0⟩ := bsE hm0
           simp only [e2, e8, e14, e16, e18, e22, e24, Y_law04_PathBack, ↓EVd, isCall, sevalprocAttr]
           refine qc (ok_law04_awake  _ h26) rfl ?_
           obtain rfl := Option.some.inj hm0
           simp only [e2, e8, e14, e16, e18, e22, e24, Y_law04_PathBack, ↓EVd, isCall, sevalprocAttr]
           all_goals first | done | rfl
         obtain rfl := Option.some.inj hm0
         simp only [e2, e8, e14, e16, e18, e22, e24, Y_law04_PathBack, ↓EVd, isCall, sevalprocAttr]
         all_goals first | done | rfl
       obtain ⟨v27, h28, hm0⟩ := bsE hm0
       simp only [e2, e8, e14, e16, e18, e22, Y_law04_PathBack, ↓EVd, isCall, sevalprocAttr]
       refine qc (ok_path_Split _ _ h28) rfl ?_
       obtain ⟨v29, h30, hm0⟩ := bsE hm0
       simp only [e2, e8, e14, e16, e18, e22, Y_law04_PathBack, ↓EVd, isCall, sevalprocAttr]
       refine qc (ok_path_Clean _ _ h30) rfl ?_
       rcases itbE hm0 with ⟨e32, hm0⟩ | ⟨e32, hm0⟩
       · obtain ⟨v33, h34, hm0⟩ := bsE hm0
         simp only [e2, e8, e14, e16, e18, e22, e32, Y_law04_PathBack, ↓EVd, isCall, sevalprocAttr]
         refine qc (ok_path_Join _ _ h34) rfl ?_
         rcases iteE hm0 with ⟨e36, hm0⟩ | ⟨e36, hm0⟩
         · have g67 := And.intro (And.intro (And.intro ((e2)) ((e8))) (And.intro ((e14)) ((e16)))) (And.intro (And.intro ((e18)) ((e22))) (And.intro ((e32)) ((e36))))
           rcases itbE hm0 with ⟨e38, hm0⟩ | ⟨e38, hm0⟩
           · rcases iteE hm0 with ⟨e40, hm0⟩ | ⟨e40, hm0⟩
             · obtain ⟨v41, h42, hm0⟩ := bsE hm0
               simp only [g67, e38, e40, Y_law04_PathBack, ↓EVd, isCall, sevalprocAttr]
               refine qc (ok_law04_awake  _ h42) rfl ?_
               obtain rfl := Option.some.inj hm0
               simp only [g67, e38, e40, Y_law04_PathBack, ↓EVd, isCall, sevalprocAttr]
               all_goals first | done | rfl
             obtain rfl := Option.some.inj hm0
             simp only [g67, e38, e40, Y_law04_PathBack, ↓EVd, isCall, sevalprocAttr]
             all_goals first | done | rfl
           obtain rfl := Option.some.inj hm0
           simp only [g67, e38, Y_law04_PathBack, ↓EVd, isCall, sevalprocAttr]
           all_goals first | done | rfl
         obtain rfl := Option.some.inj hm0
         simp only [e2, e8, e14, e16, e18, e22, e32, e36, Y_law04_PathBack, ↓EVd, isCall, sevalprocAttr]
         all_goals first | done | rfl
       obtain rfl := Option.some.inj hm0
       simp only [e2, e8, e14, e16, e18, e22, e32, Y_law04_PathBack, ↓EVd, isCall, sevalprocAttr]
       all_goals first | done | rfl
     obtain rfl := Option.some.inj hm0
     simp only [e2, e8, e14, e16, e18, Y_law04_PathBack, ↓EVd, isCall, sevalprocAttr]
     all_goals first | done | rfl
   obtain rfl := Option.some.inj hm0
   simp only [e2, e8, e14, Y_law04_PathBack, ↓EVd, isCall, sevalprocAttr]
   all_goals first | done | rfl
 obtain ⟨v43, h44, hm0⟩ := bsE hm0
 simp only [e2, e8, Y_law04_PathBack, ↓EVd, isCall, sevalprocAttr]
 refine qc (ok_path_Clean _ _ h44) rfl ?_
 rcases itbE hm0 with ⟨e46, hm0⟩ | ⟨e46, hm0⟩
 · rcases iteE hm0 with ⟨e48, hm0⟩ | ⟨e48, hm0⟩
   · obtain ⟨v49, h50, hm0⟩ := bsE hm0
     simp only [e2, e8, e46, e48, Y_law04_PathBack, ↓EVd, isCall, sevalprocAttr]
     refine qc (ok_law04_awake  _ h50) rfl ?_
     obtain rfl := Option.some.inj hm0
     simp only [e2, e8, e46, e48, Y_law04_PathBack, ↓EVd, isCall, sevalprocAttr]
     all_goals first | done | rfl
   obtain rfl := Option.some.inj hm0
   simp only [e2, e8, e46, e48, Y_law04_PathBack, ↓EVd, isCall, sevalprocAttr]
   all_goals first | done | rfl
 obtain ⟨v51, h52, hm0⟩ := bsE hm0
 simp only [e2, e8, e46, Y_law04_PathBack, ↓EVd, isCall, sevalprocAttr]
 refine qc (ok_path_Split _ _ h52) rfl ?_
 obtain ⟨v53, h54, hm0⟩ := bsE hm0
 simp only [e2, e8, e46, Y_law04_PathBack, ↓EVd, isCall, sevalprocAttr]
 refine qc (ok_path_Clean _ _ h54) rfl ?_
 rcases itbE hm0 with ⟨e56, hm0⟩ | ⟨e56, hm0⟩
 · obtain ⟨v57, h58, hm0⟩ := bsE hm0
   simp only [e2, e8, e46, e56, Y_law04_PathBack, ↓EVd, isCall, sevalprocAttr]
   refine qc (ok_path_Join _ _ h58) rfl ?_
   rcases iteE hm0 with ⟨e60, hm0⟩ | ⟨e60, hm0⟩
   · rcases itbE hm0 with ⟨e62, hm0⟩ | ⟨e62, hm0⟩
     · rcases iteE hm0 with ⟨e64, hm0⟩ | ⟨e64, hm0⟩
       · obtain ⟨v65, h66, hm0⟩ := bsE hm0
         simp only [e2, e8, e46, e56, e60, e62, e64, Y_law04_PathBack, ↓EVd, isCall, sevalprocAttr]
         refine qc (ok_law04_awake  _ h66) rfl ?_
         obtain rfl := Option.some.inj hm0
         simp only [e2, e8, e46, e56, e60, e62, e64, Y_law04_PathBack, ↓EVd, isCall, sevalprocAttr]
         all_goals first | done | rfl
       obtain rfl := Option.some.inj hm0
       simp only [e2, e8, e46, e56, e60, e62, e64, Y_law04_PathBack, ↓EVd, isCall, sevalprocAttr]
       all_goals first | done | rfl
     obtain rfl := Option.some.inj hm0
     simp only [e2, e8, e46, e56, e60, e62, Y_law04_PathBack, ↓EVd, isCall, sevalprocAttr]
     all_goals first | done | rfl
   obtain rfl := Option.some.inj hm0
   simp only [e2, e8, e46, e56, e60, Y_law04_PathBack, ↓EVd, isCall, sevalprocAttr]
   all_goals first | done | rfl
 obtain rfl := Option.some.inj hm0
 simp only [e2, e8, e46, e56, Y_law04_PathBack, ↓EVd, isCall, sevalprocAttr]
 all_goals first | done | rfl
end Go.Proofs.YtnmljicimdhpmaaDoor.AL

/- Plain laws: PathSplits, PathCleans, PathBack. -/
set_option linter.all false
namespace Go.Proofs.YtnmljicimdhpmaaDoor.AL
open Go Go.Proofs

theorem awake04 : m_law04_awake = some true := by
  unfold m_law04_awake
  rw [myClean_eq (by decide), mySplit_eq (by decide), myClean_eq (by decide), myRedirect_eq (by decide)]
  simp only [Option.bind_some]
  have e1 : cleanP (ByteArray.mk #[47, 97, 47, 47, 98, 47, 46, 46, 47, 99, 47]) = (ByteArray.mk #[47, 97, 47, 99], true) := by decide +kernel
  have e2 : splitP (ByteArray.mk #[47, 120, 47, 121]) = ([ByteArray.mk #[120], ByteArray.mk #[121]], true) := by decide +kernel
  have e3 : (cleanP (ByteArray.mk #[47, 46, 46])).2 = false := by decide +kernel
  have e4 : redirP (ByteArray.mk #[98]) = ([ByteArray.mk #[98]], false, true) := by decide +kernel
  rw [e1, e2, e3, e4]
  simp only [if_true]
  rw [equal_str (by decide)]
  have e5 : m_path_Join [] = some (ByteArray.mk #[47]) := by rw [myJoin_eq (by decide) (by decide)]; rfl
  rw [e5]
  simp only [Option.bind_some, decide_true, if_true, Bool.not_false]
  have e6 : slM [ByteArray.mk #[120], ByteArray.mk #[121]] none (some 1) = some [ByteArray.mk #[120]] := by rfl
  rw [e6]
  simp only [Option.bind_some]
  rw [myBegins_eq (by decide) (by decide)]
  decide +kernel
theorem redirP_len (s : ByteArray) : (redirP s).1.length ≤ s.size + 1 := by
  have hl := partsP_len s
  unfold redirP splitP
  repeat' split
  all_goals first | exact hl | simp
theorem law_pathCleans (s : ByteArray) : m_law04_PathCleans s = some true := by
  unfold m_law04_PathCleans
  by_cases h : 300 < (s.size : Int)
  · rw [if_pos h, awake04]; rfl
  · have hl := redirP_len s
    have heq : m_slices_Equal_string_string (redirP s).1 (redirP s).1 = some true := by rw [equal_str (by omega)]; simp
    rw [if_neg h, myClean_eq (by omega), refClean_eq (by omega), myRedirect_eq (by omega), refRedirect_eq (by omega)]
    simp only [Option.bind_some, heq, awake04, if_true]
    cases (cleanP s).2 <;> cases (redirP s).2.1 <;> cases (redirP s).2.2 <;> rfl
/-! ### What is split, joined -/
theorem join_split : ∀ l : List UInt8, Lib.join (splitL l) [47] = l
  | [] => by simp [splitL, Lib.join_one]
  | b :: l => by
    have ih := join_split l
    unfold splitL
    by_cases hb : b = 47
    · rw [if_pos hb]
      subst hb
      cases hs : splitL l with
      | nil => exact absurd hs (splitL_ne l)
      | cons h t =>
        rw [hs, Lib.join_cons] at ih
        rw [Lib.join_cons]
        simp only [Lib.joinTail, List.map_cons, List.flatten_cons, List.nil_append] at ih ⊢
        rw [← ih]
        simp
    · rw [if_neg hb]
      cases hs : splitL l with
      | nil => exact absurd hs (splitL_ne l)
      | cons h t =>
        rw [hs, Lib.join_cons] at ih
        simp only
        rw [Lib.join_cons, List.cons_append, ih]
theorem splitL_cons (b : UInt8) (l : List UInt8) : splitL (b :: l) = if b = 47 then [] :: splitL l else match splitL l with | [] => [[b]] | h :: t => (b :: h) :: t := rfl
theorem splitL_no : ∀ (x m : List UInt8), ¬ (47 : UInt8) ∈ x → splitL (x ++ 47 :: m) = x :: splitL m
  | [], m, _ => by simp [splitL]
  | b :: x, m, h => by
    have hb : ¬ b = 47 := fun e => h (by simp [e])
    have ih := splitL_no x m fun hm => h (by simp [hm])
    rw [List.cons_append, splitL_cons, if_neg hb, ih]
theorem splitL_plain : ∀ (x : List UInt8), ¬ (47 : UInt8) ∈ x → splitL x = [x]
  | [], _ => rfl
  | b :: x, h => by
    have hb : ¬ b = 47 := fun e => h (by simp [e])
    unfold splitL
    rw [if_neg hb, splitL_plain x fun hm => h (by simp [hm])]
theorem split_join : ∀ (x : List UInt8) (r : List (List UInt8)), (∀ y ∈ x :: r, ¬ (47 : UInt8) ∈ y) → splitL (Lib.join (x :: r) [47]) = x :: r
  | x, [], h => by rw [Lib.join_one]; exact splitL_plain x (h x (by simp))
  | x, y :: r, h => by
    have ih := split_join y r fun z hz => h z (by simp [hz])
    rw [Lib.join_cons] at ih ⊢
    have e : Lib.joinTail [47] (y :: r) = 47 :: (y ++ Lib.joinTail [47] r) := by simp [Lib.joinTail]
    rw [e, splitL_no x _ (h x (by simp)), ih]
theorem right_no {x : ByteArray} (h : rightP x = true) : ¬ (47 : UInt8) ∈ x.data.toList := by
  unfold rightP at h
  rw [Bool.and_eq_true] at h
  intro hm
  have := List.all_eq_true.1 h.2 _ hm
  revert this
  decide
theorem map_back (l : List (List UInt8)) : (l.map mkB).map (fun x => x.data.toList) = l := by
  rw [List.map_map]
  have : ((fun x : ByteArray => x.data.toList) ∘ mkB) = id := by funext x; rfl
  rw [this, List.map_id]
theorem map_forth (l : List ByteArray) : (l.map (fun x => x.data.toList)).map mkB = l := by
  rw [List.map_map]
  have : (mkB ∘ fun x : ByteArray => x.data.toList) = id := by funext x; rfl
  rw [this, List.map_id]
/-- What begins with a stroke is the join of its parts. -/
theorem join_parts {s : ByteArray} (h : absP s = true) : joinP (partsP s) = s := by
  unfold joinP partsP
  rw [map_back, join_split]
  rw [absP_iff] at h
  have : s.data.toList = 47 :: s.data.toList.drop 1 := by
    cases hs : s.data.toList with
    | nil => rw [hs] at h; simp at h
    | cons b l =>
      rw [hs] at h
      simp only [List.length_cons, Nat.zero_lt_succ, List.getElem?_eq_getElem, List.getElem_cons_zero, Option.some.injEq] at h
      subst h
      rfl
  rw [← this]
  exact mkB_of s
theorem cleanF_right : ∀ (l out : List ByteArray), (∀ x ∈ l, rightP x = true) → cleanF l out = some (out ++ l)
  | [], out, _ => by simp [cleanF]
  | x :: l, out, h => by
    have hx := h x (by simp)
    obtain ⟨r1, r2, r3, r4⟩ := right_size hx
    have r0 : ¬ x = noBytes := by rintro rfl; have : noBytes.size = 0 := rfl; omega
    rw [cleanF, if_neg r0, if_neg r3, if_neg r4, if_pos hx, cleanF_right l _ fun y hy => h y (by simp [hy])]
    simp
theorem clean_out : ∀ (l out o : List ByteArray), (∀ x ∈ out, rightP x = true) → cleanF l out = some o → (∀ x ∈ o, rightP x = true) ∧ o.length ≤ out.length + l.length
  | [], out, o, h, e => by rw [cleanF] at e; injection e with e; subst e; exact ⟨h, by simp⟩
  | x :: l, out, o, h, e => by
    rw [cleanF] at e
    have step : ∀ out', (∀ y ∈ out', rightP y = true) → out'.length ≤ out.length + 1 → cleanF l out' = some o → (∀ y ∈ o, rightP y = true) ∧ o.length ≤ out.length + (x :: l).length := fun out' h1 h2 h3 => by
      obtain ⟨g1, g2⟩ := clean_out l out' o h1 h3
      exact ⟨g1, by simp; omega⟩
    by_cases c1 : x = noBytes
    · rw [if_pos c1] at e; exact step out h (by omega) e
    rw [if_neg c1] at e
    by_cases c2 : x = dotB
    · rw [if_pos c2] at e; exact step out h (by omega) e
    rw [if_neg c2] at e
    by_cases c3 : x = dotsB
    · rw [if_pos c3] at e
      by_cases c4 : out.length = 0
      · rw [if_pos c4] at e; cases e
      · rw [if_neg c4] at e
        exact step _ (fun y hy => h y (List.mem_of_mem_take hy)) (by simp; omega) e
    rw [if_neg c3] at e
    by_cases c5 : rightP x = true
    · rw [if_pos c5] at e
      refine step _ (fun y hy => ?_) (by simp) e
      rcases List.mem_append.1 hy with hy | hy
      · exact h y hy
      · simp only [List.mem_singleton] at hy; subst hy; exact c5
    · rw [if_neg c5] at e; cases e
theorem root_facts : splitP rootB = ([], true) ∧ joinP [] = rootB ∧ cleanP rootB = (rootB, true) := by decide +kernel
theorem abs_join (o : List ByteArray) : absP (joinP o) = true := by
  unfold absP joinP
  rw [mkB_toList, isPrefix_one]
  rfl
/-- What is joined of names is split into them, and is clean. -/
theorem back_join {o : List ByteArray} (h : ∀ x ∈ o, rightP x = true) : splitP (joinP o) = (o, true) ∧ cleanP (joinP o) = (joinP o, true) := by
  cases o with
  | nil => rw [root_facts.2.1]; exact ⟨root_facts.1, root_facts.2.2⟩
  | cons x r =>
    have hp : partsP (joinP (x :: r)) = x :: r := by
      unfold partsP joinP
      rw [mkB_toList, List.drop_one, List.tail_cons, List.map_cons, split_join]
      · rw [← List.map_cons (f := fun x : ByteArray => x.data.toList), map_forth]
      · intro y hy
        rw [← List.map_cons (f := fun x : ByteArray => x.data.toList)] at hy
        obtain ⟨z, hz, rfl⟩ := List.mem_map.1 hy
        exact right_no (h z hz)
    have hne : ¬ joinP (x :: r) = rootB := by
      intro e
      have := hp
      rw [e] at this
      have h2 : partsP rootB = [noBytes] := by decide +kernel
      rw [h2] at this
      injection this with this _
      have h3 := right_size (h x (by simp))
      rw [← this] at h3
      have : noBytes.size = 0 := rfl
      omega
    constructor
    · unfold splitP
      rw [if_neg hne, hp, if_pos ⟨abs_join _, List.all_eq_true.2 h⟩]
    · unfold cleanP
      rw [if_pos (abs_join _), hp, cleanF_right _ _ h]
      rfl
theorem back_split {s : ByteArray} (h : (splitP s).2 = true) : joinP (splitP s).1 = s ∧ cleanP s = (s, true) := by
  unfold splitP at h ⊢
  by_cases h1 : s = rootB
  · rw [if_pos h1]
    subst h1
    exact ⟨root_facts.2.1, root_facts.2.2⟩
  · rw [if_neg h1] at h ⊢
    by_cases h2 : absP s = true ∧ (partsP s).all rightP = true
    · rw [if_pos h2]
      refine ⟨join_parts h2.1, ?_⟩
      unfold cleanP
      rw [if_pos h2.1, cleanF_right _ _ (List.all_eq_true.1 h2.2)]
      show (joinP ([] ++ partsP s), true) = _
      rw [List.nil_append, join_parts h2.1]
    · rw [if_neg h2] at h; cases h
theorem back_clean (s : ByteArray) : ((cleanP s).2 = false ∧ (cleanP s).1 = noBytes) ∨ ((cleanP s).2 = true ∧ ∃ o, (∀ x ∈ o, rightP x = true) ∧ o.length ≤ s.size + 1 ∧ (cleanP s).1 = joinP o) := by
  have hl := partsP_len s
  unfold cleanP
  by_cases ha : absP s = true
  · rw [if_pos ha]
    cases hc : cleanF (partsP s) [] with
    | none => exact .inl ⟨rfl, rfl⟩
    | some o =>
      obtain ⟨g1, g2⟩ := clean_out _ _ _ (by simp) hc
      exact .inr ⟨rfl, o, g1, by simp only [List.length_nil] at g2; omega, rfl⟩
  · rw [if_neg ha]; exact .inl ⟨rfl, rfl⟩
theorem joinP_size (o : List ByteArray) (h : ∀ x ∈ o, rightP x = true) : (joinP o).size ≤ 13 * o.length + 1 := by
  have := join_le o h
  unfold joinP
  rw [mkB_size]
  simp only [List.length_cons]
  omega
theorem splitP_len (s : ByteArray) : (splitP s).1.length ≤ s.size + 1 := by
  have hl := partsP_len s
  unfold splitP
  repeat' split
  all_goals first | exact hl | simp
theorem splitP_right (s : ByteArray) : ∀ x ∈ (splitP s).1, rightP x = true := by
  unfold splitP
  split
  · simp
  · split
    · rename_i h; exact List.all_eq_true.1 h.2
    · simp
theorem law_pathBack (s : ByteArray) : m_law04_PathBack s = some true := by
  unfold m_law04_PathBack
  by_cases h : 300 < (s.size : Int)
  · rw [if_pos h, awake04]; rfl
  · rw [if_neg h, mySplit_eq (by omega), myClean_eq (by omega)]
    simp only [Option.bind_some]
    -- the second half
    have half : (if (!(cleanP s).2) = true then if (cleanP s).1 = noBytes then (m_law04_awake).bind fun v => some v else some false
        else (m_path_Split (cleanP s).1).bind fun v27 => (m_path_Clean (cleanP s).1).bind fun v29 => if v27.2 = true then (m_path_Join v27.1).bind fun v33 => if v33 = (cleanP s).1 then if v29.2 = true then if v29.1 = (cleanP s).1 then (m_law04_awake).bind fun v41 => some v41 else some false else some false else some false else some false) = some true := by
      rcases back_clean s with ⟨c1, c2⟩ | ⟨c1, o, c2, c3, c4⟩
      · rw [c1, c2, if_pos (by simp), if_pos rfl, awake04]; rfl
      · rw [c1, c4, if_neg (by simp)]
        have hz := joinP_size o c2
        obtain ⟨b1, b2⟩ := back_join c2
        have hj := join_le o c2
        rw [mySplit_eq (by omega), myClean_eq (by omega), b1, b2]
        simp only [Option.bind_some, if_true]
        rw [myJoin_eq (by omega) (by omega)]
        simp only [Option.bind_some, if_true, awake04]
    by_cases hs : (splitP s).2 = true
    · obtain ⟨s1, s2⟩ := back_split hs
      have hl := splitP_len s
      have hj := join_le _ (splitP_right s)
      rw [if_pos hs, myJoin_eq (by omega) (by omega), s1]
      simp only [Option.bind_some, if_true]
      rw [s2] at half ⊢
      simp only [Bool.not_true, Bool.false_eq_true, if_false, if_true] at half ⊢
      exact half
    · rw [if_neg hs]
      exact half
theorem law_pathSplits (s : ByteArray) (l k : List ByteArray) (hj : l.length ≤ 30 → (Lib.join (l.map fun x => x.data.toList) [47]).length ≤ 140737488355328) : m_law04_PathSplits s l k = some true := by
  unfold m_law04_PathSplits
  by_cases h : 300 < (s.size : Int)
  · rw [if_pos h, awake04]; rfl
  rw [if_neg h]
  by_cases h1 : 30 < (l.length : Int)
  · rw [if_pos h1, awake04]; rfl
  rw [if_neg h1]
  by_cases h2 : 30 < (k.length : Int)
  · rw [if_pos h2, awake04]; rfl
  rw [if_neg h2]
  have hl := splitP_len s
  have heq : m_slices_Equal_string_string (splitP s).1 (splitP s).1 = some true := by rw [equal_str (by omega)]; simp
  have hj' := hj (by omega)
  rw [mySplit_eq (by omega), refSplit_eq (by omega), myJoin_eq (by omega) hj', refJoin_eq (by omega) hj', myBegins_eq (by omega) (by omega), refBegins_eq (by omega) (by omega)]
  simp only [Option.bind_some, heq, awake04, if_true]
  cases (splitP s).2 <;> cases beginP l k <;> rfl
end Go.Proofs.YtnmljicimdhpmaaDoor.AL

/- Any text without what is needless, and the names of any redirect, are what the document says: for every text. -/
namespace Go.Proofs.YtnmljicimdhpmaaDoor
theorem pathCleans_holds : Rows.PathCleansCardSaid := card_pathCleans_of (holds_pathCleans_of fun s _ => AL.ok_law04_PathCleans s true (AL.law_pathCleans s))
#print axioms pathCleans_holds
end Go.Proofs.YtnmljicimdhpmaaDoor

