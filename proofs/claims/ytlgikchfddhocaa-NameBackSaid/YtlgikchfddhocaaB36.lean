/- What of the attributes of any stack, and of any node, may not be, is what the document says: part 36 of 46. -/
import Derived.Laws.RangeAny
import Derived.Test.YtlgikchfddhocaaB35
set_option linter.all false
/- Models of functions, and that the functions are as their models: written by gen.py. -/
set_option linter.all false
set_option maxRecDepth 100000
namespace Go.Proofs.Ytlgikchfddhocaa.AL
open Go Go.Proofs
def m_ref03_letter (a0 : Int) : Option (Bool) := if 97 ≤ a0 then if a0 ≤ 122 then some true
 else if 48 ≤ a0 then if a0 ≤ 57 then some true
 else if a0 = 46 then some true
 else if a0 = 95 then some true
 else if a0 = 45 then some true
 else some false
 else if a0 = 46 then some true
 else if a0 = 95 then some true
 else if a0 = 45 then some true
 else some false
 else if 48 ≤ a0 then if a0 ≤ 57 then some true
 else if a0 = 46 then some true
 else if a0 = 95 then some true
 else if a0 = 45 then some true
 else some false
 else if a0 = 46 then some true
 else if a0 = 95 then some true
 else if a0 = 45 then some true
 else some false
def Y_ref03_letter := And.intro ((@EV)) ((@R5))
set_option maxHeartbeats 2000000 in
theorem ok_ref03_letter (a0 : Int) (r : Bool) (hm0 : m_ref03_letter a0 = some r) : Ok Try.prog 35 [ik .u8 a0] (bool r) := by
 unfold m_ref03_letter at hm0
 refine okG fc_ref03_letter ?_
 unfold c_ref03_letter
 rcases iteE hm0 with ⟨e2, hm0⟩ | ⟨e2, hm0⟩
 · rcases iteE hm0 with ⟨e4, hm0⟩ | ⟨e4, hm0⟩
   · obtain rfl := Option.some.inj hm0
     simp only [e2, e4, Y_ref03_letter, ↓EVd, isCall, sevalprocAttr]
     all_goals first | done | rfl
   rcases iteE hm0 with ⟨e6, hm0⟩ | ⟨e6, hm0⟩
   · rcases iteE hm0 with ⟨e8, hm0⟩ | ⟨e8, hm0⟩
     · obtain rfl := Option.some.inj hm0
       simp only [e2, e4, e6, e8, Y_ref03_letter, ↓EVd, isCall, sevalprocAttr]
       all_goals first | done | rfl
     rcases iteE hm0 with ⟨e10, hm0⟩ | ⟨e10, hm0⟩
     · obtain rfl := Option.some.inj hm0
       simp only [e2, e4, e6, e8, e10, Y_ref03_letter, ↓EVd, isCall, sevalprocAttr]
       all_goals first | done | rfl
     rcases iteE hm0 with ⟨e12, hm0⟩ | ⟨e12, hm0⟩
     · obtain rfl := Option.some.inj hm0
       simp only [e2, e4, e6, e8, e10, e12, Y_ref03_letter, ↓EVd, isCall, sevalprocAttr]
       all_goals first | done | rfl
     rcases iteE hm0 with ⟨e14, hm0⟩ | ⟨e14, hm0⟩
     · obtain rfl := Option.some.inj hm0
       simp only [e2, e4, e6, e8, e10, e12, e14, Y_ref03_letter, ↓EVd, isCall, sevalprocAttr]
       all_goals first | done | rfl
     obtain rfl := Option.some.inj hm0
     simp only [e2, e4, e6, e8, e10, e12, e14, Y_ref03_letter, ↓EVd, isCall, sevalprocAttr]
     all_goals first | done | rfl
   rcases iteE hm0 with ⟨e16, hm0⟩ | ⟨e16, hm0⟩
   · obtain rfl := Option.some.inj hm0
     simp only [e2, e4, e6, e16, Y_ref03_letter, ↓EVd, isCall, sevalprocAttr]
     all_goals first | done | rfl
   rcases iteE hm0 with ⟨e18, hm0⟩ | ⟨e18, hm0⟩
   · obtain rfl := Option.some.inj hm0
     simp only [e2, e4, e6, e16, e18, Y_ref03_letter, ↓EVd, isCall, sevalprocAttr]
     all_goals first | done | rfl
   rcases iteE hm0 with ⟨e20, hm0⟩ | ⟨e20, hm0⟩
   · obtain rfl := Option.some.inj hm0
     simp only [e2, e4, e6, e16, e18, e20, Y_ref03_letter, ↓EVd, isCall, sevalprocAttr]
     all_goals first | done | rfl
   obtain rfl := Option.some.inj hm0
   simp only [e2, e4, e6, e16, e18, e20, Y_ref03_letter, ↓EVd, isCall, sevalprocAttr]
   all_goals first | done | rfl
 rcases iteE hm0 with ⟨e22, hm0⟩ | ⟨e22, hm0⟩
 · rcases iteE hm0 with ⟨e24, hm0⟩ | ⟨e24, hm0⟩
   · obtain rfl := Option.some.inj hm0
     simp only [e2, e22, e24, Y_ref03_letter, ↓EVd, isCall, sevalprocAttr]
     all_goals first | done | rfl
   rcases iteE hm0 with ⟨e26, hm0⟩ | ⟨e26, hm0⟩
   · obtain rfl := Option.some.inj hm0
     simp only [e2, e22, e24, e26, Y_ref03_letter, ↓EVd, isCall, sevalprocAttr]
     all_goals first | done | rfl
   rcases iteE hm0 with ⟨e28, hm0⟩ | ⟨e28, hm0⟩
   · obtain rfl := Option.some.inj hm0
     simp only [e2, e22, e24, e26, e28, Y_ref03_letter, ↓EVd, isCall, sevalprocAttr]
     all_goals first | done | rfl
   rcases iteE hm0 with ⟨e30, hm0⟩ | ⟨e30, hm0⟩
   · obtain rfl := Option.some.inj hm0
     simp only [e2, e22, e24, e26, e28, e30, Y_ref03_letter, ↓EVd, isCall, sevalprocAttr]
     all_goals first | done | rfl
   obtain rfl := Option.some.inj hm0
   simp only [e2, e22, e24, e26, e28, e30, Y_ref03_letter, ↓EVd, isCall, sevalprocAttr]
   all_goals first | done | rfl
 rcases iteE hm0 with ⟨e32, hm0⟩ | ⟨e32, hm0⟩
 · obtain rfl := Option.some.inj hm0
   simp only [e2, e22, e32, Y_ref03_letter, ↓EVd, isCall, sevalprocAttr]
   all_goals first | done | rfl
 rcases iteE hm0 with ⟨e34, hm0⟩ | ⟨e34, hm0⟩
 · obtain rfl := Option.some.inj hm0
   simp only [e2, e22, e32, e34, Y_ref03_letter, ↓EVd, isCall, sevalprocAttr]
   all_goals first | done | rfl
 rcases iteE hm0 with ⟨e36, hm0⟩ | ⟨e36, hm0⟩
 · obtain rfl := Option.some.inj hm0
   simp only [e2, e22, e32, e34, e36, Y_ref03_letter, ↓EVd, isCall, sevalprocAttr]
   all_goals first | done | rfl
 obtain rfl := Option.some.inj hm0
 simp only [e2, e22, e32, e34, e36, Y_ref03_letter, ↓EVd, isCall, sevalprocAttr]
 all_goals first | done | rfl
def m_ref03_Right_b0 (a0 : ByteArray) : Int → Option (St (Int) ((Unit) ⊕ (Bool)))
 | v10 => if v10 < (a0.size : Int) then (ixB a0 v10).bind fun v14 => (m_ref03_letter (v14.toNat : Int)).bind fun v17 => if (!v17) = true then some (.out (.inr false))
 else some (.nx (wr (v10 + 1)))
 else some (.out (.inl ()))
def m_ref03_Right (a0 : ByteArray) : Option (Bool) := if (a0.size : Int) < 1 then some false
 else if 12 < (a0.size : Int) then some false
 else if a0 = (ByteArray.mk #[46]) then some false
 else if a0 = (ByteArray.mk #[46, 46]) then some false
 else (iter (m_ref03_Right_b0 a0) big 0).bind fun o => (match o with
 | (.inl _) => some true
 | (.inr r) => some r)
def Y_ref03_Right := And.intro (And.intro ((@EV)) ((@R3))) (And.intro ((@R5)) ((@R9)))
set_option maxHeartbeats 2000000 in
theorem ok_ref03_Right (a0 : ByteArray) (r : Bool) (hm0 : m_ref03_Right a0 = some r) : Ok Try.prog 10 [str a0] (bool r) := by
 unfold m_ref03_Right at hm0
 refine okG fc_ref03_Right ?_
 unfold c_ref03_Right
 rcases iteE hm0 with ⟨e2, hm0⟩ | ⟨e2, hm0⟩
 · obtain rfl := Option.some.inj hm0
   simp only [e2, Y_ref03_Right, ↓EVd, isCall, sevalprocAttr]
   all_goals first | done | rfl
 rcases iteE hm0 with ⟨e4, hm0⟩ | ⟨e4, hm0⟩
 · obtain rfl := Option.some.inj hm0
   simp only [e2, e4, Y_ref03_Right, ↓EVd, isCall, sevalprocAttr]
   all_goals first | done | rfl
 rcases iteE hm0 with ⟨e6, hm0⟩ | ⟨e6, hm0⟩
 · obtain rfl := Option.some.inj hm0
   simp only [e2, e4, e6, Y_ref03_Right, ↓EVd, isCall, sevalprocAttr]
   all_goals first | done | rfl
 rcases iteE hm0 with ⟨e8, hm0⟩ | ⟨e8, hm0⟩
 · obtain rfl := Option.some.inj hm0
   simp only [e2, e4, e6, e8, Y_ref03_Right, ↓EVd, isCall, sevalprocAttr]
   all_goals first | done | rfl
 obtain ⟨o0, ho0, hm0⟩ := bsE hm0
 simp only [e2, e4, e6, e8, Y_ref03_Right, ↓EVd, isCall, sevalprocAttr]
 refine cwp_cx 0 (fun s => (.inl ()) = o0) ?_ fun J0_0 hJ0_0 => ?_
 · rintro T0 H0 x11 rfl
   try dsimp only at hm0
   obtain rfl := Option.some.inj hm0
   simp only [e2, e4, e6, e8, Y_ref03_Right, ↓EVd, isCall, sevalprocAttr]
   all_goals first | done | rfl
 refine cwp_lp ho0 (fun v10 s => s.T 0 = str a0 ∧ s.T 3 = int v10) ?_ ?_
 · refine TI.here ⟨?_, ?_⟩
   all_goals try simp only [e2, e4, e6, e8, Y_ref03_Right, ↓EVd, isCall, sevalprocAttr]
   all_goals first | omega | exact lq (by omega) | exact nq (by omega) | rfl | (congr 1; omega)
 rintro I0 v10 T0 H0 x9 st0 kk0 hm1 hI0 hO0
 dsimp only [Lq, Nq] at kk0
 simp only [m_ref03_Right_b0] at hm1
 rcases iteE hm1 with ⟨e13, hm1⟩ | ⟨e13, hm1⟩
 · obtain ⟨v14, e16, hm1⟩ := ixBE hm1
   obtain ⟨v17, h18, hm1⟩ := bsE hm1
   simp only [kk0, e2, e4, e6, e8, e13, e16, Y_ref03_Right, ↓EVd, isCall, sevalprocAttr]
   refine qc (ok_ref03_letter _ _ h18) rfl ?_
   rcases itbE hm1 with ⟨e20, hm1⟩ | ⟨e20, hm1⟩
   · obtain rfl := Option.some.inj hm1
     obtain rfl := hO0 _ rfl
     try dsimp only at hm0
     obtain rfl := Option.some.inj hm0
     simp only [kk0, e2, e4, e6, e8, e13, e16, e20, Y_ref03_Right, ↓EVd, isCall, sevalprocAttr]
     all_goals first | done | rfl
   obtain rfl := Option.some.inj hm1
   simp only [kk0, e2, e4, e6, e8, e13, e16, e20, Y_ref03_Right, ↓EVd, isCall, sevalprocAttr]
   refine TI.here (hI0 _ rfl _ ⟨?_, ?_⟩)
   all_goals try simp only [kk0, e2, e4, e6, e8, e13, e16, e20, Y_ref03_Right, ↓EVd, isCall, sevalprocAttr]
   all_goals first | omega | exact lq (by omega) | exact nq (by omega) | rfl | (congr 1; omega)
 obtain rfl := Option.some.inj hm1
 simp only [kk0, e2, e4, e6, e8, e13, Y_ref03_Right, ↓EVd, isCall, sevalprocAttr]
 refine TI.here (hJ0_0 _ (hO0 _ rfl))
def m_name_letter (a0 : Int) : Option (Bool) := if 97 ≤ a0 then if a0 ≤ 122 then some true
 else if 48 ≤ a0 then if a0 ≤ 57 then some true
 else if a0 = 46 then some true
 else if a0 = 95 then some true
 else if a0 = 45 then some true
 else some false
 else if a0 = 46 then some true
 else if a0 = 95 then some true
 else if a0 = 45 then some true
 else some false
 else if 48 ≤ a0 then if a0 ≤ 57 then some true
 else if a0 = 46 then some true
 else if a0 = 95 then some true
 else if a0 = 45 then some true
 else some false
 else if a0 = 46 then some true
 else if a0 = 95 then some true
 else if a0 = 45 then some true
 else some false
def Y_name_letter := And.intro ((@EV)) ((@R21))
set_option maxHeartbeats 2000000 in
theorem ok_name_letter (a0 : Int) (r : Bool) (hm0 : m_name_letter a0 = some r) : Ok Try.prog 34 [ik .i32 a0] (bool r) := by
 unfold m_name_letter at hm0
 refine okG fc_name_letter ?_
 unfold c_name_letter
 rcases iteE hm0 with ⟨e2, hm0⟩ | ⟨e2, hm0⟩
 · rcases iteE hm0 with ⟨e4, hm0⟩ | ⟨e4, hm0⟩
   · obtain rfl := Option.some.inj hm0
     simp only [e2, e4, Y_name_letter, ↓EVd, isCall, sevalprocAttr]
     all_goals first | done | rfl
   rcases iteE hm0 with ⟨e6, hm0⟩ | ⟨e6, hm0⟩
   · rcases iteE hm0 with ⟨e8, hm0⟩ | ⟨e8, hm0⟩
     · obtain rfl := Option.some.inj hm0
       simp only [e2, e4, e6, e8, Y_name_letter, ↓EVd, isCall, sevalprocAttr]
       all_goals first | done | rfl
     rcases iteE hm0 with ⟨e10, hm0⟩ | ⟨e10, hm0⟩
     · obtain rfl := Option.some.inj hm0
       simp only [e2, e4, e6, e8, e10, Y_name_letter, ↓EVd, isCall, sevalprocAttr]
       all_goals first | done | rfl
     rcases iteE hm0 with ⟨e12, hm0⟩ | ⟨e12, hm0⟩
     · obtain rfl := Option.some.inj hm0
       simp only [e2, e4, e6, e8, e10, e12, Y_name_letter, ↓EVd, isCall, sevalprocAttr]
       all_goals first | done | rfl
     rcases iteE hm0 with ⟨e14, hm0⟩ | ⟨e14, hm0⟩
     · obtain rfl := Option.some.inj hm0
       simp only [e2, e4, e6, e8, e10, e12, e14, Y_name_letter, ↓EVd, isCall, sevalprocAttr]
       all_goals first | done | rfl
     obtain rfl := Option.some.inj hm0
     simp only [e2, e4, e6, e8, e10, e12, e14, Y_name_letter, ↓EVd, isCall, sevalprocAttr]
     all_goals first | done | rfl
   rcases iteE hm0 with ⟨e16, hm0⟩ | ⟨e16, hm0⟩
   · obtain rfl := Option.some.inj hm0
     simp only [e2, e4, e6, e16, Y_name_letter, ↓EVd, isCall, sevalprocAttr]
     all_goals first | done | rfl
   rcases iteE hm0 with ⟨e18, hm0⟩ | ⟨e18, hm0⟩
   · obtain rfl := Option.some.inj hm0
     simp only [e2, e4, e6, e16, e18, Y_name_letter, ↓EVd, isCall, sevalprocAttr]
     all_goals first | done | rfl
   rcases iteE hm0 with ⟨e20, hm0⟩ | ⟨e20, hm0⟩
   · obtain rfl := Option.some.inj hm0
     simp only [e2, e4, e6, e16, e18, e20, Y_name_letter, ↓EVd, isCall, sevalprocAttr]
     all_goals first | done | rfl
   obtain rfl := Option.some.inj hm0
   simp only [e2, e4, e6, e16, e18, e20, Y_name_letter, ↓EVd, isCall, sevalprocAttr]
   all_goals first | done | rfl
 rcases iteE hm0 with ⟨e22, hm0⟩ | ⟨e22, hm0⟩
 · rcases iteE hm0 with ⟨e24, hm0⟩ | ⟨e24, hm0⟩
   · obtain rfl := Option.some.inj hm0
     simp only [e2, e22, e24, Y_name_letter, ↓EVd, isCall, sevalprocAttr]
     all_goals first | done | rfl
   rcases iteE hm0 with ⟨e26, hm0⟩ | ⟨e26, hm0⟩
   · obtain rfl := Option.some.inj hm0
     simp only [e2, e22, e24, e26, Y_name_letter, ↓EVd, isCall, sevalprocAttr]
     all_goals first | done | rfl
   rcases iteE hm0 with ⟨e28, hm0⟩ | ⟨e28, hm0⟩
   · obtain rfl := Option.some.inj hm0
     simp only [e2, e22, e24, e26, e28, Y_name_letter, ↓EVd, isCall, sevalprocAttr]
     all_goals first | done | rfl
   rcases iteE hm0 with ⟨e30, hm0⟩ | ⟨e30, hm0⟩
   · obtain rfl := Option.some.inj hm0
     simp only [e2, e22, e24, e26, e28, e30, Y_name_letter, ↓EVd, isCall, sevalprocAttr]
     all_goals first | done | rfl
   obtain rfl := Option.some.inj hm0
   simp only [e2, e22, e24, e26, e28, e30, Y_name_letter, ↓EVd, isCall, sevalprocAttr]
   all_goals first | done | rfl
 rcases iteE hm0 with ⟨e32, hm0⟩ | ⟨e32, hm0⟩
 · obtain rfl := Option.some.inj hm0
   simp only [e2, e22, e32, Y_name_letter, ↓EVd, isCall, sevalprocAttr]
   all_goals first | done | rfl
 rcases iteE hm0 with ⟨e34, hm0⟩ | ⟨e34, hm0⟩
 · obtain rfl := Option.some.inj hm0
   simp only [e2, e22, e32, e34, Y_name_letter, ↓EVd, isCall, sevalprocAttr]
   all_goals first | done | rfl
 rcases iteE hm0 with ⟨e36, hm0⟩ | ⟨e36, hm0⟩
 · obtain rfl := Option.some.inj hm0
   simp only [e2, e22, e32, e34, e36, Y_name_letter, ↓EVd, isCall, sevalprocAttr]
   all_goals first | done | rfl
 obtain rfl := Option.some.inj hm0
 simp only [e2, e22, e32, e34, e36, Y_name_letter, ↓EVd, isCall, sevalprocAttr]
 all_goals first | done | rfl
def m_name_Right_1 (a0 : Int) : Option (Bool) := (m_name_letter a0).bind fun v1 => some (!v1)
def Y_name_Right_1 := And.intro ((@EV)) ((@R21))
set_option maxHeartbeats 2000000 in
theorem ok_name_Right_1 (a0 : Int) (r : Bool) (hm0 : m_name_Right_1 a0 = some r) : Ok Try.prog 33 [ik .i32 a0] (bool r) := by
 unfold m_name_Right_1 at hm0
 refine okG fc_name_Right_1 ?_
 unfold c_name_Right_1
 obtain ⟨v1, h2, hm0⟩ := bsE hm0
 simp only [Y_name_Right_1, ↓EVd, isCall, sevalprocAttr]
 refine qc (ok_name_letter _ _ h2) rfl ?_
 obtain rfl := Option.some.inj hm0
 simp only [Y_name_Right_1, ↓EVd, isCall, sevalprocAttr]
 all_goals first | done | rfl
def m_name_Right (a0 : ByteArray) : Option (Bool) := if (a0.size : Int) = 0 then some false
 else if 12 < (a0.size : Int) then some false
 else if a0 = (ByteArray.mk #[46]) then some false
 else if a0 = (ByteArray.mk #[46, 46]) then some false
 else (idxFM (fun z => m_name_Right_1 z) a0).bind fun v9 => if v9 < 0 then some true
 else some false
def Y_name_Right := And.intro (And.intro ((@EV)) ((@R3))) (And.intro ((@R9)) ((@R57)))
set_option maxHeartbeats 2000000 in
theorem ok_name_Right (a0 : ByteArray) (r : Bool) (hm0 : m_name_Right a0 = some r) : Ok Try.prog 9 [str a0] (bool r) := by
 unfold m_name_Right at hm0
 refine okG fc_name_Right ?_
 unfold c_name_Right
 rcases iteE hm0 with ⟨e2, hm0⟩ | ⟨e2, hm0⟩
 · obtain rfl := Option.some.inj hm0
   simp only [e2, Y_name_Right, ↓EVd, isCall, sevalprocAttr]
   all_goals first | done | rfl
 rcases iteE hm0 with ⟨e4, hm0⟩ | ⟨e4, hm0⟩
 · obtain rfl := Option.some.inj hm0
   simp only [e2, e4, Y_name_Right, ↓EVd, isCall, sevalprocAttr]
   all_goals first | done | rfl
 rcases iteE hm0 with ⟨e6, hm0⟩ | ⟨e6, hm0⟩
 · obtain rfl := Option.some.inj hm0
   simp only [e2, e4, e6, Y_name_Right, ↓EVd, isCall, sevalprocAttr]
   all_goals first | done | rfl
 rcases iteE hm0 with ⟨e8, hm0⟩ | ⟨e8, hm0⟩
 · obtain rfl := Option.some.inj hm0
   simp only [e2, e4, e6, e8, Y_name_Right, ↓EVd, isCall, sevalprocAttr]
   all_goals first | done | rfl
 obtain ⟨v9, h10, hm0⟩ := bsE hm0
 simp only [e2, e4, e6, e8, Y_name_Right, ↓EVd, isCall, sevalprocAttr]
 refine qc (ok_strings_IndexFunc (fun z => m_name_Right_1 z) _ _ h10 (by kernel_rfl) (fun z b hz => ok_name_Right_1 z b hz)) rfl ?_
 rcases iteE hm0 with ⟨e12, hm0⟩ | ⟨e12, hm0⟩
 · obtain rfl := Option.some.inj hm0
   simp only [e2, e4, e6, e8, e12, Y_name_Right, ↓EVd, isCall, sevalprocAttr]
   all_goals first | done | rfl
 obtain rfl := Option.some.inj hm0
 simp only [e2, e4, e6, e8, e12, Y_name_Right, ↓EVd, isCall, sevalprocAttr]
 all_goals first | done | rfl
def m_ref03_Sort_b1 (a0 : List ByteArray) (v3 : List ByteArray) (v4 : Int) : Int → Option (St (Int) (Int))
 | v11 => if v11 < (v3.length : Int) then (ix v3 v11).bind fun v16 => (ix a0 v4).bind fun v19 => if (Op.bytesLess v16.toList v19.toList) = true then some (.nx (wr (v11 + 1)))
 else some (.out v11)
 else some (.out v11)
def m_ref03_Sort_b2 (v13 : Int) : (Int × List ByteArray) → Option (St (Int × List ByteArray) (List ByteArray))
 | (v39, v40) => if v13 < v39 then (ix v40 (wr (v39 - 1))).bind fun v45 => (ix v40 v39).bind fun v48 => some (.nx ((wr (v39 - 1)), (v40.set (v39).toNat v45)))
 else some (.out v40)
def m_ref03_Sort_b3 (v13 : Int) : (Int × List ByteArray) → Option (St (Int × List ByteArray) (List ByteArray))
 | (v59, v60) => if v13 < v59 then (ix v60 (wr (v59 - 1))).bind fun v65 => (ix v60 v59).bind fun v68 => some (.nx ((wr (v59 - 1)), (v60.set (v59).toNat v65)))
 else some (.out v60)
def m_ref03_Sort_b0 (a0 : List ByteArray) : (List ByteArray × Int) → Option (St (List ByteArray × Int) (List ByteArray))
 | (v3, v4) => if v4 < (a0.length : Int) then (iter (m_ref03_Sort_b1 a0 v3 v4) big 0).bind fun o => (match o with
 | v13 => if v13 < (v3.length : Int) then (ix v3 v13).bind fun v26 => (ix a0 v4).bind fun v29 => if v26 = v29 then some (.nx (v3, (wr (v4 + 1))))
 else (ap 16 v3 ([noBytes] : List ByteArray)).bind fun _ => (iter (m_ref03_Sort_b2 v13) big ((wr (((v3 ++ ([noBytes] : List ByteArray)).length : Int) - 1)), (v3 ++ ([noBytes] : List ByteArray)))).bind fun o => (match o with
 | v42 => (ix v42 v13).bind fun v51 => some (.nx ((v42.set (v13).toNat v29), (wr (v4 + 1)))))
 else (ap 16 v3 ([noBytes] : List ByteArray)).bind fun _ => (iter (m_ref03_Sort_b3 v13) big ((wr (((v3 ++ ([noBytes] : List ByteArray)).length : Int) - 1)), (v3 ++ ([noBytes] : List ByteArray)))).bind fun o => (match o with
 | v62 => (ix a0 v4).bind fun v71 => (ix v62 v13).bind fun v74 => some (.nx ((v62.set (v13).toNat v71), (wr (v4 + 1))))))
 else some (.out v3)
def m_ref03_Sort (a0 : List ByteArray) : Option (List ByteArray) := (iter (m_ref03_Sort_b0 a0) big (([] : List ByteArray), 0)).bind fun o => (match o with
 | v7 => some v7)
def Y_ref03_Sort := And.intro (And.intro ((@EV)) ((@R3))) (And.intro ((@R9)) (And.intro ((@R30)) ((@mixed))))
set_option maxHeartbeats 2000000 in
theorem ok_ref03_Sort (a0 : List ByteArray) (r : List ByteArray) (hm0 : m_ref03_Sort a0 = some r) : Ok Try.prog 18 [.sl 1 (a0.map str)] (.sl 1 (r.map str)) := by
 unfold m_ref03_Sort at hm0
 refine okG fc_ref03_Sort ?_
 unfold c_ref03_Sort
 obtain ⟨o0, ho0, hm0⟩ := bsE hm0
 simp only [Y_ref03_Sort, ↓EVd, isCall, sevalprocAttr]
 refine cwp_cx 0 (fun s => ∃ v7 : List ByteArray, ∃ l6 : Nat, (s.T 3 = .msl l6 v7.length ∧ s.H l6 = some (.row 9 1 (v7.map str)) ∧ Lq l6 s.nx) ∧ v7 = o0) ?_ fun J0_0 hJ0_0 => ?_
 · rintro T0 H0 x5 ⟨v7, l6, kk0_0, rfl⟩
   dsimp only [Lq, Nq] at kk0_0
   try dsimp only at hm0
   obtain rfl := Option.some.inj hm0
   simp only [kk0_0, Y_ref03_Sort, ↓EVd, isCall, sevalprocAttr]
   all_goals first | done | rfl | exact frzR_e (by simp only [kk0_0, FZ, CLO, Y_ref03_Sort, ↓EVd, isCall, sevalprocAttr])
 refine cwp_lp ho0 (fun (v3, v4) s => ∃ l2 : Nat, s.T 0 = .sl 1 (a0.map str) ∧ s.T 3 = .msl l2 v3.length ∧ s.T 4 = int v4 ∧ s.H l2 = some (.row 9 1 (v3.map str)) ∧ Lq l2 s.nx) ?_ ?_
 · refine TI.here ⟨1, ?_, ?_, ?_, ?_, ?_⟩
   all_goals try simp only [Y_ref03_Sort, ↓EVd, isCall, sevalprocAttr]
   all_goals first | omega | exact lq (by omega) | exact nq (by omega) | rfl | (congr 1; omega)
 rintro I0 ⟨v3, v4⟩ T0 H0 x1 st0 ⟨l2, kk0⟩ hm1 hI0 hO0
 dsimp only [Lq, Nq] at kk0
 simp only [m_ref03_Sort_b0] at hm1
 rcases iteE hm1 with ⟨e9, hm1⟩ | ⟨e9, hm1⟩
 · obtain ⟨o1, ho1, hm1⟩ := bsE hm1
   simp only [kk0, e9, Y_ref03_Sort, ↓EVd, isCall, sevalprocAttr]
   refine cwp_cx 2 (fun s => ∃ v13 : Int, (s.T 0 = .sl 1 (a0.map str) ∧ s.T 3 = .msl l2 v3.length ∧ s.T 4 = int v4 ∧ s.T 5 = int v13 ∧ s.H l2 = some (.row 9 1 (v3.map str)) ∧ Lq l2 s.nx) ∧ v13 = o1) ?_ fun J1_0 hJ1_0 => ?_
   · rintro T1 H1 x12 ⟨v13, kk1_0, rfl⟩
     dsimp only [Lq, Nq] at kk1_0
     try dsimp only at hm1
     rcases iteE hm1 with ⟨e25, hm1⟩ | ⟨e25, hm1⟩
     · obtain ⟨v26, e28, hm1⟩ := ixE str hm1
       obtain ⟨v29, e31, hm1⟩ := ixE str hm1
       rcases iteE hm1 with ⟨e33, hm1⟩ | ⟨e33, hm1⟩
       · obtain rfl := Option.some.inj hm1
         simp only [kk1_0, e9, e25, e28, e31, e33, Y_ref03_Sort, ↓EVd, isCall, sevalprocAttr]
         refine TI.here (hI0 _ rfl _ ⟨l2, ?_, ?_, ?_, ?_, ?_⟩)
         all_goals try simp only [kk1_0, e9, e25, e28, e31, e33, Y_ref03_Sort, ↓EVd, isCall, sevalprocAttr]
         all_goals first | omega | exact lq (by omega) | exact nq (by omega) | rfl | (congr 1; omega)
       obtain ⟨e36, hm1⟩ := apE hm1
       try simp only [ZL] at e36
       obtain ⟨o2, ho2, hm1⟩ := bsE hm1
       simp only [kk1_0, e9, e25, e28, e31, e33, e36, Y_ref03_Sort, ↓EVd, isCall, sevalprocAttr]
       refine cwp_cx 4 (fun s => ∃ v42 : List ByteArray, (s.T 0 = .sl 1 (a0.map str) ∧ s.T 3 = .msl (x12 + 17) v42.length ∧ s.T 4 = int v4 ∧ s.T 5 = int v13 ∧ s.H (x12 + 17) = some (.row 9 1 (v42.map str)) ∧ Lq (x12 + 17) s.nx) ∧ v42 = o2) ?_ fun J2_0 hJ2_0 => ?_
       · rintro T2 H2 x41 ⟨v42, kk2_0, rfl⟩
         dsimp only [Lq, Nq] at kk2_0
         try dsimp only at hm1
         obtain ⟨v51, e53, hm1⟩ := ixE str hm1
         obtain rfl := Option.some.inj hm1
         simp only [kk2_0, e9, e25, e28, e31, e33, e36, e53, Y_ref03_Sort, ↓EVd, isCall, sevalprocAttr]
         refine TI.here (hI0 _ rfl _ ⟨(x12 + 17), ?_, ?_, ?_, ?_, ?_⟩)
         all_goals try simp only [kk2_0, e9, e25, e28, e31, e33, e36, e53, Y_ref03_Sort, ↓EVd, isCall, sevalprocAttr]
         all_goals first | omega | exact lq (by omega) | exact nq (by omega) | rfl | (congr 1; omega)
       refine cwp_lp ho2 (fun (v39, v40) s => s.T 0 = .sl 1 (a0.map str) ∧ s.T 3 = .msl (x12 + 17) v40.length ∧ s.T 4 = int v4 ∧ s.T 5 = int v13 ∧ s.T 6 = int v39 ∧ s.H (x12 + 17) = some (.row 9 1 (v40.map str)) ∧ Lq (x12 + 17) s.nx) ?_ ?_
       · refine TI.here ⟨?_, ?_, ?_, ?_, ?_, ?_, ?_⟩
         all_goals try simp only [kk1_0, e9, e25, e28, e31, e33, e36, Y_ref03_Sort, ↓EVd, isCall, sevalprocAttr]
         all_goals first | omega | exact lq (by omega) | exact nq (by omega) | rfl | (congr 1; omega)
       rintro I2 ⟨v39, v40⟩ T2 H2 x38 st2 kk2 hm2 hI2 hO2
       dsimp only [Lq, Nq] at kk2
       simp only [m_ref03_Sort_b2] at hm2
       rcases iteE hm2 with ⟨e44, hm2⟩ | ⟨e44, hm2⟩
       · obtain ⟨v45, e47, hm2⟩ := ixE str hm2
         obtain ⟨v48, e50, hm2⟩ := ixE str hm2
         obtain rfl := Option.some.inj hm2
         simp only [kk2, e9, e25, e28, e31, e33, e36, e44, e47, e50, Y_ref03_Sort, ↓EVd, isCall, sevalprocAttr]
         refine TI.here (hI2 _ rfl _ ⟨?_, ?_, ?_, ?_, ?_, ?_, ?_⟩)
         all_goals try simp only [kk2, e9, e25, e28, e31, e33, e36, e44, e47, e50, Y_ref03_Sort, ↓EVd, isCall, sevalprocAttr]
         all_goals first | omega | exact lq (by omega) | exact nq (by omega) | rfl | (congr 1; omega)
       obtain rfl := Option.some.inj hm2
       simp only [kk2, e9, e25, e28, e31, e33, e36, e44, Y_ref03_Sort, ↓EVd, isCall, sevalprocAttr]
       refine TI.here (hJ2_0 _ ⟨v40, ⟨?_, ?_, ?_, ?_, ?_, ?_⟩, hO2 _ rfl⟩)
       all_goals try simp only [kk2, e9, e25, e28, e31, e33, e36, e44, Y_ref03_Sort, ↓EVd, isCall, sevalprocAttr]
       all_goals first | omega | exact lq (by omega) | exact nq (by omega) | rfl | (congr 1; omega)
     obtain ⟨e56, hm1⟩ := apE hm1
     try simp only [ZL] at e56
     obtain ⟨o3, ho3, hm1⟩ := bsE hm1
     simp only [kk1_0, e9, e25, e56, Y_ref03_Sort, ↓EVd, isCall, sevalprocAttr]
     refine cwp_cx 4 (fun s => ∃ v62 : List ByteArray, (s.T 0 = .sl 1 (a0.map str) ∧ s.T 3 = .msl (x12 + 17) v62.length ∧ s.T 4 = int v4 ∧ s.T 5 = int v13 ∧ s.H (x12 + 17) = some (.row 9 1 (v62.map str)) ∧ Lq (x12 + 17) s.nx) ∧ v62 = o3) ?_ fun J3_0 hJ3_0 => ?_
     · rintro T3 H3 x61 ⟨v62, kk3_0, rfl⟩
       dsimp only [Lq, Nq] at kk3_0
       try dsimp only at hm1
       obtain ⟨v71, e73, hm1⟩ := ixE str hm1
       obtain ⟨v74, e76, hm1⟩ := ixE str hm1
       obtain rfl := Option.some.inj hm1
       simp only [kk3_0, e9, e25, e56, e73, e76, Y_ref03_Sort, ↓EVd, isCall, sevalprocAttr]
       refine TI.here (hI0 _ rfl _ ⟨(x12 + 17), ?_, ?_, ?_, ?_, ?_⟩)
       all_goals try simp only [kk3_0, e9, e25, e56, e73, e76, Y_ref03_Sort, ↓EVd, isCall, sevalprocAttr]
       all_goals first | omega | exact lq (by omega) | exact nq (by omega) | rfl | (congr 1; omega)
     refine cwp_lp ho3 (fun (v59, v60) s => s.T 0 = .sl 1 (a0.map str) ∧ s.T 3 = .msl (x12 + 17) v60.length ∧ s.T 4 = int v4 ∧ s.T 5 = int v13 ∧ s.T 6 = int v59 ∧ s.H (x12 + 17) = some (.row 9 1 (v60.map str)) ∧ Lq (x12 + 17) s.nx) ?_ ?_
     · refine TI.here ⟨?_, ?_, ?_, ?_, ?_, ?_, ?_⟩
       all_goals try simp only [kk1_0, e9, e25, e56, Y_ref03_Sort, ↓EVd, isCall, sevalprocAttr]
       all_goals first | omega | exact lq (by omega) | exact nq (by omega) | rfl | (congr 1; omega)
     rintro I3 ⟨v59, v60⟩ T3 H3 x58 st3 kk3 hm2 hI3 hO3
     dsimp only [Lq, Nq] at kk3
     simp only [m_ref03_Sort_b3] at hm2
     rcases iteE hm2 with ⟨e64, hm2⟩ | ⟨e64, hm2⟩
     · obtain ⟨v65, e67, hm2⟩ := ixE str hm2
       obtain ⟨v68, e70, hm2⟩ := ixE str hm2
       obtain rfl := Option.some.inj hm2
       simp only [kk3, e9, e25, e56, e64, e67, e70, Y_ref03_Sort, ↓EVd, isCall, sevalprocAttr]
       refine TI.here (hI3 _ rfl _ ⟨?_, ?_, ?_, ?_, ?_, ?_, ?_⟩)
       all_goals try simp only [kk3, e9, e25, e56, e64, e67, e70, Y_ref03_Sort, ↓EVd, isCall, sevalprocAttr]
       all_goals first | omega | exact lq (by omega) | exact nq (by omega) | rfl | (congr 1; omega)
     obtain rfl := Option.some.inj hm2
     simp only [kk3, e9, e25, e56, e64, Y_ref03_Sort, ↓EVd, isCall, sevalprocAttr]
     refine TI.here (hJ3_0 _ ⟨v60, ⟨?_, ?_, ?_, ?_, ?_, ?_⟩, hO3 _ rfl⟩)
     all_goals try simp only [kk3, e9, e25, e56, e64, Y_ref03_Sort, ↓EVd, isCall, sevalprocAttr]
     all_goals first | omega | exact lq (by omega) | exact nq (by omega) | rfl | (congr 1; omega)
   refine cwp_lp ho1 (fun v11 s => s.T 0 = .sl 1 (a0.map str) ∧ s.T 3 = .msl l2 v3.length ∧ s.T 4 = int v4 ∧ s.T 5 = int v11 ∧ s.H l2 = some (.row 9 1 (v3.map str)) ∧ Lq l2 s.nx) ?_ ?_
   · refine TI.here ⟨?_, ?_, ?_, ?_, ?_, ?_⟩
     all_goals try simp only [kk0, e9, Y_ref03_Sort, ↓EVd, isCall, sevalprocAttr]
     all_goals first | omega | exact lq (by omega) | exact nq (by omega) | rfl | (congr 1; omega)
   rintro I1 v11 T1 H1 x10 st1 kk1 hm2 hI1 hO1
   dsimp only [Lq, Nq] at kk1
   simp only [m_ref03_Sort_b1] at hm2
   rcases iteE hm2 with ⟨e15, hm2⟩ | ⟨e15, hm2⟩
   · obtain ⟨v16, e18, hm2⟩ := ixE str hm2
     obtain ⟨v19, e21, hm2⟩ := ixE str hm2
     rcases itbE hm2 with ⟨e23, hm2⟩ | ⟨e23, hm2⟩
     · obtain rfl := Option.some.inj hm2
       simp only [kk1, e9, e15, e18, e21, e23, Y_ref03_Sort, ↓EVd, isCall, sevalprocAttr]
       refine TI.here (hI1 _ rfl _ ⟨?_, ?_, ?_, ?_, ?_, ?_⟩)
       all_goals try simp only [kk1, e9, e15, e18, e21, e23, Y_ref03_Sort, ↓EVd, isCall, sevalprocAttr]
       all_goals first | omega | exact lq (by omega) | exact nq (by omega) | rfl | (congr 1; omega)
     obtain rfl := Option.some.inj hm2
     simp only [kk1, e9, e15, e18, e21, e23, Y_ref03_Sort, ↓EVd, isCall, sevalprocAttr]
     refine TI.here (hJ1_0 _ ⟨v11, ⟨?_, ?_, ?_, ?_, ?_, ?_⟩, hO1 _ rfl⟩)
     all_goals try simp only [kk1, e9, e15, e18, e21, e23, Y_ref03_Sort, ↓EVd, isCall, sevalprocAttr]
     all_goals first | omega | exact lq (by omega) | exact nq (by omega) | rfl | (congr 1; omega)
   obtain rfl := Option.some.inj hm2
   simp only [kk1, e9, e15, Y_ref03_Sort, ↓EVd, isCall, sevalprocAttr]
   refine TI.here (hJ1_0 _ ⟨v11, ⟨?_, ?_, ?_, ?_, ?_, ?_⟩, hO1 _ rfl⟩)
   all_goals try simp only [kk1, e9, e15, Y_ref03_Sort, ↓EVd, isCall, sevalprocAttr]
   all_goals first | omega | exact lq (by omega) | exact nq (by omega) | rfl | (congr 1; omega)
 obtain rfl := Option.some.inj hm1
 simp only [kk0, e9, Y_ref03_Sort, ↓EVd, isCall, sevalprocAttr]
 refine TI.here (hJ0_0 _ ⟨v3, l2, ⟨?_, ?_, ?_⟩, hO0 _ rfl⟩)
 all_goals try simp only [kk0, e9, Y_ref03_Sort, ↓EVd, isCall, sevalprocAttr]
 all_goals first | omega | exact lq (by omega) | exact nq (by omega) | rfl | (congr 1; omega)
end Go.Proofs.Ytlgikchfddhocaa.AL

/- Loops of models, in plain words. -/
set_option linter.all false
namespace Go.Proofs.Ytlgikchfddhocaa.AL
open Go Go.Proofs

/-! ### Loops -/
theorem iter_term {S ρ : Type} {B : S → Option (St S ρ)} {R : ρ → Prop} (I : Nat → S → Prop) (N : Nat) (hs : ∀ i s, I i s → i ≤ N ∧ ((∃ s', B s = some (.nx s') ∧ I (i + 1) s') ∨ ∃ r, B s = some (.out r) ∧ R r)) :
    ∀ (fuel i : Nat) (s : S), I i s → N < fuel + i → ∃ r, iter B fuel s = some r ∧ R r
  | 0, i, s, h, hf => by have := (hs i s h).1; omega
  | fuel + 1, i, s, h, hf => by
    rw [iter_succ]
    rcases (hs i s h).2 with ⟨s', h1, h2⟩ | ⟨r, h1, h2⟩
    · rw [h1]
      exact iter_term I N hs fuel (i + 1) s' h2 (by omega)
    · rw [h1]
      exact ⟨r, rfl, h2⟩
theorem big_eq : big = 1000000000000000000 := rfl
theorem ix_at {α : Type} {xs : List α} {i : Nat} (h : i < xs.length) : ix xs (i : Int) = some xs[i] := by
  unfold ix
  rw [if_pos (by omega)]
  simp [h]
theorem wr_suc {i : Nat} (h : i < 4611686018427387904) : wr ((i : Int) + 1) = ((i + 1 : Nat) : Int) := by rw [wr_in (by omega) (by omega)]; omega
theorem ap_of {α : Type} {k : Nat} {xs ys : List α} (h : (xs.length + ys.length) * k ≤ 140737488355328) (hk : 0 < k) : ap k xs ys = some (xs ++ ys) := by
  unfold ap
  have : xs.length + ys.length ≤ (xs.length + ys.length) * k := Nat.le_mul_of_pos_right _ hk
  have h2 : xs.length + ys.length ≤ 9223372036854775807 := by omega
  rw [if_pos ⟨h, h2⟩]
/-- Over the places of a list, from the first to the last. -/
theorem iter_fold {α σ S ρ : Type} {B : S → Option (St S ρ)} (mk : Nat → σ → S) (xs : List α) (step : σ → α → σ) (fin : σ → ρ) (I : Nat → σ → Prop) (hs : ∀ i s (h : i < xs.length), I i s → B (mk i s) = some (.nx (mk (i + 1) (step s xs[i]))) ∧ I (i + 1) (step s xs[i]))
    (he : ∀ s, I xs.length s → B (mk xs.length s) = some (.out (fin s))) {s0 : σ} (h0 : I 0 s0) {fuel : Nat} (hf : xs.length < fuel) : iter B fuel (mk 0 s0) = some (fin (xs.foldl step s0)) ∧ I xs.length (xs.foldl step s0) := by
  have key : ∀ (d i : Nat) (s : σ) (fuel : Nat), d + i = xs.length → I i s → d < fuel → iter B fuel (mk i s) = some (fin ((xs.drop i).foldl step s)) ∧ I xs.length ((xs.drop i).foldl step s) := by
    intro d
    induction d with
    | zero =>
      intro i s fuel hd hi hf
      obtain rfl : i = xs.length := by omega
      cases fuel with
      | zero => omega
      | succ fuel =>
        rw [iter_succ, he s hi]
        simp [hi]
    | succ d ih =>
      intro i s fuel hd hi hf
      cases fuel with
      | zero => omega
      | succ fuel =>
        have hlt : i < xs.length := by omega
        obtain ⟨h1, h2⟩ := hs i s hlt hi
        rw [iter_succ, h1]
        have := ih (i + 1) _ fuel (by omega) h2 (by omega)
        rw [List.drop_eq_getElem_cons hlt]
        exact this
  have := key xs.length 0 s0 fuel (by omega) h0 hf
  simpa using this
theorem eqLoop {α : Type} [DecidableEq α] {a b : List α} {B : Int → Option (St Int (Unit ⊕ Bool))} (hl : a.length = b.length) (hlen : a.length ≤ 1000000000)
    (hB : ∀ (i : Nat) (h : i < a.length) (h' : i < b.length), B (i : Int) = if a[i] = b[i] then some (.nx ((i + 1 : Nat) : Int)) else some (.out (.inr false))) (hE : B (a.length : Int) = some (.out (.inl ()))) :
    iter B big 0 = some (if a = b then .inl () else .inr false) := by
  obtain ⟨r, h1, h2⟩ := iter_term (B := B) (R := fun r => r = if a = b then .inl () else .inr false) (fun i t => t = (i : Int) ∧ i ≤ a.length ∧ ∀ j (h : j < a.length) (h' : j < b.length), j < i → a[j] = b[j]) a.length (by
    rintro i t ⟨rfl, hi, hj⟩
    refine ⟨hi, ?_⟩
    by_cases hlt : i < a.length
    · rw [hB i hlt (by omega)]
      by_cases he : a[i] = b[i]
      · rw [if_pos he]
        refine .inl ⟨_, rfl, rfl, by omega, fun j h h' hji => ?_⟩
        by_cases e : j = i
        · subst e; exact he
        · exact hj j h h' (by omega)
      · rw [if_neg he]
        refine .inr ⟨_, rfl, ?_⟩
        rw [if_neg]
        rintro rfl
        exact he rfl
    · obtain rfl : i = a.length := by omega
      rw [hE]
      refine .inr ⟨_, rfl, ?_⟩
      rw [if_pos (List.ext_getElem hl fun j h h' => hj j h h' h)]) big 0 0 ⟨rfl, by omega, fun j _ _ h => by omega⟩ (by rw [big_eq]; omega)
  rw [h1, h2]
end Go.Proofs.Ytlgikchfddhocaa.AL

/- Plain laws of chapter 03: which texts are names. -/
set_option linter.all false
namespace Go.Proofs.Ytlgikchfddhocaa.AL
open Go Go.Proofs

def letP (n : Int) : Bool := decide ((97 ≤ n ∧ n ≤ 122) ∨ (48 ≤ n ∧ n ≤ 57) ∨ n = 46 ∨ n = 95 ∨ n = 45)
theorem letter_eq (n : Int) : m_ref03_letter n = some (letP n) := by
  unfold m_ref03_letter letP
  repeat' split
  all_goals (congr 1; symm; first | (apply decide_eq_true; omega) | (apply decide_eq_false; omega))
theorem nletter_eq (n : Int) : m_name_letter n = some (letP n) := letter_eq n
def rightP (s : ByteArray) : Bool := decide (1 ≤ s.size ∧ s.size ≤ 12 ∧ ¬ s = ⟨#[46]⟩ ∧ ¬ s = ⟨#[46, 46]⟩) && s.data.toList.all fun b => letP b.toNat
theorem bsize (s : ByteArray) : s.data.toList.length = s.size := by simp
theorem ixB_at {s : ByteArray} {i : Nat} (h : i < s.size) : ixB s (i : Int) = some (s.data.toList[i]'(by rw [bsize]; exact h)) := by
  unfold ixB
  rw [if_pos (by omega)]
  simp [h]
  rfl
theorem right_eq (s : ByteArray) : m_ref03_Right s = some (rightP s) := by
  unfold m_ref03_Right rightP
  by_cases h1 : (s.size : Int) < 1
  · rw [if_pos h1, decide_eq_false (by omega)]; rfl
  rw [if_neg h1]
  by_cases h2 : 12 < (s.size : Int)
  · rw [if_pos h2, decide_eq_false (by omega)]; rfl
  rw [if_neg h2]
  by_cases h3 : s = ⟨#[46]⟩
  · rw [if_pos h3, decide_eq_false (fun h => h.2.2.1 h3)]; rfl
  rw [if_neg h3]
  by_cases h4 : s = ⟨#[46, 46]⟩
  · rw [if_pos h4, decide_eq_false (fun h => h.2.2.2 h4)]; rfl
  rw [if_neg h4, decide_eq_true ⟨by omega, by omega, h3, h4⟩]
  have hb := bsize s
  obtain ⟨r, e1, e2⟩ := iter_term (B := m_ref03_Right_b0 s) (R := fun r => match r with | .inl _ => (s.data.toList.all fun b => letP b.toNat) = true | .inr r => r = false ∧ (s.data.toList.all fun b => letP b.toNat) = false)
    (fun i t => t = (i : Int) ∧ i ≤ s.size ∧ ∀ j (h : j < s.data.toList.length), j < i → letP (s.data.toList[j]).toNat = true) s.size (by
    rintro i t ⟨rfl, hi, hj⟩
    refine ⟨hi, ?_⟩
    simp only [m_ref03_Right_b0]
    by_cases hlt : i < s.size
    · rw [if_pos (by omega), ixB_at hlt]
      simp only [Option.bind_some]
      rw [letter_eq]
      simp only [Option.bind_some]
      by_cases hl : letP (s.data.toList[i]'(by omega)).toNat = true
      · rw [hl, if_neg (by simp), wr_suc (by omega)]
        refine .inl ⟨_, rfl, rfl, by omega, fun j h hj' => ?_⟩
        by_cases e : j = i
        · subst e; exact hl
        · exact hj j h (by omega)
      · rw [if_pos (by simpa using hl)]
        refine .inr ⟨_, rfl, rfl, ?_⟩
        rw [List.all_eq_false]
        exact ⟨_, List.getElem_mem (by omega), hl⟩
    · rw [if_neg (by omega)]
      refine .inr ⟨_, rfl, ?_⟩
      simp only
      rw [List.all_eq_true]
      intro b hb'
      obtain ⟨j, h, rfl⟩ := List.getElem_of_mem hb'
      exact hj j h (by omega)) big 0 0 ⟨rfl, by omega, fun j _ h => by omega⟩ (by rw [big_eq]; omega)
  rw [e1]
  cases r with
  | inl u => simp only at e2; rw [e2]; rfl
  | inr r => simp only at e2; rw [e2.1, e2.2]; rfl
/-- The runes of a text are all letters just if its bytes are. -/
theorem idx_letters (s : ByteArray) : ∀ (f pos : Nat), pos ≤ s.size → s.size ≤ f + pos → (Lib.idxFuncFrom (fun x => !letP (x : Int)) true s f pos < 0 ↔ ∀ j (h : j < s.data.toList.length), pos ≤ j → letP (s.data.toList[j]).toNat = true)
  | 0, pos, h1, h2 => by
    have hb := bsize s
    simp only [Lib.idxFuncFrom]
    exact ⟨fun _ j h hj => by omega, fun _ => by omega⟩
  | f + 1, pos, h1, h2 => by
    have hb := bsize s
    unfold Lib.idxFuncFrom
    by_cases hlt : pos < s.size
    · rw [if_pos hlt]
      have hg : s[pos]'hlt = s.data.toList[pos]'(by omega) := rfl
      by_cases ha : (s[pos]'hlt).toNat < 128
      · rw [decode_ascii s pos hlt ha]
        simp only
        by_cases hl : letP ((s[pos]'hlt).toNat : Int) = true
        · rw [if_neg (by simp [hl])]
          rw [idx_letters s f (pos + 1) (by omega) (by omega)]
          constructor
          · intro h j hj hpj
            by_cases e : j = pos
            · subst e; rw [← hg]; exact hl
            · exact h j hj (by omega)
          · intro h j hj hpj
            exact h j hj (by omega)
        · rw [if_pos (by simpa using hl)]
          constructor
          · intro h; omega
          · intro h
            have := h pos (by omega) (Nat.le_refl _)
            rw [← hg] at this
            exact absurd this hl
      · obtain ⟨d1, d2⟩ := decode_high s pos hlt (by omega)
        have hno : letP (((Utf8.decode s pos).1 : Nat) : Int) = false := by
          unfold letP
          apply decide_eq_false
          omega
        rw [if_pos (by simp [hno])]
        constructor
        · intro h; omega
        · intro h
          have := h pos (by omega) (Nat.le_refl _)
          rw [← hg] at this
          unfold letP at this
          have := of_decide_eq_true this
          omega
    · rw [if_neg hlt]
      exact ⟨fun _ j h hj => by omega, fun _ => by omega⟩
theorem nright_eq (s : ByteArray) : m_name_Right s = some (rightP s) := by
  have hb := bsize s
  unfold m_name_Right rightP
  by_cases h1 : (s.size : Int) = 0
  · rw [if_pos h1, decide_eq_false (by omega)]; rfl
  rw [if_neg h1]
  by_cases h2 : 12 < (s.size : Int)
  · rw [if_pos h2, decide_eq_false (by omega)]; rfl
  rw [if_neg h2]
  by_cases h3 : s = ⟨#[46]⟩
  · rw [if_pos h3, decide_eq_false (fun h => h.2.2.1 h3)]; rfl
  rw [if_neg h3]
  by_cases h4 : s = ⟨#[46, 46]⟩
  · rw [if_pos h4, decide_eq_false (fun h => h.2.2.2 h4)]; rfl
  rw [if_neg h4, decide_eq_true ⟨by omega, by omega, h3, h4⟩]
  have hp : ∀ x : Int, m_name_Right_1 x = some (!letP x) := fun x => by unfold m_name_Right_1; rw [nletter_eq]; rfl
  unfold idxFM ck
  rw [if_pos (fun x => by show (m_name_Right_1 _).isSome = true; rw [hp]; rfl)]
  simp only [Option.bind_some, hp, Option.getD_some]
  have key := idx_letters s s.size 0 (by omega) (by omega)
  unfold Lib.idxFunc
  by_cases ha : (s.data.toList.all fun b => letP b.toNat) = true
  · rw [if_pos (key.2 fun j h _ => List.all_eq_true.1 ha _ (List.getElem_mem h)), ha]; rfl
  · rw [if_neg (fun h => ha (List.all_eq_true.2 fun b hb' => by obtain ⟨j, hj, rfl⟩ := List.getElem_of_mem hb'; exact key.1 h j hj (by omega)))]
    simp only [Bool.not_eq_true] at ha
    rw [ha]; rfl
end Go.Proofs.Ytlgikchfddhocaa.AL

/- Plain laws: the guard of chapter 16's statements. -/
set_option linter.all false
namespace Go.Proofs.Ytlgikchfddhocaa.AL
open Go Go.Proofs
/-! ### Nodes -/
structure NB (x : Node) : Prop where
  ents : x.entries.length ≤ 16
  has0 : 0 ≤ x.attr.has
  has1 : x.attr.has ≤ 31
structure SB (s : Stack) : Prop where
  low : s.lowers.length ≤ 3
  up : s.upper.nodes.length ≤ 24 ∧ ∀ x ∈ s.upper.nodes, NB x
  lows : ∀ b ∈ s.lowers, b.nodes.length ≤ 24 ∧ ∀ x ∈ b.nodes, NB x
end Go.Proofs.Ytlgikchfddhocaa.AL

