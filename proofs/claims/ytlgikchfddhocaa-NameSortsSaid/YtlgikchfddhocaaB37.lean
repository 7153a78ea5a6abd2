/- What of the attributes of any stack, and of any node, may not be, is what the document says: part 37 of 46. -/
import Derived.Test.YtlgikchfddhocaaB36
set_option linter.all false
/- Models of functions, and that the functions are as their models: written by gen.py. -/
set_option linter.all false
set_option maxRecDepth 100000
namespace Go.Proofs.Ytlgikchfddhocaa.AL
open Go Go.Proofs
def m_slices_Equal_string_string_b0 (a0 : List ByteArray) (a1 : List ByteArray) : Int → Option (St (Int) ((Unit) ⊕ (Bool)))
 | v4 => if v4 < (a0.length : Int) then (ix a0 v4).bind fun v8 => (ix a1 v4).bind fun v11 => if v8 = v11 then some (.nx (wr (v4 + 1)))
 else some (.out (.inr false))
 else some (.out (.inl ()))
def m_slices_Equal_string_string (a0 : List ByteArray) (a1 : List ByteArray) : Option (Bool) := if (a0.length : Int) = (a1.length : Int) then (iter (m_slices_Equal_string_string_b0 a0 a1) big 0).bind fun o => (match o with
 | (.inl _) => some true
 | (.inr r) => some r)
 else some false
def Y_slices_Equal_string_string := And.intro (And.intro ((@EV)) ((@R3))) (And.intro ((@R9)) (And.intro ((@R30)) ((@mixed))))
set_option maxHeartbeats 2000000 in
theorem ok_slices_Equal_string_string (a0 : List ByteArray) (a1 : List ByteArray) (r : Bool) (hm0 : m_slices_Equal_string_string a0 a1 = some r) : Ok Try.prog 17 [.sl 1 (a0.map str), .sl 1 (a1.map str)] (bool r) := by
 unfold m_slices_Equal_string_string at hm0
 refine okG fc_slices_Equal_string_string ?_
 unfold c_slices_Equal_string_string
 rcases iteE hm0 with ⟨e2, hm0⟩ | ⟨e2, hm0⟩
 · obtain ⟨o0, ho0, hm0⟩ := bsE hm0
   simp only [e2, Y_slices_Equal_string_string, ↓EVd, isCall, sevalprocAttr]
   refine cwp_cx 0 (fun s => (.inl ()) = o0) ?_ fun J0_0 hJ0_0 => ?_
   · rintro T0 H0 x5 rfl
     try dsimp only at hm0
     obtain rfl := Option.some.inj hm0
     simp only [e2, Y_slices_Equal_string_string, ↓EVd, isCall, sevalprocAttr]
     all_goals first | done | rfl
   refine cwp_lp ho0 (fun v4 s => s.T 0 = .sl 1 (a0.map str) ∧ s.T 1 = .sl 1 (a1.map str) ∧ s.T 12 = int (a0.length : Int) ∧ s.T 13 = int v4) ?_ ?_
   · refine TI.here ⟨?_, ?_, ?_, ?_⟩
     all_goals try simp only [e2, Y_slices_Equal_string_string, ↓EVd, isCall, sevalprocAttr]
     all_goals first | omega | exact lq (by omega) | exact nq (by omega) | rfl | (congr 1; omega)
   rintro I0 v4 T0 H0 x3 st0 kk0 hm1 hI0 hO0
   dsimp only [Lq, Nq] at kk0
   simp only [m_slices_Equal_string_string_b0] at hm1
   rcases iteE hm1 with ⟨e7, hm1⟩ | ⟨e7, hm1⟩
   · obtain ⟨v8, e10, hm1⟩ := ixE str hm1
     obtain ⟨v11, e13, hm1⟩ := ixE str hm1
     rcases iteE hm1 with ⟨e15, hm1⟩ | ⟨e15, hm1⟩
     · obtain rfl := Option.some.inj hm1
       simp only [kk0, e2, e7, e10, e13, e15, Y_slices_Equal_string_string, ↓EVd, isCall, sevalprocAttr]
       refine TI.here (hI0 _ rfl _ ⟨?_, ?_, ?_, ?_⟩)
       all_goals try simp only [kk0, e2, e7, e10, e13, e15, Y_slices_Equal_string_string, ↓EVd, isCall, sevalprocAttr]
       all_goals first | omega | exact lq (by omega) | exact nq (by omega) | rfl | (congr 1; omega)
     obtain rfl := Option.some.inj hm1
     obtain rfl := hO0 _ rfl
     try dsimp only at hm0
     obtain rfl := Option.some.inj hm0
     simp only [kk0, e2, e7, e10, e13, e15, Y_slices_Equal_string_string, ↓EVd, isCall, sevalprocAttr]
     all_goals first | done | rfl
   obtain rfl := Option.some.inj hm1
   simp only [kk0, e2, e7, Y_slices_Equal_string_string, ↓EVd, isCall, sevalprocAttr]
   refine TI.here (hJ0_0 _ (hO0 _ rfl))
 obtain rfl := Option.some.inj hm0
 simp only [e2, Y_slices_Equal_string_string, ↓EVd, isCall, sevalprocAttr]
 all_goals first | done | rfl
def m_cmp_isNaN_string (a0 : ByteArray) : Option (Bool) := some false
def Y_cmp_isNaN_string := And.intro ((@EV)) ((@R9))
set_option maxHeartbeats 2000000 in
theorem ok_cmp_isNaN_string (a0 : ByteArray) (r : Bool) (hm0 : m_cmp_isNaN_string a0 = some r) : Ok Try.prog 57 [str a0] (bool r) := by
 unfold m_cmp_isNaN_string at hm0
 refine okG fc_cmp_isNaN_string ?_
 unfold c_cmp_isNaN_string
 obtain rfl := Option.some.inj hm0
 simp only [Y_cmp_isNaN_string, ↓EVd, isCall, sevalprocAttr]
 all_goals first | done | rfl
def m_cmp_Less_string (a0 : ByteArray) (a1 : ByteArray) : Option (Bool) := (m_cmp_isNaN_string a0).bind fun v1 => if v1 = true then (m_cmp_isNaN_string a1).bind fun v5 => if (!v5) = true then some true
 else if (Op.bytesLess a0.toList a1.toList) = true then some true
 else some false
 else if (Op.bytesLess a0.toList a1.toList) = true then some true
 else some false
def Y_cmp_Less_string := And.intro ((@EV)) ((@R9))
set_option maxHeartbeats 2000000 in
theorem ok_cmp_Less_string (a0 : ByteArray) (a1 : ByteArray) (r : Bool) (hm0 : m_cmp_Less_string a0 a1 = some r) : Ok Try.prog 39 [str a0, str a1] (bool r) := by
 unfold m_cmp_Less_string at hm0
 refine okG fc_cmp_Less_string ?_
 unfold c_cmp_Less_string
 obtain ⟨v1, h2, hm0⟩ := bsE hm0
 simp only [Y_cmp_Less_string, ↓EVd, isCall, sevalprocAttr]
 refine qc (ok_cmp_isNaN_string _ _ h2) rfl ?_
 rcases itbE hm0 with ⟨e4, hm0⟩ | ⟨e4, hm0⟩
 · obtain ⟨v5, h6, hm0⟩ := bsE hm0
   simp only [e4, Y_cmp_Less_string, ↓EVd, isCall, sevalprocAttr]
   refine qc (ok_cmp_isNaN_string _ _ h6) rfl ?_
   rcases itbE hm0 with ⟨e8, hm0⟩ | ⟨e8, hm0⟩
   · obtain rfl := Option.some.inj hm0
     simp only [e4, e8, Y_cmp_Less_string, ↓EVd, isCall, sevalprocAttr]
     all_goals first | done | rfl
   rcases itbE hm0 with ⟨e10, hm0⟩ | ⟨e10, hm0⟩
   · obtain rfl := Option.some.inj hm0
     simp only [e4, e8, e10, Y_cmp_Less_string, ↓EVd, isCall, sevalprocAttr]
     all_goals first | done | rfl
   obtain rfl := Option.some.inj hm0
   simp only [e4, e8, e10, Y_cmp_Less_string, ↓EVd, isCall, sevalprocAttr]
   all_goals first | done | rfl
 rcases itbE hm0 with ⟨e12, hm0⟩ | ⟨e12, hm0⟩
 · obtain rfl := Option.some.inj hm0
   simp only [e4, e12, Y_cmp_Less_string, ↓EVd, isCall, sevalprocAttr]
   all_goals first | done | rfl
 obtain rfl := Option.some.inj hm0
 simp only [e4, e12, Y_cmp_Less_string, ↓EVd, isCall, sevalprocAttr]
 all_goals first | done | rfl
def m_slices_IsSorted_string_string_b0 (a0 : List ByteArray) : Int → Option (St (Int) ((Unit) ⊕ (Bool)))
 | v2 => if 0 < v2 then (ix a0 v2).bind fun v6 => (ix a0 (wr (v2 - 1))).bind fun v9 => (m_cmp_Less_string v6 v9).bind fun v12 => if v12 = true then some (.out (.inr false))
 else some (.nx (wr (v2 - 1)))
 else some (.out (.inl ()))
def m_slices_IsSorted_string_string (a0 : List ByteArray) : Option (Bool) := (iter (m_slices_IsSorted_string_string_b0 a0) big (wr ((a0.length : Int) - 1))).bind fun o => (match o with
 | (.inl _) => some true
 | (.inr r) => some r)
def Y_slices_IsSorted_string_string := And.intro (And.intro ((@EV)) ((@R3))) (And.intro ((@R9)) (And.intro ((@R30)) ((@mixed))))
set_option maxHeartbeats 2000000 in
theorem ok_slices_IsSorted_string_string (a0 : List ByteArray) (r : Bool) (hm0 : m_slices_IsSorted_string_string a0 = some r) : Ok Try.prog 19 [.sl 1 (a0.map str)] (bool r) := by
 unfold m_slices_IsSorted_string_string at hm0
 refine okG fc_slices_IsSorted_string_string ?_
 unfold c_slices_IsSorted_string_string
 obtain ⟨o0, ho0, hm0⟩ := bsE hm0
 simp only [Y_slices_IsSorted_string_string, ↓EVd, isCall, sevalprocAttr]
 refine cwp_cx 0 (fun s => (.inl ()) = o0) ?_ fun J0_0 hJ0_0 => ?_
 · rintro T0 H0 x3 rfl
   try dsimp only at hm0
   obtain rfl := Option.some.inj hm0
   simp only [Y_slices_IsSorted_string_string, ↓EVd, isCall, sevalprocAttr]
   all_goals first | done | rfl
 refine cwp_lp ho0 (fun v2 s => s.T 0 = .sl 1 (a0.map str) ∧ s.T 3 = int v2) ?_ ?_
 · refine TI.here ⟨?_, ?_⟩
   all_goals try simp only [Y_slices_IsSorted_string_string, ↓EVd, isCall, sevalprocAttr]
   all_goals first | omega | exact lq (by omega) | exact nq (by omega) | rfl | (congr 1; omega)
 rintro I0 v2 T0 H0 x1 st0 kk0 hm1 hI0 hO0
 dsimp only [Lq, Nq] at kk0
 simp only [m_slices_IsSorted_string_string_b0] at hm1
 rcases iteE hm1 with ⟨e5, hm1⟩ | ⟨e5, hm1⟩
 · obtain ⟨v6, e8, hm1⟩ := ixE str hm1
   obtain ⟨v9, e11, hm1⟩ := ixE str hm1
   obtain ⟨v12, h13, hm1⟩ := bsE hm1
   simp only [kk0, e5, e8, e11, Y_slices_IsSorted_string_string, ↓EVd, isCall, sevalprocAttr]
   refine qd (ok_cmp_Less_string _ _ _ h13) rfl ?_
   rcases itbE hm1 with ⟨e15, hm1⟩ | ⟨e15, hm1⟩
   · obtain rfl := Option.some.inj hm1
     obtain rfl := hO0 _ rfl
     try dsimp only at hm0
     obtain rfl := Option.some.inj hm0
     simp only [kk0, e5, e8, e11, e15, Y_slices_IsSorted_string_string, ↓EVd, isCall, sevalprocAttr]
     all_goals first | done | rfl
   obtain rfl := Option.some.inj hm1
   simp only [kk0, e5, e8, e11, e15, Y_slices_IsSorted_string_string, ↓EVd, isCall, sevalprocAttr]
   refine TI.here (hI0 _ rfl _ ⟨?_, ?_⟩)
   all_goals try simp only [kk0, e5, e8, e11, e15, Y_slices_IsSorted_string_string, ↓EVd, isCall, sevalprocAttr]
   all_goals first | omega | exact lq (by omega) | exact nq (by omega) | rfl | (congr 1; omega)
 obtain rfl := Option.some.inj hm1
 simp only [kk0, e5, Y_slices_IsSorted_string_string, ↓EVd, isCall, sevalprocAttr]
 refine TI.here (hJ0_0 _ (hO0 _ rfl))
end Go.Proofs.Ytlgikchfddhocaa.AL

