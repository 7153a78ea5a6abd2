/- A law of the given program is proved: part 43 of 49. -/
import Derived.Test.YtnmljicimdhpmaaE42
set_option linter.all false
/- Models of functions, and that the functions are as their models: written by gen.py. -/
set_option linter.all false
set_option maxRecDepth 100000
namespace Go.Proofs.Ytnmljicimdhpmaa.AL
open Go Go.Proofs
def m_walk_Path_b0 (a0 : List Way) : (Int × List ByteArray) → Option (St (Int × List ByteArray) (List ByteArray))
 | (v2, v4) => if 0 ≤ v2 then if v2 < (a0.length : Int) then (ix a0 v2).bind fun v12 => if v12.up < 0 then some (.out v4)
 else if v2 ≤ v12.up then some (.out v4)
 else (ap 16 v4 ([v12.name] : List ByteArray)).bind fun _ => some (.nx (v12.up, (v4 ++ ([v12.name] : List ByteArray))))
 else some (.out v4)
 else some (.out v4)
def m_walk_Path (a0 : List Way) (a1 : Int) : Option (List ByteArray) := (iter (m_walk_Path_b0 a0) big (a1, [])).bind fun o => (match o with
 | v7 => (revM v7).bind fun v23 => some v23)
def Y_walk_Path := And.intro (And.intro (And.intro ((@EV)) ((@R3))) (And.intro ((@R9)) ((@R49)))) (And.intro (And.intro ((@R52)) ((@R60))) (And.intro ((@DWay)) ((@mixed))))
set_option maxHeartbeats 2000000 in
theorem ok_walk_Path (a0 : List Way) (a1 : Int) (r : List ByteArray) (hm0 : m_walk_Path a0 a1 = some r) : Ok Try.prog 36 [.sl 3 (a0.map encWay), int a1] (.sl 1 (r.map str)) := by
 unfold m_walk_Path at hm0
 refine okG fc_walk_Path ?_
 unfold c_walk_Path
 obtain ⟨o0, ho0, hm0⟩ := bsE hm0
 simp only [Y_walk_Path, ↓EVd, isCall, sevalprocAttr]
 refine cwp_cx 0 (fun s => ∃ v7 : List ByteArray, ∃ l6 : Nat, (s.T 5 = .msl l6 v7.length ∧ s.H l6 = some (.row 9 1 (v7.map str)) ∧ Lq l6 s.nx) ∧ v7 = o0) ?_ fun J0_0 hJ0_0 => ?_
 · rintro T0 H0 x5 ⟨v7, l6, kk0_0, rfl⟩
   dsimp only [Lq, Nq] at kk0_0
   try dsimp only at hm0
   obtain ⟨v23, h24, hm0⟩ := bsE hm0
   have e25 := revM_len h24
   simp only [kk0_0, e25, Y_walk_Path, ↓EVd, isCall, sevalprocAttr]
   refine qci (rev_ok fc_slices_Reverse_string_string elemOfT_60 aggN_9 mixed str _ _ h24 (fun z => by simp only [CLO]) (fun z => by simp only [Y_walk_Path, ↓EVd, isCall, sevalprocAttr]) (fun z w => by simp only [Y_walk_Path, ↓EVd, isCall, sevalprocAttr]) (fun z => by simp only [Y_walk_Path, ↓EVd, isCall, sevalprocAttr]) _) rfl (by simp only [kk0_0, e25, FZ, CLO, Y_walk_Path, ↓EVd, isCall, sevalprocAttr]) (by simp only [kk0_0, e25, FZ, CLO, Y_walk_Path, ↓EVd, isCall, sevalprocAttr]) (fun _ _ => by simp only [inK, inKs]) ?_
   obtain rfl := Option.some.inj hm0
   simp only [kk0_0, e25, Y_walk_Path, ↓EVd, isCall, sevalprocAttr]
   all_goals first | done | rfl | exact frzR_e (by simp only [kk0_0, e25, FZ, CLO, Y_walk_Path, ↓EVd, isCall, sevalprocAttr])
 refine cwp_lp ho0 (fun (v2, v4) s => ∃ l3 : Nat, s.T 0 = .sl 3 (a0.map encWay) ∧ s.T 1 = int v2 ∧ s.T 5 = .msl l3 v4.length ∧ s.H l3 = some (.row 9 1 (v4.map str)) ∧ Lq l3 s.nx) ?_ ?_
 · refine TI.by (Tn.adopt 5 9 1 (by simp only [Y_walk_Path, ↓EVd, isCall, sevalprocAttr])) ?_
   refine TI.here ⟨2, ?_, ?_, ?_, ?_, ?_⟩
   all_goals try simp only [Y_walk_Path, ↓EVd, isCall, sevalprocAttr]
   all_goals first | omega | exact lq (by omega) | exact nq (by omega) | rfl | (congr 1; omega)
 rintro I0 ⟨v2, v4⟩ T0 H0 x1 st0 ⟨l3, kk0⟩ hm1 hI0 hO0
 dsimp only [Lq, Nq] at kk0
 simp only [m_walk_Path_b0] at hm1
 rcases iteE hm1 with ⟨e9, hm1⟩ | ⟨e9, hm1⟩
 · rcases iteE hm1 with ⟨e11, hm1⟩ | ⟨e11, hm1⟩
   · obtain ⟨v12, e14, hm1⟩ := ixE encWay hm1
     rcases iteE hm1 with ⟨e16, hm1⟩ | ⟨e16, hm1⟩
     · obtain rfl := Option.some.inj hm1
       simp only [kk0, e9, e11, e14, e16, Y_walk_Path, ↓EVd, isCall, sevalprocAttr]
       refine TI.here (hJ0_0 _ ⟨v4, l3, ⟨?_, ?_, ?_⟩, hO0 _ rfl⟩)
       all_goals try simp only [kk0, e9, e11, e14, e16, Y_walk_Path, ↓EVd, isCall, sevalprocAttr]
       all_goals first | omega | exact lq (by omega) | exact nq (by omega) | rfl | (congr 1; omega)
     rcases iteE hm1 with ⟨e18, hm1⟩ | ⟨e18, hm1⟩
     · obtain rfl := Option.some.inj hm1
       simp only [kk0, e9, e11, e14, e16, e18, Y_walk_Path, ↓EVd, isCall, sevalprocAttr]
       refine TI.here (hJ0_0 _ ⟨v4, l3, ⟨?_, ?_, ?_⟩, hO0 _ rfl⟩)
       all_goals try simp only [kk0, e9, e11, e14, e16, e18, Y_walk_Path, ↓EVd, isCall, sevalprocAttr]
       all_goals first | omega | exact lq (by omega) | exact nq (by omega) | rfl | (congr 1; omega)
     obtain ⟨e21, hm1⟩ := apE hm1
     try simp only [ZL] at e21
     obtain rfl := Option.some.inj hm1
     simp only [kk0, e9, e11, e14, e16, e18, e21, Y_walk_Path, ↓EVd, isCall, sevalprocAttr]
     refine TI.here (hI0 _ rfl _ ⟨(x1 + 27), ?_, ?_, ?_, ?_, ?_⟩)
     all_goals try simp only [kk0, e9, e11, e14, e16, e18, e21, Y_walk_Path, ↓EVd, isCall, sevalprocAttr]
     all_goals first | omega | exact lq (by omega) | exact nq (by omega) | rfl | (congr 1; omega)
   obtain rfl := Option.some.inj hm1
   simp only [kk0, e9, e11, Y_walk_Path, ↓EVd, isCall, sevalprocAttr]
   refine TI.here (hJ0_0 _ ⟨v4, l3, ⟨?_, ?_, ?_⟩, hO0 _ rfl⟩)
   all_goals try simp only [kk0, e9, e11, Y_walk_Path, ↓EVd, isCall, sevalprocAttr]
   all_goals first | omega | exact lq (by omega) | exact nq (by omega) | rfl | (congr 1; omega)
 obtain rfl := Option.some.inj hm1
 simp only [kk0, e9, Y_walk_Path, ↓EVd, isCall, sevalprocAttr]
 refine TI.here (hJ0_0 _ ⟨v4, l3, ⟨?_, ?_, ?_⟩, hO0 _ rfl⟩)
 all_goals try simp only [kk0, e9, Y_walk_Path, ↓EVd, isCall, sevalprocAttr]
 all_goals first | omega | exact lq (by omega) | exact nq (by omega) | rfl | (congr 1; omega)
def m_slices_Equal_string_string_b0 (a0 : List ByteArray) (a1 : List ByteArray) : Int → Option (St (Int) ((Unit) ⊕ (Bool)))
 | v4 => if v4 < (a0.length : Int) then (ix a0 v4).bind fun v8 => (ix a1 v4).bind fun v11 => if v8 = v11 then some (.nx (wr (v4 + 1)))
 else some (.out (.inr false))
 else some (.out (.inl ()))
def m_slices_Equal_string_string (a0 : List ByteArray) (a1 : List ByteArray) : Option (Bool) := if (a0.length : Int) = (a1.length : Int) then (iter (m_slices_Equal_string_string_b0 a0 a1) big 0).bind fun o => (match o with
 | (.inl _) => some true
 | (.inr r) => some r)
 else some false
def Y_slices_Equal_string_string := And.intro (And.intro ((@EV)) ((@R3))) (And.intro ((@R9)) (And.intro ((@R60)) ((@mixed))))
set_option maxHeartbeats 2000000 in
theorem ok_slices_Equal_string_string (a0 : List ByteArray) (a1 : List ByteArray) (r : Bool) (hm0 : m_slices_Equal_string_string a0 a1 = some r) : Ok Try.prog 35 [.sl 1 (a0.map str), .sl 1 (a1.map str)] (bool r) := by
 unfold m_slices_Equal_string_string at hm0
 refine okG fc_slices_Equal_string_string ?_
 unfold c_slices_Equal_string_string
 rcases iteE hm0 with ⟨e2, hm0⟩ | ⟨e2, hm0⟩
 · obtain ⟨o0, ho0, hm0⟩ := bsE hm0
   simp only [e2, Y_slices_Equal_string_string, ↓EVd, isCall, sevalprocAttr]
   refine cwp_cx 0 (fun s => (.inl ()) = o0) ?_ fun J0_0 hJ0_0 => ?_
   · rintro T0 H0 x5 rfl
     try dsimp only at hm0
     obtain rfl := Option.some.inj hm0
     simp only [e2, Y_slices_Equal_string_string, ↓EVd, isCall, sevalprocAttr]
     all_goals first | done | rfl
   refine cwp_lp ho0 (fun v4 s => s.T 0 = .sl 1 (a0.map str) ∧ s.T 1 = .sl 1 (a1.map str) ∧ s.T 12 = int (a0.length : Int) ∧ s.T 13 = int v4) ?_ ?_
   · refine TI.here ⟨?_, ?_, ?_, ?_⟩
     all_goals try simp only [e2, Y_slices_Equal_string_string, ↓EVd, isCall, sevalprocAttr]
     all_goals first | omega | exact lq (by omega) | exact nq (by omega) | rfl | (congr 1; omega)
   rintro I0 v4 T0 H0 x3 st0 kk0 hm1 hI0 hO0
   dsimp only [Lq, Nq] at kk0
   simp only [m_slices_Equal_string_string_b0] at hm1
   rcases iteE hm1 with ⟨e7, hm1⟩ | ⟨e7, hm1⟩
   · obtain ⟨v8, e10, hm1⟩ := ixE str hm1
     obtain ⟨v11, e13, hm1⟩ := ixE str hm1
     rcases iteE hm1 with ⟨e15, hm1⟩ | ⟨e15, hm1⟩
     · obtain rfl := Option.some.inj hm1
       simp only [kk0, e2, e7, e10, e13, e15, Y_slices_Equal_string_string, ↓EVd, isCall, sevalprocAttr]
       refine TI.here (hI0 _ rfl _ ⟨?_, ?_, ?_, ?_⟩)
       all_goals try simp only [kk0, e2, e7, e10, e13, e15, Y_slices_Equal_string_string, ↓EVd, isCall, sevalprocAttr]
       all_goals first | omega | exact lq (by omega) | exact nq (by omega) | rfl | (congr 1; omega)
     obtain rfl := Option.some.inj hm1
     obtain rfl := hO0 _ rfl
     try dsimp only at hm0
     obtain rfl := Option.some.inj hm0
     simp only [kk0, e2, e7, e10, e13, e15, Y_slices_Equal_string_string, ↓EVd, isCall, sevalprocAttr]
     all_goals first | done | rfl
   obtain rfl := Option.some.inj hm1
   simp only [kk0, e2, e7, Y_slices_Equal_string_string, ↓EVd, isCall, sevalprocAttr]
   refine TI.here (hJ0_0 _ (hO0 _ rfl))
 obtain rfl := Option.some.inj hm0
 simp only [e2, Y_slices_Equal_string_string, ↓EVd, isCall, sevalprocAttr]
 all_goals first | done | rfl
end Go.Proofs.Ytnmljicimdhpmaa.AL

