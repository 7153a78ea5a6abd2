/- A law of the given program is proved: part 40 of 49. -/
import Derived.Test.YtnmljicimdhpmaaE39
set_option linter.all false
/- Models of functions, and that the functions are as their models: written by gen.py. -/
set_option linter.all false
set_option maxRecDepth 100000
namespace Go.Proofs.Ytnmljicimdhpmaa.AL
open Go Go.Proofs
def m_ref13_Path_b0 (a0 : List Way) : (Int × List ByteArray) → Option (St (Int × List ByteArray) (List ByteArray))
 | (v2, v4) => if 0 ≤ v2 then if v2 < (a0.length : Int) then (ix a0 v2).bind fun v12 => if 0 ≤ v12.up then if v12.up < v2 then (ap 16 ([v12.name] : List ByteArray) v4).bind fun _ => some (.nx (v12.up, (([v12.name] : List ByteArray) ++ v4)))
 else some (.out v4)
 else some (.out v4)
 else some (.out v4)
 else some (.out v4)
def m_ref13_Path (a0 : List Way) (a1 : Int) : Option (List ByteArray) := (iter (m_ref13_Path_b0 a0) big (a1, ([] : List ByteArray))).bind fun o => (match o with
 | v7 => some v7)
def Y_ref13_Path := And.intro (And.intro ((@EV)) (And.intro ((@R3)) ((@R9)))) (And.intro (And.intro ((@R49)) ((@R52))) (And.intro ((@R60)) ((@DWay))))
set_option maxHeartbeats 2000000 in
theorem ok_ref13_Path (a0 : List Way) (a1 : Int) (r : List ByteArray) (hm0 : m_ref13_Path a0 a1 = some r) : Ok Try.prog 37 [.sl 3 (a0.map encWay), int a1] (.sl 1 (r.map str)) := by
 unfold m_ref13_Path at hm0
 refine okG fc_ref13_Path ?_
 unfold c_ref13_Path
 obtain ⟨o0, ho0, hm0⟩ := bsE hm0
 simp only [Y_ref13_Path, ↓EVd, isCall, sevalprocAttr]
 refine cwp_cx 0 (fun s => ∃ v7 : List ByteArray, ∃ l6 : Nat, (s.T 5 = .msl l6 v7.length ∧ s.H l6 = some (.row 9 1 (v7.map str)) ∧ Lq l6 s.nx) ∧ v7 = o0) ?_ fun J0_0 hJ0_0 => ?_
 · rintro T0 H0 x5 ⟨v7, l6, kk0_0, rfl⟩
   dsimp only [Lq, Nq] at kk0_0
   try dsimp only at hm0
   obtain rfl := Option.some.inj hm0
   simp only [kk0_0, Y_ref13_Path, ↓EVd, isCall, sevalprocAttr]
   all_goals first | done | rfl | exact frzR_e (by simp only [kk0_0, FZ, CLO, Y_ref13_Path, ↓EVd, isCall, sevalprocAttr])
 refine cwp_lp ho0 (fun (v2, v4) s => ∃ l3 : Nat, s.T 0 = .sl 3 (a0.map encWay) ∧ s.T 1 = int v2 ∧ s.T 5 = .msl l3 v4.length ∧ s.H l3 = some (.row 9 1 (v4.map str)) ∧ Lq l3 s.nx) ?_ ?_
 · refine TI.here ⟨1, ?_, ?_, ?_, ?_, ?_⟩
   all_goals try simp only [Y_ref13_Path, ↓EVd, isCall, sevalprocAttr]
   all_goals first | omega | exact lq (by omega) | exact nq (by omega) | rfl | (congr 1; omega)
 rintro I0 ⟨v2, v4⟩ T0 H0 x1 st0 ⟨l3, kk0⟩ hm1 hI0 hO0
 dsimp only [Lq, Nq] at kk0
 simp only [m_ref13_Path_b0] at hm1
 rcases iteE hm1 with ⟨e9, hm1⟩ | ⟨e9, hm1⟩
 · rcases iteE hm1 with ⟨e11, hm1⟩ | ⟨e11, hm1⟩
   · obtain ⟨v12, e14, hm1⟩ := ixE encWay hm1
     rcases iteE hm1 with ⟨e16, hm1⟩ | ⟨e16, hm1⟩
     · rcases iteE hm1 with ⟨e18, hm1⟩ | ⟨e18, hm1⟩
       · obtain ⟨e21, hm1⟩ := apE hm1
         try simp only [ZL] at e21
         obtain rfl := Option.some.inj hm1
         simp only [kk0, e9, e11, e14, e16, e18, e21, Y_ref13_Path, ↓EVd, isCall, sevalprocAttr]
         refine TI.here (hI0 _ rfl _ ⟨(x1 + 32), ?_, ?_, ?_, ?_, ?_⟩)
         all_goals try simp only [kk0, e9, e11, e14, e16, e18, e21, Y_ref13_Path, ↓EVd, isCall, sevalprocAttr]
         all_goals first | omega | exact lq (by omega) | exact nq (by omega) | rfl | (congr 1; omega)
       obtain rfl := Option.some.inj hm1
       simp only [kk0, e9, e11, e14, e16, e18, Y_ref13_Path, ↓EVd, isCall, sevalprocAttr]
       refine TI.here (hJ0_0 _ ⟨v4, l3, ⟨?_, ?_, ?_⟩, hO0 _ rfl⟩)
       all_goals try simp only [kk0, e9, e11, e14, e16, e18, Y_ref13_Path, ↓EVd, isCall, sevalprocAttr]
       all_goals first | omega | exact lq (by omega) | exact nq (by omega) | rfl | (congr 1; omega)
     obtain rfl := Option.some.inj hm1
     simp only [kk0, e9, e11, e14, e16, Y_ref13_Path, ↓EVd, isCall, sevalprocAttr]
     refine TI.here (hJ0_0 _ ⟨v4, l3, ⟨?_, ?_, ?_⟩, hO0 _ rfl⟩)
     all_goals try simp only [kk0, e9, e11, e14, e16, Y_ref13_Path, ↓EVd, isCall, sevalprocAttr]
     all_goals first | omega | exact lq (by omega) | exact nq (by omega) | rfl | (congr 1; omega)
   obtain rfl := Option.some.inj hm1
   simp only [kk0, e9, e11, Y_ref13_Path, ↓EVd, isCall, sevalprocAttr]
   refine TI.here (hJ0_0 _ ⟨v4, l3, ⟨?_, ?_, ?_⟩, hO0 _ rfl⟩)
   all_goals try simp only [kk0, e9, e11, Y_ref13_Path, ↓EVd, isCall, sevalprocAttr]
   all_goals first | omega | exact lq (by omega) | exact nq (by omega) | rfl | (congr 1; omega)
 obtain rfl := Option.some.inj hm1
 simp only [kk0, e9, Y_ref13_Path, ↓EVd, isCall, sevalprocAttr]
 refine TI.here (hJ0_0 _ ⟨v4, l3, ⟨?_, ?_, ?_⟩, hO0 _ rfl⟩)
 all_goals try simp only [kk0, e9, Y_ref13_Path, ↓EVd, isCall, sevalprocAttr]
 all_goals first | omega | exact lq (by omega) | exact nq (by omega) | rfl | (congr 1; omega)
end Go.Proofs.Ytnmljicimdhpmaa.AL

