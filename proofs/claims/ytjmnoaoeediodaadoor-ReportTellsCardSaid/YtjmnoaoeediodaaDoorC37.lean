/- A law of the given program is proved: part 37 of 47. -/
import Derived.Lib.ItoaLen
import Derived.Test.YtjmnoaoeediodaaDoorC36
set_option linter.all false
/- Models of functions, and that the functions are as their models: written by gen.py. -/
set_option linter.all false
set_option maxRecDepth 100000
namespace Go.Proofs.YtjmnoaoeediodaaDoor.AL
open Go Go.Proofs
def xpc (a0 : Int) : Option (ByteArray) := (xgc (ByteArray.mk #[112, 111, 105, 110, 116, 101, 114, 32, 97, 116, 116, 114, 105, 98, 117, 116, 101, 32, 115, 112, 101, 99, 105, 97, 108, 32, 105, 110, 111, 100, 101, 32, 101, 110, 116, 114, 121, 32, 116, 119, 105, 99, 101, 32, 111, 114, 112, 104, 97, 110, 32, 111, 112, 97, 113, 117, 101, 32, 102, 111, 114, 109, 32, 108, 111, 111, 112, 32, 103, 111, 110, 101, 32, 115, 97, 109, 101, 32, 111, 114, 105, 103, 105, 110, 32, 109, 101, 116, 97, 32, 119, 104, 105, 116, 101, 32, 105, 110, 100, 101, 120, 32, 119, 111, 114, 107, 32, 105, 109, 112, 117, 114, 101, 32, 108, 105, 110, 107, 115, 32, 115, 104, 111, 119, 110, 32, 98, 105, 116, 109, 97, 112, 32, 108, 111, 119, 101, 114, 32, 112, 101, 110, 100, 105, 110, 103])).bind fun v1 => if a0 < 1 then some xzc
 else if (v1.length : Int) < a0 then some xzc
 else (ix v1 (wr (a0 - 1))).bind fun v7 => some v7
def xaf := aI (aI (@EV) (@R3)) (aI (@R9) (@R53))
set_option maxHeartbeats 2000000 in
theorem x0e (a0 : Int) (r : ByteArray) (hm0 : xpc a0 = some r) : Ok Tryd.prog 11 [int a0] (str r) := by
 unfold xpc at hm0
 refine okG xho ?_
 unfold xej
 obtain ⟨v1, h2, hm0⟩ := bsE hm0
 simp only [xaf, ↓EVd, isCall, sevalprocAttr]
 refine qc (x4h _ _ h2) rfl ?_
 rcases iteE hm0 with ⟨e4, hm0⟩ | ⟨e4, hm0⟩
 · obtain rfl := Option.some.inj hm0
   simp only [e4, xaf, ↓EVd, isCall, sevalprocAttr]
   all_goals first | done | rfl
 rcases iteE hm0 with ⟨e6, hm0⟩ | ⟨e6, hm0⟩
 · obtain rfl := Option.some.inj hm0
   simp only [e4, e6, xaf, ↓EVd, isCall, sevalprocAttr]
   all_goals first | done | rfl
 obtain ⟨v7, e9, hm0⟩ := ixE str hm0
 obtain rfl := Option.some.inj hm0
 simp only [e4, e6, e9, xaf, ↓EVd, isCall, sevalprocAttr]
 all_goals first | done | rfl
def xwb (a0 : Finding) : Option (ByteArray) := (xpc a0.clause).bind fun v1 => if v1 = xzc then (ck ((ByteArray.mk #[63]).size + (ByteArray.mk #[32]).size ≤ 9223372036854775807)).bind fun _ => (xhb a0.layer).bind fun v7 => (ck (((ByteArray.mk #[63]) ++ (ByteArray.mk #[32])).size + v7.size ≤ 9223372036854775807)).bind fun _ => (ck ((((ByteArray.mk #[63]) ++ (ByteArray.mk #[32])) ++ v7).size + (ByteArray.mk #[58]).size ≤ 9223372036854775807)).bind fun _ => (xhb a0.ino).bind fun v13 => (ck (((((ByteArray.mk #[63]) ++ (ByteArray.mk #[32])) ++ v7) ++ (ByteArray.mk #[58])).size + v13.size ≤ 9223372036854775807)).bind fun _ => (ck ((((((ByteArray.mk #[63]) ++ (ByteArray.mk #[32])) ++ v7) ++ (ByteArray.mk #[58])) ++ v13).size + (ByteArray.mk #[58]).size ≤ 9223372036854775807)).bind fun _ => (xhb a0.slot).bind fun v19 => (ck (((((((ByteArray.mk #[63]) ++ (ByteArray.mk #[32])) ++ v7) ++ (ByteArray.mk #[58])) ++ v13) ++ (ByteArray.mk #[58])).size + v19.size ≤ 9223372036854775807)).bind fun _ => some (((((((ByteArray.mk #[63]) ++ (ByteArray.mk #[32])) ++ v7) ++ (ByteArray.mk #[58])) ++ v13) ++ (ByteArray.mk #[58])) ++ v19)
 else (ck (v1.size + (ByteArray.mk #[32]).size ≤ 9223372036854775807)).bind fun _ => (xhb a0.layer).bind fun v25 => (ck ((v1 ++ (ByteArray.mk #[32])).size + v25.size ≤ 9223372036854775807)).bind fun _ => (ck (((v1 ++ (ByteArray.mk #[32])) ++ v25).size + (ByteArray.mk #[58]).size ≤ 9223372036854775807)).bind fun _ => (xhb a0.ino).bind fun v31 => (ck ((((v1 ++ (ByteArray.mk #[32])) ++ v25) ++ (ByteArray.mk #[58])).size + v31.size ≤ 9223372036854775807)).bind fun _ => (ck (((((v1 ++ (ByteArray.mk #[32])) ++ v25) ++ (ByteArray.mk #[58])) ++ v31).size + (ByteArray.mk #[58]).size ≤ 9223372036854775807)).bind fun _ => (xhb a0.slot).bind fun v37 => (ck ((((((v1 ++ (ByteArray.mk #[32])) ++ v25) ++ (ByteArray.mk #[58])) ++ v31) ++ (ByteArray.mk #[58])).size + v37.size ≤ 9223372036854775807)).bind fun _ => some ((((((v1 ++ (ByteArray.mk #[32])) ++ v25) ++ (ByteArray.mk #[58])) ++ v31) ++ (ByteArray.mk #[58])) ++ v37)
def x3b := aI (aI (@EV) (aI (@R3) (@R9))) (aI (@R23) (aI (@DFinding) (@mixed)))
set_option maxHeartbeats 2000000 in
theorem xlc (a0 : Finding) (r : ByteArray) (hm0 : xwb a0 = some r) : Ok Tryd.prog 13 [xd a0] (str r) := by
 unfold xwb at hm0
 refine okG xin ?_
 unfold xwi
 obtain ⟨v1, h2, hm0⟩ := bsE hm0
 simp only [x3b, ↓EVd, isCall, sevalprocAttr]
 refine qc (x0e _ _ h2) rfl ?_
 rcases iteE hm0 with ⟨e4, hm0⟩ | ⟨e4, hm0⟩
 · obtain ⟨e6, hm0⟩ := ckE hm0
   obtain ⟨v7, h8, hm0⟩ := bsE hm0
   simp only [e4, e6, x3b, ↓EVd, isCall, sevalprocAttr]
   refine qd (xvb _ _ h8) rfl ?_
   obtain ⟨e10, hm0⟩ := ckE hm0
   obtain ⟨e12, hm0⟩ := ckE hm0
   obtain ⟨v13, h14, hm0⟩ := bsE hm0
   simp only [e4, e6, e10, e12, x3b, ↓EVd, isCall, sevalprocAttr]
   refine qd (xvb _ _ h14) rfl ?_
   obtain ⟨e16, hm0⟩ := ckE hm0
   obtain ⟨e18, hm0⟩ := ckE hm0
   obtain ⟨v19, h20, hm0⟩ := bsE hm0
   simp only [e4, e6, e10, e12, e16, e18, x3b, ↓EVd, isCall, sevalprocAttr]
   refine qd (xvb _ _ h20) rfl ?_
   obtain ⟨e22, hm0⟩ := ckE hm0
   obtain rfl := Option.some.inj hm0
   simp only [e4, e6, e10, e12, e16, e18, e22, x3b, ↓EVd, isCall, sevalprocAttr]
   all_goals first | done | rfl
 obtain ⟨e24, hm0⟩ := ckE hm0
 obtain ⟨v25, h26, hm0⟩ := bsE hm0
 simp only [e4, e24, x3b, ↓EVd, isCall, sevalprocAttr]
 refine qd (xvb _ _ h26) rfl ?_
 obtain ⟨e28, hm0⟩ := ckE hm0
 obtain ⟨e30, hm0⟩ := ckE hm0
 obtain ⟨v31, h32, hm0⟩ := bsE hm0
 simp only [e4, e24, e28, e30, x3b, ↓EVd, isCall, sevalprocAttr]
 refine qd (xvb _ _ h32) rfl ?_
 obtain ⟨e34, hm0⟩ := ckE hm0
 obtain ⟨e36, hm0⟩ := ckE hm0
 obtain ⟨v37, h38, hm0⟩ := bsE hm0
 simp only [e4, e24, e28, e30, e34, e36, x3b, ↓EVd, isCall, sevalprocAttr]
 refine qd (xvb _ _ h38) rfl ?_
 obtain ⟨e40, hm0⟩ := ckE hm0
 obtain rfl := Option.some.inj hm0
 simp only [e4, e24, e28, e30, e34, e36, e40, x3b, ↓EVd, isCall, sevalprocAttr]
 all_goals first | done | rfl
def xed (v1 : ByteArray × ByteArray × Bool) (v3 : List ByteArray) : (Int × Finding) → Option (St (Int × Finding) (Finding))
 | (v6, v7) => if v6 < (v3.length : Int) then (ix v3 v6).bind fun v12 => if v12 = v1.1 then some (.nx ((wr (v6 + 1)), ({ v7 with clause := (wr (v6 + 1)) } : Finding)))
 else some (.nx ((wr (v6 + 1)), v7))
 else some (.out v7)
def xnb (v17 : List ByteArray) : (Int × Finding) → Option (St (Int × Finding) ((Finding) ⊕ (Finding × Bool)))
 | (v25, v26) => if v25 < (v17.length : Int) then (ix v17 v25).bind fun v31 => (xqe v31).bind fun v34 => if v34.2 = true then some (.out (.inr ((⟨0, 0, 0, 0⟩ : Finding), false)))
 else if v25 = 0 then some (.nx ((wr (v25 + 1)), ({ v26 with layer := v34.1 } : Finding)))
 else if v25 = 1 then some (.nx ((wr (v25 + 1)), ({ v26 with ino := v34.1 } : Finding)))
 else (ck (v25 = 2)).bind fun _ => some (.nx ((wr (v25 + 1)), ({ v26 with slot := v34.1 } : Finding)))
 else some (.out (.inl v26))
def xxc (a0 : ByteArray) : Option (Finding × Bool) := (x5b a0 (ByteArray.mk #[32])).bind fun v1 => (xgc (ByteArray.mk #[112, 111, 105, 110, 116, 101, 114, 32, 97, 116, 116, 114, 105, 98, 117, 116, 101, 32, 115, 112, 101, 99, 105, 97, 108, 32, 105, 110, 111, 100, 101, 32, 101, 110, 116, 114, 121, 32, 116, 119, 105, 99, 101, 32, 111, 114, 112, 104, 97, 110, 32, 111, 112, 97, 113, 117, 101, 32, 102, 111, 114, 109, 32, 108, 111, 111, 112, 32, 103, 111, 110, 101, 32, 115, 97, 109, 101, 32, 111, 114, 105, 103, 105, 110, 32, 109, 101, 116, 97, 32, 119, 104, 105, 116, 101, 32, 105, 110, 100, 101, 120, 32, 119, 111, 114, 107, 32, 105, 109, 112, 117, 114, 101, 32, 108, 105, 110, 107, 115, 32, 115, 104, 111, 119, 110, 32, 98, 105, 116, 109, 97, 112, 32, 108, 111, 119, 101, 114, 32, 112, 101, 110, 100, 105, 110, 103])).bind fun v3 => (iter (xed v1 v3) big (0, (⟨0, 0, 0, 0⟩ : Finding))).bind fun o => (match o with
 | v9 => (xbe v1.2.1 (ByteArray.mk #[58])).bind fun v17 => if v9.clause = 0 then some ((⟨0, 0, 0, 0⟩ : Finding), false)
 else if (v17.length : Int) = 3 then (iter (xnb v17) big (0, v9)).bind fun o => (match o with
 | (.inl v28) => (xwb v28).bind fun v57 => if v57 = a0 then some (v28, true)
 else some ((⟨0, 0, 0, 0⟩ : Finding), false)
 | (.inr r) => some r)
 else some ((⟨0, 0, 0, 0⟩ : Finding), false))
def xm := aI (aI (aI (@EV) (@R3)) (aI (@R9) (@R23))) (aI (aI (@R53) (@R55)) (aI (@R56) (aI (@DFinding) (@DErr))))
set_option maxHeartbeats 2000000 in
theorem xse (a0 : ByteArray) (r : Finding × Bool) (hm0 : xxc a0 = some r) : Ok Tryd.prog 9 [str a0] (.tup [xd r.1, bool r.2]) := by
 unfold xxc at hm0
 refine okG x7p ?_
 unfold x5k
 obtain ⟨v1, h2, hm0⟩ := bsE hm0
 simp only [xm, ↓EVd, isCall, sevalprocAttr]
 refine qc (xfh _ _ _ h2) rfl ?_
 obtain ⟨v3, h4, hm0⟩ := bsE hm0
 simp only [xm, ↓EVd, isCall, sevalprocAttr]
 refine qc (x4h _ _ h4) rfl ?_
 obtain ⟨o0, ho0, hm0⟩ := bsE hm0
 simp only [xm, ↓EVd, isCall, sevalprocAttr]
 refine cwp_cx 0 (fun s => ∃ v9 : Finding, (s.T 0 = str a0 ∧ s.T 2 = .loc 0 4 0 0 ∧ s.T 5 = str v1.2.1 ∧ s.T 7 = .loc 11 4 0 0 ∧ s.H 0 = some (.row 23 4 [.agg [int 0, int 0, int 0, int 0]]) ∧ s.H 11 = some (.row 23 4 [xd v9]) ∧ Lq 0 s.nx ∧ Lq 11 s.nx) ∧ v9 = o0) ?_ fun J0_0 hJ0_0 => ?_
 · rintro T0 H0 x8 ⟨v9, kk0_0, rfl⟩
   dsimp only [Lq, Nq] at kk0_0
   try dsimp only at hm0
   obtain ⟨v17, h18, hm0⟩ := bsE hm0
   simp only [kk0_0, xm, ↓EVd, isCall, sevalprocAttr]
   refine qc (x3n _ _ _ h18) rfl ?_
   rcases iteE hm0 with ⟨e20, hm0⟩ | ⟨e20, hm0⟩
   · have e21 : (.agg [int 0, int 0, int 0, int 0] : AV) = xd (⟨0, 0, 0, 0⟩ : Finding) := _root_.id rfl
     obtain rfl := Option.some.inj hm0
     simp only [kk0_0, e20, e21, xm, ↓EVd, isCall, sevalprocAttr]
     all_goals first | done | rfl | exact xg (by simp only [CLO]) | exact xj (by simp only [CLO]) (Sub.tup (Subs.cons (Sub.refl _) (Subs.cons (Sub.refl _) (Subs.nil))))
   rcases iteE hm0 with ⟨e23, hm0⟩ | ⟨e23, hm0⟩
   · obtain ⟨o1, ho1, hm0⟩ := bsE hm0
     simp only [kk0_0, e20, e23, xm, ↓EVd, isCall, sevalprocAttr]
     refine cwp_cx 2 (fun s => ∃ v28 : Finding, (s.T 0 = str a0 ∧ s.T 2 = .loc 0 4 0 0 ∧ s.T 7 = .loc 11 4 0 0 ∧ s.H 0 = some (.row 23 4 [.agg [int 0, int 0, int 0, int 0]]) ∧ s.H 11 = some (.row 23 4 [xd v28]) ∧ Lq 0 s.nx ∧ Lq 11 s.nx) ∧ (.inl v28) = o1) ?_ fun J1_0 hJ1_0 => ?_
     · rintro T1 H1 x27 ⟨v28, kk1_0, rfl⟩
       dsimp only [Lq, Nq] at kk1_0
       try dsimp only at hm0
       obtain ⟨v57, h58, hm0⟩ := bsE hm0
       simp only [kk1_0, e20, e23, xm, ↓EVd, isCall, sevalprocAttr]
       refine qc (xlc _ _ h58) rfl ?_
       rcases iteE hm0 with ⟨e60, hm0⟩ | ⟨e60, hm0⟩
       · obtain rfl := Option.some.inj hm0
         simp only [kk1_0, e20, e23, e60, xm, ↓EVd, isCall, sevalprocAttr]
         all_goals first | done | rfl | exact xg (by simp only [CLO]) | exact xj (by simp only [CLO]) (Sub.tup (Subs.cons (Sub.refl _) (Subs.cons (Sub.refl _) (Subs.nil))))
       have e61 : (.agg [int 0, int 0, int 0, int 0] : AV) = xd (⟨0, 0, 0, 0⟩ : Finding) := _root_.id rfl
       obtain rfl := Option.some.inj hm0
       simp only [kk1_0, e20, e23, e60, e61, xm, ↓EVd, isCall, sevalprocAttr]
       all_goals first | done | rfl | exact xg (by simp only [CLO]) | exact xj (by simp only [CLO]) (Sub.tup (Subs.cons (Sub.refl _) (Subs.cons (Sub.refl _) (Subs.nil))))
     refine cwp_lp ho1 (fun (v25, v26) s => s.T 0 = str a0 ∧ s.T 2 = .loc 0 4 0 0 ∧ s.T 7 = .loc 11 4 0 0 ∧ s.T 10 = .loc (x8 + 4) 3 0 0 ∧ s.T 51 = .sl 1 (v17.map str) ∧ s.T 52 = int (v17.length : Int) ∧ s.T 53 = int v25 ∧ s.H 0 = some (.row 23 4 [.agg [int 0, int 0, int 0, int 0]]) ∧ s.H 11 = some (.row 23 4 [xd v26]) ∧ s.H (x8 + 4) = some (.row 56 3 [.agg [.loc 11 4 0 1, .loc 11 4 0 2, .loc 11 4 0 3]]) ∧ Lq 0 s.nx ∧ Lq 11 s.nx ∧ Lq (x8 + 4) s.nx ∧ Nq 0 (x8 + 4) ∧ Nq 11 (x8 + 4)) ?_ ?_
     · refine TI.here ⟨?_, ?_, ?_, ?_, ?_, ?_, ?_, ?_, ?_, ?_, ?_, ?_, ?_, ?_, ?_⟩
       all_goals try simp only [kk0_0, e20, e23, xm, ↓EVd, isCall, sevalprocAttr]
       all_goals first | omega | exact lq (by omega) | exact nq (by omega) | rfl | (congr 1; omega)
     rintro I1 ⟨v25, v26⟩ T1 H1 x24 st1 kk1 hm1 hI1 hO1
     dsimp only [Lq, Nq] at kk1
     simp only [xnb] at hm1
     rcases iteE hm1 with ⟨e30, hm1⟩ | ⟨e30, hm1⟩
     · obtain ⟨v31, e33, hm1⟩ := ixE str hm1
       obtain ⟨v34, h35, hm1⟩ := bsE hm1
       simp only [kk1, e20, e23, e30, e33, xm, ↓EVd, isCall, sevalprocAttr]
       refine qc (xxo _ _ h35) rfl ?_
       rcases itbE hm1 with ⟨e37, hm1⟩ | ⟨e37, hm1⟩
       · have e38 : (.agg [int 0, int 0, int 0, int 0] : AV) = xd (⟨0, 0, 0, 0⟩ : Finding) := _root_.id rfl
         obtain rfl := Option.some.inj hm1
         obtain rfl := hO1 _ rfl
         try dsimp only at hm0
         obtain rfl := Option.some.inj hm0
         simp only [kk1, e20, e23, e30, e33, e37, e38, xm, ↓EVd, isCall, sevalprocAttr]
         all_goals first | done | rfl | exact xg (by simp only [CLO]) | exact xj (by simp only [CLO]) (Sub.tup (Subs.cons (Sub.refl _) (Subs.cons (Sub.refl _) (Subs.nil))))
       rcases iteE hm1 with ⟨e40, hm1⟩ | ⟨e40, hm1⟩
       · have e41 : (0 ≤ v25) = True := eq_true (by first | (have h := of_eq_true e40; omega) | (have h := e40; omega))
         have e42 : (v25 < ((3 : Nat) : Int)) = True := eq_true (by first | (have h := of_eq_true e40; omega) | (have h := e40; omega))
         have e43 : (v25 < (3 : Int)) = True := eq_true (by first | (have h := of_eq_true e40; omega) | (have h := e40; omega))
         have e44 : (v25).toNat = 0 := (by first | (have h := of_eq_true e40; omega) | (have h := e40; omega))
         obtain rfl := Option.some.inj hm1
         simp only [kk1, e20, e23, e30, e33, e37, e40, e41, e42, e43, e44, xm, ↓EVd, isCall, sevalprocAttr]
         refine TI.here (hI1 _ rfl _ ⟨?_, ?_, ?_, ?_, ?_, ?_, ?_, ?_, ?_, ?_, ?_, ?_, ?_, ?_, ?_⟩)
         all_goals try simp only [kk1, e20, e23, e30, e33, e37, e40, e41, e42, e43, e44, xm, ↓EVd, isCall, sevalprocAttr]
         all_goals first | omega | exact lq (by omega) | exact nq (by omega) | rfl | (congr 1; omega)
       rcases iteE hm1 with ⟨e46, hm1⟩ | ⟨e46, hm1⟩
       · have e47 : (0 ≤ v25) = True := eq_true (by first | (have h := of_eq_true e46; omega) | (have h := e46; omega))
         have e48 : (v25 < ((3 : Nat) : Int)) = True := eq_true (by first | (have h := of_eq_true e46; omega) | (have h := e46; omega))
         have e49 : (v25 < (3 : Int)) = True := eq_true (by first | (have h := of_eq_true e46; omega) | (have h := e46; omega))
         have e50 : (v25).toNat = 1 := (by first | (have h := of_eq_true e46; omega) | (have h := e46; omega))
         obtain rfl := Option.some.inj hm1
         simp only [kk1, e20, e23, e30, e33, e37, e40, e46, e47, e48, e49, e50, xm, ↓EVd, isCall, sevalprocAttr]
         refine TI.here (hI1 _ rfl _ ⟨?_, ?_, ?_, ?_, ?_, ?_, ?_, ?_, ?_, ?_, ?_, ?_, ?_, ?_, ?_⟩)
         all_goals try simp only [kk1, e20, e23, e30, e33, e37, e40, e46, e47, e48, e49, e50, xm, ↓EVd, isCall, sevalprocAttr]
         all_goals first | omega | exact lq (by omega) | exact nq (by omega) | rfl | (congr 1; omega)
       obtain ⟨e52, hm1⟩ := ckE hm1
       have e53 : (0 ≤ v25) = True := eq_true (by first | (have h := of_eq_true e52; omega) | (have h := e52; omega))
       have e54 : (v25 < ((3 : Nat) : Int)) = True := eq_true (by first | (have h := of_eq_true e52; omega) | (have h := e52; omega))
       have e55 : (v25 < (3 : Int)) = True := eq_true (by first | (have h := of_eq_true e52; omega) | (have h := e52; omega))
       have e56 : (v25).toNat = 2 := (by first | (have h := of_eq_true e52; omega) | (have h := e52; omega))
       obtain rfl := Option.some.inj hm1
       simp only [kk1, e20, e23, e30, e33, e37, e40, e46, e52, e53, e54, e55, e56, xm, ↓EVd, isCall, sevalprocAttr]
       refine TI.here (hI1 _ rfl _ ⟨?_, ?_, ?_, ?_, ?_, ?_, ?_, ?_, ?_, ?_, ?_, ?_, ?_, ?_, ?_⟩)
       all_goals try simp only [kk1, e20, e23, e30, e33, e37, e40, e46, e52, e53, e54, e55, e56, xm, ↓EVd, isCall, sevalprocAttr]
       all_goals first | omega | exact lq (by omega) | exact nq (by omega) | rfl | (congr 1; omega)
     obtain rfl := Option.some.inj hm1
     simp only [kk1, e20, e23, e30, xm, ↓EVd, isCall, sevalprocAttr]
     refine TI.here (hJ1_0 _ ⟨v26, ⟨?_, ?_, ?_, ?_, ?_, ?_, ?_⟩, hO1 _ rfl⟩)
     all_goals try simp only [kk1, e20, e23, e30, xm, ↓EVd, isCall, sevalprocAttr]
     all_goals first | omega | exact lq (by omega) | exact nq (by omega) | rfl | (congr 1; omega)
   have e62 : (.agg [int 0, int 0, int 0, int 0] : AV) = xd (⟨0, 0, 0, 0⟩ : Finding) := _root_.id rfl
   obtain rfl := Option.some.inj hm0
   simp only [kk0_0, e20, e23, e62, xm, ↓EVd, isCall, sevalprocAttr]
   all_goals first | done | rfl | exact xg (by simp only [CLO]) | exact xj (by simp only [CLO]) (Sub.tup (Subs.cons (Sub.refl _) (Subs.cons (Sub.refl _) (Subs.nil))))
 refine cwp_lp ho0 (fun (v6, v7) s => s.T 0 = str a0 ∧ s.T 2 = .loc 0 4 0 0 ∧ s.T 4 = str v1.1 ∧ s.T 5 = str v1.2.1 ∧ s.T 7 = .loc 11 4 0 0 ∧ s.T 22 = .sl 1 (v3.map str) ∧ s.T 23 = int (v3.length : Int) ∧ s.T 24 = int v6 ∧ s.H 0 = some (.row 23 4 [.agg [int 0, int 0, int 0, int 0]]) ∧ s.H 11 = some (.row 23 4 [xd v7]) ∧ Lq 0 s.nx ∧ Lq 11 s.nx) ?_ ?_
 · refine TI.here ⟨?_, ?_, ?_, ?_, ?_, ?_, ?_, ?_, ?_, ?_, ?_, ?_⟩
   all_goals try simp only [xm, ↓EVd, isCall, sevalprocAttr]
   all_goals first | omega | exact lq (by omega) | exact nq (by omega) | rfl | (congr 1; omega)
 rintro I0 ⟨v6, v7⟩ T0 H0 x5 st0 kk0 hm1 hI0 hO0
 dsimp only [Lq, Nq] at kk0
 simp only [xed] at hm1
 rcases iteE hm1 with ⟨e11, hm1⟩ | ⟨e11, hm1⟩
 · obtain ⟨v12, e14, hm1⟩ := ixE str hm1
   rcases iteE hm1 with ⟨e16, hm1⟩ | ⟨e16, hm1⟩
   · obtain rfl := Option.some.inj hm1
     simp only [kk0, e11, e14, e16, xm, ↓EVd, isCall, sevalprocAttr]
     refine TI.here (hI0 _ rfl _ ⟨?_, ?_, ?_, ?_, ?_, ?_, ?_, ?_, ?_, ?_, ?_, ?_⟩)
     all_goals try simp only [kk0, e11, e14, e16, xm, ↓EVd, isCall, sevalprocAttr]
     all_goals first | omega | exact lq (by omega) | exact nq (by omega) | rfl | (congr 1; omega)
   obtain rfl := Option.some.inj hm1
   simp only [kk0, e11, e14, e16, xm, ↓EVd, isCall, sevalprocAttr]
   refine TI.here (hI0 _ rfl _ ⟨?_, ?_, ?_, ?_, ?_, ?_, ?_, ?_, ?_, ?_, ?_, ?_⟩)
   all_goals try simp only [kk0, e11, e14, e16, xm, ↓EVd, isCall, sevalprocAttr]
   all_goals first | omega | exact lq (by omega) | exact nq (by omega) | rfl | (congr 1; omega)
 obtain rfl := Option.some.inj hm1
 simp only [kk0, e11, xm, ↓EVd, isCall, sevalprocAttr]
 refine TI.here (hJ0_0 _ ⟨v7, ⟨?_, ?_, ?_, ?_, ?_, ?_, ?_, ?_⟩, hO0 _ rfl⟩)
 all_goals try simp only [kk0, e11, xm, ↓EVd, isCall, sevalprocAttr]
 all_goals first | omega | exact lq (by omega) | exact nq (by omega) | rfl | (congr 1; omega)
end Go.Proofs.YtjmnoaoeediodaaDoor.AL

/- Plain laws of chapter 37: the program's side. -/
set_option linter.all false
namespace Go.Proofs.YtjmnoaoeediodaaDoor.AL
open Go Go.Proofs Go.Lib
theorem ckY {p : Prop} [Decidable p] (h : p) : ck p = some () := by unfold ck; rw [if_pos h]
theorem xdb {v : Int} (h : i64 v) : (itoa v).length ≤ 21 := itoa_length_le v h.1 h.2
theorem xhh (n : Int) : (wordQ n).length ≤ 9 := by
  by_cases h : n < 1 ∨ 23 < n
  · rw [xtm h]; decide
  · rw [xkh (by omega) (by omega)]
    exact of_fin (p := fun n => (wordL n).length ≤ 9) (by decide +kernel) (n := n) (by omega) (by omega)
theorem itoaM {v : Int} (h : i64 v) : xhb v = some (bB (itoa v)) := by
  unfold xhb
  rw [ckY h]
  rfl
def wordsB : ByteArray := bB ((wordsL.map fun w => w ++ [32]).flatten.dropLast)
theorem xvz : xgc wordsB = some (wordsL.map bB) := by kernel_rfl
theorem xky : ∀ i : Fin 23, ix (wordsL.map bB) (wr ((i.val : Int) + 1 - 1)) = some (bB (wordL ((i.val : Int) + 1))) := by decide +kernel
theorem xnh {n : Int} (h : i64 n) : xpc n = some (bB (wordL n)) := by
  unfold xpc
  have hw : xgc _ = _ := xvz
  unfold wordsB at hw
  rw [show (xgc (ByteArray.mk #[112, 111, 105, 110, 116, 101, 114, 32, 97, 116, 116, 114, 105, 98, 117, 116, 101, 32, 115, 112, 101, 99, 105, 97, 108, 32, 105, 110, 111, 100, 101, 32, 101, 110, 116, 114, 121, 32, 116, 119, 105, 99, 101, 32, 111, 114, 112, 104, 97, 110, 32, 111, 112, 97, 113, 117, 101, 32, 102, 111, 114, 109, 32, 108, 111, 111, 112, 32, 103, 111, 110, 101, 32, 115, 97, 109, 101, 32, 111, 114, 105, 103, 105, 110, 32, 109, 101, 116, 97, 32, 119, 104, 105, 116, 101, 32, 105, 110, 100, 101, 120, 32, 119, 111, 114, 107, 32, 105, 109, 112, 117, 114, 101, 32, 108, 105, 110, 107, 115, 32, 115, 104, 111, 119, 110, 32, 98, 105, 116, 109, 97, 112, 32, 108, 111, 119, 101, 114, 32, 112, 101, 110, 100, 105, 110, 103])) = some (wordsL.map bB) by kernel_rfl]
  simp only [Option.bind_some]
  by_cases h1 : n < 1
  · rw [if_pos h1, xng (.inl h1)]; rfl
  · rw [if_neg h1]
    by_cases h2 : 23 < n
    · rw [if_pos (by simpa [wordsL] using h2), xng (.inr h2)]; rfl
    · rw [if_neg (by simpa [wordsL] using h2)]
      rw [of_fin (p := fun n => ix (wordsL.map bB) (wr (n - 1)) = some (bB (wordL n))) xky (n := n) (by omega) (by omega)]
      rfl
theorem c32 : ByteArray.mk #[32] = bB [32] := rfl
theorem c58 : ByteArray.mk #[58] = bB [58] := rfl
theorem c63 : ByteArray.mk #[63] = bB [63] := rfl
theorem c10 : ByteArray.mk #[10] = bB [10] := rfl
theorem c0 : xzc = bB [] := rfl
theorem bB_iff {a b : List UInt8} : bB a = bB b ↔ a = b := ⟨bB_inj, fun h => by rw [h]⟩
structure F64 (f : Finding) : Prop where
  clause : i64 f.clause
  layer : i64 f.layer
  ino : i64 f.ino
  slot : i64 f.slot
theorem FF.f64 {f : Finding} (h : FF f) : F64 f := ⟨⟨by have := h.c0; omega, by have := h.c1; omega⟩, h.layer, h.ino, h.slot⟩
theorem xgf {f : Finding} (h : F64 f) : xwb f = some (bB (findL f)) := by
  unfold xwb
  have l1 := xdb h.layer
  have l2 := xdb h.ino
  have l3 := xdb h.slot
  have l0 := xhh f.clause
  rw [xnh h.clause, itoaM h.layer, itoaM h.ino, itoaM h.slot]
  simp only [Option.bind_some, c0, c32, c58, c63, bB_app, xh, List.length_append, List.length_cons, List.length_nil, bB_iff]
  by_cases hw : wordL f.clause = []
  · have hq : wordQ f.clause = [63] := by unfold wordQ; rw [if_pos hw]
    rw [if_pos hw]
    repeat (rw [ckY (by omega)]; simp only [Option.bind_some])
    unfold findL placeL
    rw [hq]
    simp
  · have hq : wordQ f.clause = wordL f.clause := by unfold wordQ; rw [if_neg hw]
    rw [hq] at l0
    rw [if_neg hw]
    repeat (rw [ckY (by omega)]; simp only [Option.bind_some])
    unfold findL placeL
    rw [hq]
    simp
end Go.Proofs.YtjmnoaoeediodaaDoor.AL

/- Plain laws of chapter 37: a text that is read, by the program. -/
set_option linter.all false
namespace Go.Proofs.YtjmnoaoeediodaaDoor.AL
open Go Go.Proofs Go.Lib
theorem xhp : wordsL.length = 23 := rfl
theorem xet (v1 : ByteArray × ByteArray × Bool) (w : List UInt8) (h : v1.1 = bB w) : iter (xed v1 (wordsL.map bB)) big (0, (⟨0, 0, 0, 0⟩ : Finding)) = some ⟨numL w, 0, 0, 0⟩ := by
  have := xlf (B := xed v1 (wordsL.map bB)) (fun i (c : Int) => ((i : Int), (⟨c, 0, 0, 0⟩ : Finding))) (List.range 23) (fun (c : Int) (i : Nat) => if (wordsL[i]?).getD [] = w then ((i : Int) + 1) else c) (fun c => (⟨c, 0, 0, 0⟩ : Finding)) (fun _ _ => True) (by
    intro i c hi _
    simp only [List.length_range] at hi
    refine ⟨?_, trivial⟩
    simp only [List.getElem_range]
    simp only [xed]
    have hl : i < wordsL.length := by rw [xhp]; exact hi
    have hm : i < (wordsL.map bB).length := by simpa using hl
    rw [if_pos (by omega), ix_at hm, List.getElem_map, h]
    simp only [Option.bind_some, bB_iff]
    rw [wr_suc (by omega), List.getElem?_eq_getElem hl]
    simp only [Option.getD_some]
    have hi1 : ((i + 1 : Nat) : Int) = (i : Int) + 1 := by omega
    rw [hi1]
    generalize wordsL[i] = u
    by_cases e : u = w
    · subst e; simp
    · simp [e]) (by
    intro c _
    simp only [xed, List.length_range]
    rw [if_neg (by simp [xhp])]) (s0 := 0) trivial (fuel := big) (by rw [big_eq]; simp)
  have e0 : ((0 : Nat) : Int) = 0 := rfl
  rw [e0] at this
  rw [this.1]
  rfl
def atoiR (l : List UInt8) : Int × Bool := atoiM (atoiAll l) (atoiSat l)
theorem xbo {l : List UInt8} (h : l.length ≤ 100000) : xqe (bB l) = some (atoiR l) := by
  unfold xqe
  rw [ckY (by rw [xh]; omega)]
  rfl
theorem xkr {x y z : List UInt8} (hx : x.length ≤ 100000) (hy : y.length ≤ 100000) (hz : z.length ≤ 100000) (c : Int) : iter (xnb [bB x, bB y, bB z]) big (0, (⟨c, 0, 0, 0⟩ : Finding)) =
    some (if (atoiR x).2 = true then .inr (zeroF, false) else if (atoiR y).2 = true then .inr (zeroF, false) else if (atoiR z).2 = true then .inr (zeroF, false) else .inl ⟨c, (atoiR x).1, (atoiR y).1, (atoiR z).1⟩) := by
  obtain ⟨k, hk⟩ : ∃ k, big = k + 4 := ⟨big - 4, by rw [big_eq]⟩
  rw [hk]
  have i0 : ix [bB x, bB y, bB z] 0 = some (bB x) := rfl
  have i1 : ix [bB x, bB y, bB z] 1 = some (bB y) := rfl
  have i2 : ix [bB x, bB y, bB z] 2 = some (bB z) := rfl
  have w1 : wr (0 + 1) = 1 := by decide
  have w2 : wr (1 + 1) = 2 := by decide
  have w3 : wr (2 + 1) = 3 := by decide
  have b0 : ∀ f : Finding, xnb [bB x, bB y, bB z] (0, f) = if (atoiR x).2 = true then some (.out (.inr (zeroF, false))) else some (.nx (1, { f with layer := (atoiR x).1 })) := by
    intro f
    simp only [xnb]
    rw [if_pos (by simp), i0]
    simp only [Option.bind_some]
    rw [xbo hx]
    simp only [Option.bind_some, if_true, w1]
    rfl
  have b1 : ∀ f : Finding, xnb [bB x, bB y, bB z] (1, f) = if (atoiR y).2 = true then some (.out (.inr (zeroF, false))) else some (.nx (2, { f with ino := (atoiR y).1 })) := by
    intro f
    simp only [xnb]
    rw [if_pos (by simp), i1]
    simp only [Option.bind_some]
    rw [xbo hy]
    simp only [Option.bind_some, show ¬ ((1 : Int) = 0) by decide, if_false, if_true, w2]
    rfl
  have b2 : ∀ f : Finding, xnb [bB x, bB y, bB z] (2, f) = if (atoiR z).2 = true then some (.out (.inr (zeroF, false))) else some (.nx (3, { f with slot := (atoiR z).1 })) := by
    intro f
    simp only [xnb]
    rw [if_pos (by simp), i2]
    simp only [Option.bind_some]
    rw [xbo hz]
    simp only [Option.bind_some, show ¬ ((2 : Int) = 0) by decide, show ¬ ((2 : Int) = 1) by decide, if_false, ckY (show (2 : Int) = 2 from rfl), w3]
    rfl
  have b3 : ∀ f : Finding, xnb [bB x, bB y, bB z] (3, f) = some (.out (.inl f)) := by
    intro f
    simp only [xnb]
    rw [if_neg (by simp)]
  rw [xt, b0]
  by_cases h1 : (atoiR x).2 = true
  · rw [if_pos h1, if_pos h1]; rfl
  · rw [if_neg h1, if_neg h1]
    simp only [Option.bind_some]
    rw [xt, b1]
    by_cases h2 : (atoiR y).2 = true
    · rw [if_pos h2, if_pos h2]; rfl
    · rw [if_neg h2, if_neg h2]
      simp only [Option.bind_some]
      rw [xt, b2]
      by_cases h3 : (atoiR z).2 = true
      · rw [if_pos h3, if_pos h3]; rfl
      · rw [if_neg h3, if_neg h3]
        simp only [Option.bind_some]
        rw [xt, b3]
        rfl
theorem xao {l : List UInt8} (h : ¬ (atoiR l).2 = true) : atoiAll l = .ok (atoiR l).1 ∧ i64 (atoiR l).1 := by
  unfold atoiR at h ⊢
  rcases ha : atoiAll l with v | _ | _
  · exact ⟨rfl, atoiAll_bounds ha⟩
  · rw [ha] at h; exact absurd rfl h
  · rw [ha] at h; exact absurd rfl h
theorem xhm {l : List UInt8} (h : (atoiR l).2 = true) : ∀ v, atoiAll l ≠ .ok v := by
  intro v ha
  unfold atoiR at h
  rw [ha] at h
  cases h
theorem cut_le (s sep : List UInt8) : (cut s sep).1.length ≤ s.length ∧ (cut s sep).2.1.length ≤ s.length := by
  unfold cut
  split <;> simp <;> omega
theorem x0q (c : UInt8) : ∀ (s : List UInt8) (x : List UInt8), x ∈ splitC c s → x.length ≤ s.length
  | [], x, h => by simp [splitC] at h; simp [h]
  | b :: s, x, h => by
    have ih := x0q c s
    rw [xvn] at h
    split at h
    · rcases List.mem_cons.1 h with rfl | h
      · simp
      · have := ih x h; simp; omega
    · split at h
      · simp at h; simp [h]
      · rename_i hd t e
        rcases List.mem_cons.1 h with rfl | h
        · have := ih hd (by rw [e]; simp); simp; omega
        · have := ih x (by rw [e]; simp [h]); simp; omega
theorem xbj {s : List UInt8} (h : s.length ≤ 100000) : xxc (bB s) = some (readP s) := by
  unfold xxc
  have hc : x5b (bB s) (ByteArray.mk #[32]) = some (bB (cut s [32]).1, bB (cut s [32]).2.1, (cut s [32]).2.2) := by
    unfold x5b
    rw [ckY (by rw [xh]; omega)]
    rfl
  have hl := cut_le s [32]
  have hw : xgc (ByteArray.mk #[112, 111, 105, 110, 116, 101, 114, 32, 97, 116, 116, 114, 105, 98, 117, 116, 101, 32, 115, 112, 101, 99, 105, 97, 108, 32, 105, 110, 111, 100, 101, 32, 101, 110, 116, 114, 121, 32, 116, 119, 105, 99, 101, 32, 111, 114, 112, 104, 97, 110, 32, 111, 112, 97, 113, 117, 101, 32, 102, 111, 114, 109, 32, 108, 111, 111, 112, 32, 103, 111, 110, 101, 32, 115, 97, 109, 101, 32, 111, 114, 105, 103, 105, 110, 32, 109, 101, 116, 97, 32, 119, 104, 105, 116, 101, 32, 105, 110, 100, 101, 120, 32, 119, 111, 114, 107, 32, 105, 109, 112, 117, 114, 101, 32, 108, 105, 110, 107, 115, 32, 115, 104, 111, 119, 110, 32, 98, 105, 116, 109, 97, 112, 32, 108, 111, 119, 101, 114, 32, 112, 101, 110, 100, 105, 110, 103]) = some (wordsL.map bB) := by kernel_rfl
  have hsp : xbe (bB (cut s [32]).2.1) (ByteArray.mk #[58]) = some ((splitC 58 (cut s [32]).2.1).map bB) := by
    unfold xbe
    rw [ckY ⟨by rw [xh]; omega, by decide⟩]
    simp only [Option.bind_some]
    rw [c58, xxz]
  rw [hc]
  simp only [Option.bind_some]
  rw [hw]
  simp only [Option.bind_some]
  rw [xet _ (cut s [32]).1 rfl]
  simp only [Option.bind_some]
  rw [hsp]
  simp only [Option.bind_some]
  have hle := x0q 58 (cut s [32]).2.1
  have hpc := x6e s
  have hdef : readP s = readP s := rfl
  conv at hdef => rhs; unfold readP
  generalize hnum : numL (cut s [32]).1 = n at hdef ⊢
  by_cases hn : n = 0
  · rw [if_pos hn]
    subst hn
    refine congrArg some ?_
    show (zeroF, false) = readP s
    rw [hdef]
    split
    · split
      · rw [if_neg (fun c => c.1 rfl)]
      · rfl
    · rfl
  · rw [if_neg hn]
    match hs : splitC 58 (cut s [32]).2.1 with
    | [x, y, z] =>
      rw [hs] at hle hdef
      have hx := hle x (by simp)
      have hy := hle y (by simp)
      have hz := hle z (by simp)
      have e3 : (([x, y, z].map bB).length : Int) = 3 := rfl
      rw [if_pos e3]
      have em : [x, y, z].map bB = [bB x, bB y, bB z] := rfl
      rw [em, xkr (by omega) (by omega) (by omega)]
      simp only [Option.bind_some]
      simp only at hdef
      by_cases h1 : (atoiR x).2 = true
      · rw [if_pos h1]
        have hb := xhm h1
        refine congrArg some ?_
        show (zeroF, false) = readP s
        rw [hdef]
        split
        · exact absurd ‹_› (hb _)
        · rfl
      · rw [if_neg h1]
        obtain ⟨a1, b1⟩ := xao h1
        by_cases h2 : (atoiR y).2 = true
        · rw [if_pos h2]
          have hb := xhm h2
          refine congrArg some ?_
          show (zeroF, false) = readP s
          rw [hdef]
          split
          · exact absurd ‹_› (hb _)
          · rfl
        · rw [if_neg h2]
          obtain ⟨a2, b2⟩ := xao h2
          by_cases h3 : (atoiR z).2 = true
          · rw [if_pos h3]
            have hb := xhm h3
            refine congrArg some ?_
            show (zeroF, false) = readP s
            rw [hdef]
            split
            · exact absurd ‹_› (hb _)
            · rfl
          · rw [if_neg h3]
            obtain ⟨a3, b3⟩ := xao h3
            rw [a1, a2, a3] at hdef
            simp only at hdef
            have hwn := xui (w := (cut s [32]).1) (by rw [hnum]; exact hn)
            rw [hnum] at hwn
            simp only
            have hk : i64 n := ⟨by omega, by omega⟩
            rw [xgf ⟨hk, b1, b2, b3⟩]
            simp only [Option.bind_some, bB_iff]
            by_cases hf : findL ⟨n, (atoiR x).1, (atoiR y).1, (atoiR z).1⟩ = s
            · rw [if_pos hf]
              rw [if_pos ⟨hn, hf⟩] at hdef
              rw [hdef]
            · rw [if_neg hf]
              rw [if_neg (fun c => hf c.2)] at hdef
              rw [hdef]
              rfl
    | [] => exact absurd hs (x1w 58 _)
    | [x] =>
      rw [hs] at hdef
      rw [if_neg (by simp), hdef]; rfl
    | [x, y] =>
      rw [hs] at hdef
      rw [if_neg (by simp), hdef]; rfl
    | x :: y :: z :: t :: r =>
      rw [hs] at hdef
      rw [if_neg (by simp; omega), hdef]; rfl
end Go.Proofs.YtjmnoaoeediodaaDoor.AL

/- AL: own rows that are cut; pieces of strings; labels deeper in the code, and ways out ahead of them. -/
set_option linter.all false
namespace Go.Proofs.YtjmnoaoeediodaaDoor.AL
open Go Go.Proofs Go.RowKit
def strM (s : ByteArray) (lo hi : Option Int) : Option ByteArray :=
  if 0 ≤ lo.getD 0 ∧ lo.getD 0 ≤ hi.getD s.size ∧ hi.getD s.size ≤ s.size then some (s.extract (lo.getD 0).toNat (hi.getD s.size).toNat) else none
theorem x8w {s r : ByteArray} {lo hi : Option Int} (h : strM s lo hi = some r) : (0 ≤ lo.getD 0 ∧ lo.getD 0 ≤ hi.getD s.size ∧ hi.getD s.size ≤ s.size) ∧ r = s.extract (lo.getD 0).toNat (hi.getD s.size).toNat := by
  unfold strM at h
  split at h
  · injection h with h; exact ⟨‹_›, h.symm⟩
  · cases h
theorem x8r {P : Program} {T : Nat} (hT : kindOf P T = .str) {s r : ByteArray} {lo hi : Option Int} (h : strM s lo hi = some r) : x9d P T (str s) (lo.map int) (hi.map int) none = some (str r) := by
  obtain ⟨⟨h1, h2, h3⟩, rfl⟩ := x8w h
  have key : ∀ a c : Nat, bounds s.size (lo.map int) (hi.map int) = some (a, c) → (lo.getD 0).toNat = a → (hi.getD s.size).toNat = c → x9d P T (str s) (lo.map int) (hi.map int) none = some (str (s.extract (lo.getD 0).toNat (hi.getD s.size).toNat)) := by
    intro a c hb ha hc
    simp only [x9d, hT, hb, Option.map_some, ha, hc]
  refine key _ _ ?_ rfl rfl
  cases lo <;> cases hi <;> simp only [Option.getD_none, Option.getD_some, Option.map_none, Option.map_some] at h1 h2 h3 ⊢
  · simp [bounds, xxf]
  · rename_i a
    have e1 : 0 ≤ a ∧ a ≤ (s.size : Int) := ⟨h2, h3⟩
    simp [bounds, xxf, e1]
  · rename_i a
    have e1 : 0 ≤ a ∧ a ≤ (s.size : Int) := ⟨h1, h2⟩
    simp [bounds, xxf, e1]
  · rename_i a c
    have e1 : 0 ≤ c ∧ c ≤ (s.size : Int) := ⟨by omega, h3⟩
    have e2 : 0 ≤ a ∧ a ≤ ((c.toNat : Nat) : Int) := ⟨h1, by omega⟩
    unfold bounds xxf
    simp only
    rw [if_pos e1]
    simp only
    rw [if_pos e2]
section
variable {P : Program} {n : Nat} {Q : Exit → AS → Prop} {s : AS}
end
end Go.Proofs.YtjmnoaoeediodaaDoor.AL

