/- A law of the given program is proved: part 37 of 45. -/
import Derived.Lib.ItoaLen
import Derived.Deep.RegionHeld3
import Derived.Test.YtjmnoaoeediodaaDoorB36
set_option linter.all false
/- Models of functions, and that the functions are as their models: written by gen.py. -/
set_option linter.all false
set_option maxRecDepth 100000
namespace Go.Proofs.YtjmnoaoeediodaaDoor.AL
open Go Go.Proofs
def xvc (a0 : Int) : Option (ByteArray) := (xyb (ByteArray.mk #[112, 111, 105, 110, 116, 101, 114, 32, 97, 116, 116, 114, 105, 98, 117, 116, 101, 32, 115, 112, 101, 99, 105, 97, 108, 32, 105, 110, 111, 100, 101, 32, 101, 110, 116, 114, 121, 32, 116, 119, 105, 99, 101, 32, 111, 114, 112, 104, 97, 110, 32, 111, 112, 97, 113, 117, 101, 32, 102, 111, 114, 109, 32, 108, 111, 111, 112, 32, 103, 111, 110, 101, 32, 115, 97, 109, 101, 32, 111, 114, 105, 103, 105, 110, 32, 109, 101, 116, 97, 32, 119, 104, 105, 116, 101, 32, 105, 110, 100, 101, 120, 32, 119, 111, 114, 107, 32, 105, 109, 112, 117, 114, 101, 32, 108, 105, 110, 107, 115, 32, 115, 104, 111, 119, 110, 32, 98, 105, 116, 109, 97, 112, 32, 108, 111, 119, 101, 114, 32, 112, 101, 110, 100, 105, 110, 103])).bind fun v1 => if a0 < 1 then some x5c
 else if (v1.length : Int) < a0 then some x5c
 else (ix v1 (wr (a0 - 1))).bind fun v7 => some v7
def xde := aI (aI (@EV) (@R3)) (aI (@R9) (@R53))
set_option maxHeartbeats 2000000 in
theorem xmh (a0 : Int) (r : ByteArray) (hm0 : xvc a0 = some r) : Ok Tryd.prog 11 [int a0] (str r) := by
 unfold xvc at hm0
 refine okG x5l ?_
 unfold x1h
 obtain ⟨v1, h2, hm0⟩ := bsE hm0
 simp only [xde, ↓EVd, isCall, sevalprocAttr]
 refine qc (xvg _ _ h2) rfl ?_
 rcases iteE hm0 with ⟨e4, hm0⟩ | ⟨e4, hm0⟩
 · obtain rfl := Option.some.inj hm0
   simp only [e4, xde, ↓EVd, isCall, sevalprocAttr]
   all_goals first | done | rfl
 rcases iteE hm0 with ⟨e6, hm0⟩ | ⟨e6, hm0⟩
 · obtain rfl := Option.some.inj hm0
   simp only [e4, e6, xde, ↓EVd, isCall, sevalprocAttr]
   all_goals first | done | rfl
 obtain ⟨v7, e9, hm0⟩ := ixE str hm0
 obtain rfl := Option.some.inj hm0
 simp only [e4, e6, e9, xde, ↓EVd, isCall, sevalprocAttr]
 all_goals first | done | rfl
def x9c (a0 : Finding) : Option (ByteArray) := (xvc a0.clause).bind fun v1 => if v1 = x5c then (ck ((ByteArray.mk #[63]).size + (ByteArray.mk #[32]).size ≤ 9223372036854775807)).bind fun _ => (xz a0.layer).bind fun v7 => (ck (((ByteArray.mk #[63]) ++ (ByteArray.mk #[32])).size + v7.size ≤ 9223372036854775807)).bind fun _ => (ck ((((ByteArray.mk #[63]) ++ (ByteArray.mk #[32])) ++ v7).size + (ByteArray.mk #[58]).size ≤ 9223372036854775807)).bind fun _ => (xz a0.ino).bind fun v13 => (ck (((((ByteArray.mk #[63]) ++ (ByteArray.mk #[32])) ++ v7) ++ (ByteArray.mk #[58])).size + v13.size ≤ 9223372036854775807)).bind fun _ => (ck ((((((ByteArray.mk #[63]) ++ (ByteArray.mk #[32])) ++ v7) ++ (ByteArray.mk #[58])) ++ v13).size + (ByteArray.mk #[58]).size ≤ 9223372036854775807)).bind fun _ => (xz a0.slot).bind fun v19 => (ck (((((((ByteArray.mk #[63]) ++ (ByteArray.mk #[32])) ++ v7) ++ (ByteArray.mk #[58])) ++ v13) ++ (ByteArray.mk #[58])).size + v19.size ≤ 9223372036854775807)).bind fun _ => some (((((((ByteArray.mk #[63]) ++ (ByteArray.mk #[32])) ++ v7) ++ (ByteArray.mk #[58])) ++ v13) ++ (ByteArray.mk #[58])) ++ v19)
 else (ck (v1.size + (ByteArray.mk #[32]).size ≤ 9223372036854775807)).bind fun _ => (xz a0.layer).bind fun v25 => (ck ((v1 ++ (ByteArray.mk #[32])).size + v25.size ≤ 9223372036854775807)).bind fun _ => (ck (((v1 ++ (ByteArray.mk #[32])) ++ v25).size + (ByteArray.mk #[58]).size ≤ 9223372036854775807)).bind fun _ => (xz a0.ino).bind fun v31 => (ck ((((v1 ++ (ByteArray.mk #[32])) ++ v25) ++ (ByteArray.mk #[58])).size + v31.size ≤ 9223372036854775807)).bind fun _ => (ck (((((v1 ++ (ByteArray.mk #[32])) ++ v25) ++ (ByteArray.mk #[58])) ++ v31).size + (ByteArray.mk #[58]).size ≤ 9223372036854775807)).bind fun _ => (xz a0.slot).bind fun v37 => (ck ((((((v1 ++ (ByteArray.mk #[32])) ++ v25) ++ (ByteArray.mk #[58])) ++ v31) ++ (ByteArray.mk #[58])).size + v37.size ≤ 9223372036854775807)).bind fun _ => some ((((((v1 ++ (ByteArray.mk #[32])) ++ v25) ++ (ByteArray.mk #[58])) ++ v31) ++ (ByteArray.mk #[58])) ++ v37)
def xkb := aI (aI (@EV) (aI (@R3) (@R9))) (aI (@R23) (aI (@DFinding) (@mixed)))
set_option maxHeartbeats 2000000 in
theorem xfl (a0 : Finding) (r : ByteArray) (hm0 : x9c a0 = some r) : Ok Tryd.prog 13 [xj a0] (str r) := by
 unfold x9c at hm0
 refine okG xdl ?_
 unfold xeh
 obtain ⟨v1, h2, hm0⟩ := bsE hm0
 simp only [xkb, ↓EVd, isCall, sevalprocAttr]
 refine qc (xmh _ _ h2) rfl ?_
 rcases iteE hm0 with ⟨e4, hm0⟩ | ⟨e4, hm0⟩
 · obtain ⟨e6, hm0⟩ := ckE hm0
   obtain ⟨v7, h8, hm0⟩ := bsE hm0
   simp only [e4, e6, xkb, ↓EVd, isCall, sevalprocAttr]
   refine qd (xib _ _ h8) rfl ?_
   obtain ⟨e10, hm0⟩ := ckE hm0
   obtain ⟨e12, hm0⟩ := ckE hm0
   obtain ⟨v13, h14, hm0⟩ := bsE hm0
   simp only [e4, e6, e10, e12, xkb, ↓EVd, isCall, sevalprocAttr]
   refine qd (xib _ _ h14) rfl ?_
   obtain ⟨e16, hm0⟩ := ckE hm0
   obtain ⟨e18, hm0⟩ := ckE hm0
   obtain ⟨v19, h20, hm0⟩ := bsE hm0
   simp only [e4, e6, e10, e12, e16, e18, xkb, ↓EVd, isCall, sevalprocAttr]
   refine qd (xib _ _ h20) rfl ?_
   obtain ⟨e22, hm0⟩ := ckE hm0
   obtain rfl := Option.some.inj hm0
   simp only [e4, e6, e10, e12, e16, e18, e22, xkb, ↓EVd, isCall, sevalprocAttr]
   all_goals first | done | rfl
 obtain ⟨e24, hm0⟩ := ckE hm0
 obtain ⟨v25, h26, hm0⟩ := bsE hm0
 simp only [e4, e24, xkb, ↓EVd, isCall, sevalprocAttr]
 refine qd (xib _ _ h26) rfl ?_
 obtain ⟨e28, hm0⟩ := ckE hm0
 obtain ⟨e30, hm0⟩ := ckE hm0
 obtain ⟨v31, h32, hm0⟩ := bsE hm0
 simp only [e4, e24, e28, e30, xkb, ↓EVd, isCall, sevalprocAttr]
 refine qd (xib _ _ h32) rfl ?_
 obtain ⟨e34, hm0⟩ := ckE hm0
 obtain ⟨e36, hm0⟩ := ckE hm0
 obtain ⟨v37, h38, hm0⟩ := bsE hm0
 simp only [e4, e24, e28, e30, e34, e36, xkb, ↓EVd, isCall, sevalprocAttr]
 refine qd (xib _ _ h38) rfl ?_
 obtain ⟨e40, hm0⟩ := ckE hm0
 obtain rfl := Option.some.inj hm0
 simp only [e4, e24, e28, e30, e34, e36, e40, xkb, ↓EVd, isCall, sevalprocAttr]
 all_goals first | done | rfl
def xmc (v1 : ByteArray × ByteArray × Bool) (v3 : List ByteArray) : (Int × Finding) → Option (St (Int × Finding) (Finding))
 | (v6, v7) => if v6 < (v3.length : Int) then (ix v3 v6).bind fun v12 => if v12 = v1.1 then some (.nx ((wr (v6 + 1)), ({ v7 with clause := (wr (v6 + 1)) } : Finding)))
 else some (.nx ((wr (v6 + 1)), v7))
 else some (.out v7)
def x6 (v17 : List ByteArray) : (Int × Finding) → Option (St (Int × Finding) ((Finding) ⊕ (Finding × Bool)))
 | (v25, v26) => if v25 < (v17.length : Int) then (ix v17 v25).bind fun v31 => (xsd v31).bind fun v34 => if v34.2 = true then some (.out (.inr ((⟨0, 0, 0, 0⟩ : Finding), false)))
 else if v25 = 0 then some (.nx ((wr (v25 + 1)), ({ v26 with layer := v34.1 } : Finding)))
 else if v25 = 1 then some (.nx ((wr (v25 + 1)), ({ v26 with ino := v34.1 } : Finding)))
 else (ck (v25 = 2)).bind fun _ => some (.nx ((wr (v25 + 1)), ({ v26 with slot := v34.1 } : Finding)))
 else some (.out (.inl v26))
def x6d (a0 : ByteArray) : Option (Finding × Bool) := (xmb a0 (ByteArray.mk #[32])).bind fun v1 => (xyb (ByteArray.mk #[112, 111, 105, 110, 116, 101, 114, 32, 97, 116, 116, 114, 105, 98, 117, 116, 101, 32, 115, 112, 101, 99, 105, 97, 108, 32, 105, 110, 111, 100, 101, 32, 101, 110, 116, 114, 121, 32, 116, 119, 105, 99, 101, 32, 111, 114, 112, 104, 97, 110, 32, 111, 112, 97, 113, 117, 101, 32, 102, 111, 114, 109, 32, 108, 111, 111, 112, 32, 103, 111, 110, 101, 32, 115, 97, 109, 101, 32, 111, 114, 105, 103, 105, 110, 32, 109, 101, 116, 97, 32, 119, 104, 105, 116, 101, 32, 105, 110, 100, 101, 120, 32, 119, 111, 114, 107, 32, 105, 109, 112, 117, 114, 101, 32, 108, 105, 110, 107, 115, 32, 115, 104, 111, 119, 110, 32, 98, 105, 116, 109, 97, 112, 32, 108, 111, 119, 101, 114, 32, 112, 101, 110, 100, 105, 110, 103])).bind fun v3 => (iter (xmc v1 v3) big (0, (⟨0, 0, 0, 0⟩ : Finding))).bind fun o => (match o with
 | v9 => (xgd v1.2.1 (ByteArray.mk #[58])).bind fun v17 => if v9.clause = 0 then some ((⟨0, 0, 0, 0⟩ : Finding), false)
 else if (v17.length : Int) = 3 then (iter (x6 v17) big (0, v9)).bind fun o => (match o with
 | (.inl v28) => (x9c v28).bind fun v57 => if v57 = a0 then some (v28, true)
 else some ((⟨0, 0, 0, 0⟩ : Finding), false)
 | (.inr r) => some r)
 else some ((⟨0, 0, 0, 0⟩ : Finding), false))
def xl := aI (aI (aI (@EV) (@R3)) (aI (@R9) (@R23))) (aI (aI (@R53) (@R55)) (aI (@R56) (aI (@DFinding) (@DErr))))
set_option maxHeartbeats 2000000 in
theorem xwn (a0 : ByteArray) (r : Finding × Bool) (hm0 : x6d a0 = some r) : Ok Tryd.prog 9 [str a0] (.tup [xj r.1, bool r.2]) := by
 unfold x6d at hm0
 refine okG xkn ?_
 unfold xsj
 obtain ⟨v1, h2, hm0⟩ := bsE hm0
 simp only [xl, ↓EVd, isCall, sevalprocAttr]
 refine qc (x2f _ _ _ h2) rfl ?_
 obtain ⟨v3, h4, hm0⟩ := bsE hm0
 simp only [xl, ↓EVd, isCall, sevalprocAttr]
 refine qc (xvg _ _ h4) rfl ?_
 obtain ⟨o0, ho0, hm0⟩ := bsE hm0
 simp only [xl, ↓EVd, isCall, sevalprocAttr]
 refine cwp_cx 0 (fun s => ∃ v9 : Finding, (s.T 0 = str a0 ∧ s.T 2 = .loc 0 4 0 0 ∧ s.T 5 = str v1.2.1 ∧ s.T 7 = .loc 11 4 0 0 ∧ s.H 0 = some (.row 23 4 [.agg [int 0, int 0, int 0, int 0]]) ∧ s.H 11 = some (.row 23 4 [xj v9]) ∧ Lq 0 s.nx ∧ Lq 11 s.nx) ∧ v9 = o0) ?_ fun J0_0 hJ0_0 => ?_
 · rintro T0 H0 x8 ⟨v9, kk0_0, rfl⟩
   dsimp only [Lq, Nq] at kk0_0
   try dsimp only at hm0
   obtain ⟨v17, h18, hm0⟩ := bsE hm0
   simp only [kk0_0, xl, ↓EVd, isCall, sevalprocAttr]
   refine qc (xam _ _ _ h18) rfl ?_
   rcases iteE hm0 with ⟨e20, hm0⟩ | ⟨e20, hm0⟩
   · have e21 : (.agg [int 0, int 0, int 0, int 0] : AV) = xj (⟨0, 0, 0, 0⟩ : Finding) := _root_.id rfl
     obtain rfl := Option.some.inj hm0
     simp only [kk0_0, e20, e21, xl, ↓EVd, isCall, sevalprocAttr]
     all_goals first | done | rfl | exact xe (by simp only [CLO]) | exact xi (by simp only [CLO]) (Sub.tup (Subs.cons (Sub.refl _) (Subs.cons (Sub.refl _) (Subs.nil))))
   rcases iteE hm0 with ⟨e23, hm0⟩ | ⟨e23, hm0⟩
   · obtain ⟨o1, ho1, hm0⟩ := bsE hm0
     simp only [kk0_0, e20, e23, xl, ↓EVd, isCall, sevalprocAttr]
     refine cwp_cx 2 (fun s => ∃ v28 : Finding, (s.T 0 = str a0 ∧ s.T 2 = .loc 0 4 0 0 ∧ s.T 7 = .loc 11 4 0 0 ∧ s.H 0 = some (.row 23 4 [.agg [int 0, int 0, int 0, int 0]]) ∧ s.H 11 = some (.row 23 4 [xj v28]) ∧ Lq 0 s.nx ∧ Lq 11 s.nx) ∧ (.inl v28) = o1) ?_ fun J1_0 hJ1_0 => ?_
     · rintro T1 H1 x27 ⟨v28, kk1_0, rfl⟩
       dsimp only [Lq, Nq] at kk1_0
       try dsimp only at hm0
       obtain ⟨v57, h58, hm0⟩ := bsE hm0
       simp only [kk1_0, e20, e23, xl, ↓EVd, isCall, sevalprocAttr]
       refine qc (xfl _ _ h58) rfl ?_
       rcases iteE hm0 with ⟨e60, hm0⟩ | ⟨e60, hm0⟩
       · obtain rfl := Option.some.inj hm0
         simp only [kk1_0, e20, e23, e60, xl, ↓EVd, isCall, sevalprocAttr]
         all_goals first | done | rfl | exact xe (by simp only [CLO]) | exact xi (by simp only [CLO]) (Sub.tup (Subs.cons (Sub.refl _) (Subs.cons (Sub.refl _) (Subs.nil))))
       have e61 : (.agg [int 0, int 0, int 0, int 0] : AV) = xj (⟨0, 0, 0, 0⟩ : Finding) := _root_.id rfl
       obtain rfl := Option.some.inj hm0
       simp only [kk1_0, e20, e23, e60, e61, xl, ↓EVd, isCall, sevalprocAttr]
       all_goals first | done | rfl | exact xe (by simp only [CLO]) | exact xi (by simp only [CLO]) (Sub.tup (Subs.cons (Sub.refl _) (Subs.cons (Sub.refl _) (Subs.nil))))
     refine cwp_lp ho1 (fun (v25, v26) s => s.T 0 = str a0 ∧ s.T 2 = .loc 0 4 0 0 ∧ s.T 7 = .loc 11 4 0 0 ∧ s.T 10 = .loc (x8 + 4) 3 0 0 ∧ s.T 51 = .sl 1 (v17.map str) ∧ s.T 52 = int (v17.length : Int) ∧ s.T 53 = int v25 ∧ s.H 0 = some (.row 23 4 [.agg [int 0, int 0, int 0, int 0]]) ∧ s.H 11 = some (.row 23 4 [xj v26]) ∧ s.H (x8 + 4) = some (.row 56 3 [.agg [.loc 11 4 0 1, .loc 11 4 0 2, .loc 11 4 0 3]]) ∧ Lq 0 s.nx ∧ Lq 11 s.nx ∧ Lq (x8 + 4) s.nx ∧ Nq 0 (x8 + 4) ∧ Nq 11 (x8 + 4)) ?_ ?_
     · refine TI.here ⟨?_, ?_, ?_, ?_, ?_, ?_, ?_, ?_, ?_, ?_, ?_, ?_, ?_, ?_, ?_⟩
       all_goals try simp only [kk0_0, e20, e23, xl, ↓EVd, isCall, sevalprocAttr]
       all_goals first | omega | exact lq (by omega) | exact nq (by omega) | rfl | (congr 1; omega)
     rintro I1 ⟨v25, v26⟩ T1 H1 x24 st1 kk1 hm1 hI1 hO1
     dsimp only [Lq, Nq] at kk1
     simp only [x6] at hm1
     rcases iteE hm1 with ⟨e30, hm1⟩ | ⟨e30, hm1⟩
     · obtain ⟨v31, e33, hm1⟩ := ixE str hm1
       obtain ⟨v34, h35, hm1⟩ := bsE hm1
       simp only [kk1, e20, e23, e30, e33, xl, ↓EVd, isCall, sevalprocAttr]
       refine qc (xhm _ _ h35) rfl ?_
       rcases itbE hm1 with ⟨e37, hm1⟩ | ⟨e37, hm1⟩
       · have e38 : (.agg [int 0, int 0, int 0, int 0] : AV) = xj (⟨0, 0, 0, 0⟩ : Finding) := _root_.id rfl
         obtain rfl := Option.some.inj hm1
         obtain rfl := hO1 _ rfl
         try dsimp only at hm0
         obtain rfl := Option.some.inj hm0
         simp only [kk1, e20, e23, e30, e33, e37, e38, xl, ↓EVd, isCall, sevalprocAttr]
         all_goals first | done | rfl | exact xe (by simp only [CLO]) | exact xi (by simp only [CLO]) (Sub.tup (Subs.cons (Sub.refl _) (Subs.cons (Sub.refl _) (Subs.nil))))
       rcases iteE hm1 with ⟨e40, hm1⟩ | ⟨e40, hm1⟩
       · have e41 : (0 ≤ v25) = True := eq_true (by first | (have h := of_eq_true e40; omega) | (have h := e40; omega))
         have e42 : (v25 < ((3 : Nat) : Int)) = True := eq_true (by first | (have h := of_eq_true e40; omega) | (have h := e40; omega))
         have e43 : (v25 < (3 : Int)) = True := eq_true (by first | (have h := of_eq_true e40; omega) | (have h := e40; omega))
         have e44 : (v25).toNat = 0 := (by first | (have h := of_eq_true e40; omega) | (have h := e40; omega))
         obtain rfl := Option.some.inj hm1
         simp only [kk1, e20, e23, e30, e33, e37, e40, e41, e42, e43, e44, xl, ↓EVd, isCall, sevalprocAttr]
         refine TI.here (hI1 _ rfl _ ⟨?_, ?_, ?_, ?_, ?_, ?_, ?_, ?_, ?_, ?_, ?_, ?_, ?_, ?_, ?_⟩)
         all_goals try simp only [kk1, e20, e23, e30, e33, e37, e40, e41, e42, e43, e44, xl, ↓EVd, isCall, sevalprocAttr]
         all_goals first | omega | exact lq (by omega) | exact nq (by omega) | rfl | (congr 1; omega)
       rcases iteE hm1 with ⟨e46, hm1⟩ | ⟨e46, hm1⟩
       · have e47 : (0 ≤ v25) = True := eq_true (by first | (have h := of_eq_true e46; omega) | (have h := e46; omega))
         have e48 : (v25 < ((3 : Nat) : Int)) = True := eq_true (by first | (have h := of_eq_true e46; omega) | (have h := e46; omega))
         have e49 : (v25 < (3 : Int)) = True := eq_true (by first | (have h := of_eq_true e46; omega) | (have h := e46; omega))
         have e50 : (v25).toNat = 1 := (by first | (have h := of_eq_true e46; omega) | (have h := e46; omega))
         obtain rfl := Option.some.inj hm1
         simp only [kk1, e20, e23, e30, e33, e37, e40, e46, e47, e48, e49, e50, xl, ↓EVd, isCall, sevalprocAttr]
         refine TI.here (hI1 _ rfl _ ⟨?_, ?_, ?_, ?_, ?_, ?_, ?_, ?_, ?_, ?_, ?_, ?_, ?_, ?_, ?_⟩)
         all_goals try simp only [kk1, e20, e23, e30, e33, e37, e40, e46, e47, e48, e49, e50, xl, ↓EVd, isCall, sevalprocAttr]
         all_goals first | omega | exact lq (by omega) | exact nq (by omega) | rfl | (congr 1; omega)
       obtain ⟨e52, hm1⟩ := ckE hm1
       have e53 : (0 ≤ v25) = True := eq_true (by first | (have h := of_eq_true e52; omega) | (have h := e52; omega))
       have e54 : (v25 < ((3 : Nat) : Int)) = True := eq_true (by first | (have h := of_eq_true e52; omega) | (have h := e52; omega))
       have e55 : (v25 < (3 : Int)) = True := eq_true (by first | (have h := of_eq_true e52; omega) | (have h := e52; omega))
       have e56 : (v25).toNat = 2 := (by first | (have h := of_eq_true e52; omega) | (have h := e52; omega))
       obtain rfl := Option.some.inj hm1
       simp only [kk1, e20, e23, e30, e33, e37, e40, e46, e52, e53, e54, e55, e56, xl, ↓EVd, isCall, sevalprocAttr]
       refine TI.here (hI1 _ rfl _ ⟨?_, ?_, ?_, ?_, ?_, ?_, ?_, ?_, ?_, ?_, ?_, ?_, ?_, ?_, ?_⟩)
       all_goals try simp only [kk1, e20, e23, e30, e33, e37, e40, e46, e52, e53, e54, e55, e56, xl, ↓EVd, isCall, sevalprocAttr]
       all_goals first | omega | exact lq (by omega) | exact nq (by omega) | rfl | (congr 1; omega)
     obtain rfl := Option.some.inj hm1
     simp only [kk1, e20, e23, e30, xl, ↓EVd, isCall, sevalprocAttr]
     refine TI.here (hJ1_0 _ ⟨v26, ⟨?_, ?_, ?_, ?_, ?_, ?_, ?_⟩, hO1 _ rfl⟩)
     all_goals try simp only [kk1, e20, e23, e30, xl, ↓EVd, isCall, sevalprocAttr]
     all_goals first | omega | exact lq (by omega) | exact nq (by omega) | rfl | (congr 1; omega)
   have e62 : (.agg [int 0, int 0, int 0, int 0] : AV) = xj (⟨0, 0, 0, 0⟩ : Finding) := _root_.id rfl
   obtain rfl := Option.some.inj hm0
   simp only [kk0_0, e20, e23, e62, xl, ↓EVd, isCall, sevalprocAttr]
   all_goals first | done | rfl | exact xe (by simp only [CLO]) | exact xi (by simp only [CLO]) (Sub.tup (Subs.cons (Sub.refl _) (Subs.cons (Sub.refl _) (Subs.nil))))
 refine cwp_lp ho0 (fun (v6, v7) s => s.T 0 = str a0 ∧ s.T 2 = .loc 0 4 0 0 ∧ s.T 4 = str v1.1 ∧ s.T 5 = str v1.2.1 ∧ s.T 7 = .loc 11 4 0 0 ∧ s.T 22 = .sl 1 (v3.map str) ∧ s.T 23 = int (v3.length : Int) ∧ s.T 24 = int v6 ∧ s.H 0 = some (.row 23 4 [.agg [int 0, int 0, int 0, int 0]]) ∧ s.H 11 = some (.row 23 4 [xj v7]) ∧ Lq 0 s.nx ∧ Lq 11 s.nx) ?_ ?_
 · refine TI.here ⟨?_, ?_, ?_, ?_, ?_, ?_, ?_, ?_, ?_, ?_, ?_, ?_⟩
   all_goals try simp only [xl, ↓EVd, isCall, sevalprocAttr]
   all_goals first | omega | exact lq (by omega) | exact nq (by omega) | rfl | (congr 1; omega)
 rintro I0 ⟨v6, v7⟩ T0 H0 x5 st0 kk0 hm1 hI0 hO0
 dsimp only [Lq, Nq] at kk0
 simp only [xmc] at hm1
 rcases iteE hm1 with ⟨e11, hm1⟩ | ⟨e11, hm1⟩
 · obtain ⟨v12, e14, hm1⟩ := ixE str hm1
   rcases iteE hm1 with ⟨e16, hm1⟩ | ⟨e16, hm1⟩
   · obtain rfl := Option.some.inj hm1
     simp only [kk0, e11, e14, e16, xl, ↓EVd, isCall, sevalprocAttr]
     refine TI.here (hI0 _ rfl _ ⟨?_, ?_, ?_, ?_, ?_, ?_, ?_, ?_, ?_, ?_, ?_, ?_⟩)
     all_goals try simp only [kk0, e11, e14, e16, xl, ↓EVd, isCall, sevalprocAttr]
     all_goals first | omega | exact lq (by omega) | exact nq (by omega) | rfl | (congr 1; omega)
   obtain rfl := Option.some.inj hm1
   simp only [kk0, e11, e14, e16, xl, ↓EVd, isCall, sevalprocAttr]
   refine TI.here (hI0 _ rfl _ ⟨?_, ?_, ?_, ?_, ?_, ?_, ?_, ?_, ?_, ?_, ?_, ?_⟩)
   all_goals try simp only [kk0, e11, e14, e16, xl, ↓EVd, isCall, sevalprocAttr]
   all_goals first | omega | exact lq (by omega) | exact nq (by omega) | rfl | (congr 1; omega)
 obtain rfl := Option.some.inj hm1
 simp only [kk0, e11, xl, ↓EVd, isCall, sevalprocAttr]
 refine TI.here (hJ0_0 _ ⟨v7, ⟨?_, ?_, ?_, ?_, ?_, ?_, ?_, ?_⟩, hO0 _ rfl⟩)
 all_goals try simp only [kk0, e11, xl, ↓EVd, isCall, sevalprocAttr]
 all_goals first | omega | exact lq (by omega) | exact nq (by omega) | rfl | (congr 1; omega)
end Go.Proofs.YtjmnoaoeediodaaDoor.AL

/- Plain laws of chapter 37: the program's side. -/
set_option linter.all false
namespace Go.Proofs.YtjmnoaoeediodaaDoor.AL
open Go Go.Proofs Go.Lib
theorem ckY {p : Prop} [Decidable p] (h : p) : ck p = some () := by unfold ck; rw [if_pos h]
theorem xtd {v : Int} (h : i64 v) : (itoa v).length ≤ 21 := itoa_length_le v h.1 h.2
theorem x4i (n : Int) : (wordQ n).length ≤ 9 := by
  by_cases h : n < 1 ∨ 23 < n
  · rw [xek h]; decide
  · rw [xlh (by omega) (by omega)]
    exact of_fin (p := fun n => (wordL n).length ≤ 9) (by decide +kernel) (n := n) (by omega) (by omega)
theorem itoaM {v : Int} (h : i64 v) : xz v = some (bB (itoa v)) := by
  unfold xz
  rw [ckY h]
  rfl
def wordsB : ByteArray := bB ((wordsL.map fun w => w ++ [32]).flatten.dropLast)
theorem xox : xyb wordsB = some (wordsL.map bB) := by kernel_rfl
theorem xdw : ∀ i : Fin 23, ix (wordsL.map bB) (wr ((i.val : Int) + 1 - 1)) = some (bB (wordL ((i.val : Int) + 1))) := by decide +kernel
theorem xtl {n : Int} (h : i64 n) : xvc n = some (bB (wordL n)) := by
  unfold xvc
  have hw : xyb _ = _ := xox
  unfold wordsB at hw
  rw [show (xyb (ByteArray.mk #[112, 111, 105, 110, 116, 101, 114, 32, 97, 116, 116, 114, 105, 98, 117, 116, 101, 32, 115, 112, 101, 99, 105, 97, 108, 32, 105, 110, 111, 100, 101, 32, 101, 110, 116, 114, 121, 32, 116, 119, 105, 99, 101, 32, 111, 114, 112, 104, 97, 110, 32, 111, 112, 97, 113, 117, 101, 32, 102, 111, 114, 109, 32, 108, 111, 111, 112, 32, 103, 111, 110, 101, 32, 115, 97, 109, 101, 32, 111, 114, 105, 103, 105, 110, 32, 109, 101, 116, 97, 32, 119, 104, 105, 116, 101, 32, 105, 110, 100, 101, 120, 32, 119, 111, 114, 107, 32, 105, 109, 112, 117, 114, 101, 32, 108, 105, 110, 107, 115, 32, 115, 104, 111, 119, 110, 32, 98, 105, 116, 109, 97, 112, 32, 108, 111, 119, 101, 114, 32, 112, 101, 110, 100, 105, 110, 103])) = some (wordsL.map bB) by kernel_rfl]
  simp only [Option.bind_some]
  by_cases h1 : n < 1
  · rw [if_pos h1, xpg (.inl h1)]; rfl
  · rw [if_neg h1]
    by_cases h2 : 23 < n
    · rw [if_pos (by simpa [wordsL] using h2), xpg (.inr h2)]; rfl
    · rw [if_neg (by simpa [wordsL] using h2)]
      rw [of_fin (p := fun n => ix (wordsL.map bB) (wr (n - 1)) = some (bB (wordL n))) xdw (n := n) (by omega) (by omega)]
      rfl
theorem c32 : ByteArray.mk #[32] = bB [32] := rfl
theorem c58 : ByteArray.mk #[58] = bB [58] := rfl
theorem c63 : ByteArray.mk #[63] = bB [63] := rfl
theorem c10 : ByteArray.mk #[10] = bB [10] := rfl
theorem c0 : x5c = bB [] := rfl
theorem bB_iff {a b : List UInt8} : bB a = bB b ↔ a = b := ⟨bB_inj, fun h => by rw [h]⟩
structure F64 (f : Finding) : Prop where
  clause : i64 f.clause
  layer : i64 f.layer
  ino : i64 f.ino
  slot : i64 f.slot
theorem FF.f64 {f : Finding} (h : FF f) : F64 f := ⟨⟨by have := h.c0; omega, by have := h.c1; omega⟩, h.layer, h.ino, h.slot⟩
theorem xjp {f : Finding} (h : F64 f) : x9c f = some (bB (findL f)) := by
  unfold x9c
  have l1 := xtd h.layer
  have l2 := xtd h.ino
  have l3 := xtd h.slot
  have l0 := x4i f.clause
  rw [xtl h.clause, itoaM h.layer, itoaM h.ino, itoaM h.slot]
  simp only [Option.bind_some, c0, c32, c58, c63, bB_app, xf, List.length_append, List.length_cons, List.length_nil, bB_iff]
  by_cases hw : wordL f.clause = []
  · have hq : wordQ f.clause = [63] := by unfold wordQ; rw [if_pos hw]
    rw [if_pos hw]
    repeat (rw [ckY (by omega)]; simp only [Option.bind_some])
    unfold findL placeL
    rw [hq]
    simp
  · have hq : wordQ f.clause = wordL f.clause := by unfold wordQ; rw [if_neg hw]
    rw [hq] at l0
    rw [if_neg hw]
    repeat (rw [ckY (by omega)]; simp only [Option.bind_some])
    unfold findL placeL
    rw [hq]
    simp
end Go.Proofs.YtjmnoaoeediodaaDoor.AL

/- report.Text and script.Text: a strings.Builder is written, in the world. -/
set_option linter.all false
namespace Go.Proofs.YtjmnoaoeediodaaDoor.AL
open Go Go.Proofs Go.RowKit
def FAt (w : World) (B : Nat) (l : List Finding) (v : Value) : Prop := ∃ A cap, v = .slice A l.length cap ∧ ∀ (i : Nat) (f : Finding), l[i]? = some f → ∃ blk o, A = some ⟨blk, o, none⟩ ∧ blk < B ∧ w.cell? ⟨blk, o + i * 4, none⟩ = some (.int .i64 f.clause) ∧ w.cell? ⟨blk, o + i * 4 + 1, none⟩ = some (.int .i64 f.layer) ∧ w.cell? ⟨blk, o + i * 4 + 2, none⟩ = some (.int .i64 f.ino) ∧ w.cell? ⟨blk, o + i * 4 + 3, none⟩ = some (.int .i64 f.slot)
theorem FAt.mono {w w' : World} {B : Nat} {l : List Finding} {v : Value} (h : FAt w B l v) (hb : Below B w w') : FAt w' B l v := by
  obtain ⟨A, cap, rfl, h⟩ := h
  refine ⟨A, cap, rfl, fun i f hf => ?_⟩
  obtain ⟨blk, o, rfl, h1, h2, h3, h4, h5⟩ := h i f hf
  exact ⟨blk, o, rfl, h1, (hb.cell (p := ⟨blk, _, none⟩) h1).trans h2, (hb.cell (p := ⟨blk, _, none⟩) h1).trans h3, (hb.cell (p := ⟨blk, _, none⟩) h1).trans h4, (hb.cell (p := ⟨blk, _, none⟩) h1).trans h5⟩
theorem x6u {T B b : Nat} {bs : List Value} {w w' : World} (h : Lib.IsBuilderF T 5 B b bs w) (hb : Below w.heap.size w w') : Lib.IsBuilderF T 5 B b bs w' := by
  have key : ∀ p, Lib.BuilderAtF T 5 B b p bs w → Lib.BuilderAtF T 5 B b p bs w' := by
    rintro p ⟨h1, v, h2, ⟨h3, h4⟩, h5⟩
    have hlt : ∀ {g : Nat} {o : Obj}, w.heap[g]? = some o → w'.heap[g]? = some o := fun {g o} h => (hb.block g (Array.getElem?_eq_some_iff.1 h).1).trans h
    refine ⟨h1, v, hlt h2, ⟨h3, ?_⟩, h5⟩
    rcases h4 with h4 | ⟨g, cap, cur, fz, e1, e2, e3, e4⟩
    · exact .inl h4
    · exact .inr ⟨g, cap, cur, fz, e1, e2, hlt e3, e4⟩
  rcases h with h | h
  · exact .inl (key _ h)
  · exact .inr (key _ h)
theorem lies70 : lies1 70 := by unfold lies1; kernel_rfl
end Go.Proofs.YtjmnoaoeediodaaDoor.AL

