/- A law of the given program is proved: part 38 of 47. -/
import Derived.Lib.Builder
import Derived.Lib.FrozenHead
import Derived.Deep.RegionHeld3
import Derived.Test.YtjmnoaoeediodaaDoorC37
set_option linter.all false
/- Models of functions, and that the functions are as their models: written by gen.py. -/
set_option linter.all false
set_option maxRecDepth 100000
namespace Go.Proofs.YtjmnoaoeediodaaDoor.AL
open Go Go.Proofs
def x6f  : Option (List ByteArray) := some ([xzc, (ByteArray.mk #[112, 111, 105, 110, 116, 101, 114]), (ByteArray.mk #[97, 116, 116, 114, 105, 98, 117, 116, 101]), (ByteArray.mk #[115, 112, 101, 99, 105, 97, 108]), (ByteArray.mk #[105, 110, 111, 100, 101]), (ByteArray.mk #[101, 110, 116, 114, 121]), (ByteArray.mk #[116, 119, 105, 99, 101]), (ByteArray.mk #[111, 114, 112, 104, 97, 110]), (ByteArray.mk #[111, 112, 97, 113, 117, 101]), (ByteArray.mk #[102, 111, 114, 109]), (ByteArray.mk #[108, 111, 111, 112]), (ByteArray.mk #[103, 111, 110, 101]), (ByteArray.mk #[115, 97, 109, 101]), (ByteArray.mk #[111, 114, 105, 103, 105, 110]), (ByteArray.mk #[109, 101, 116, 97]), (ByteArray.mk #[119, 104, 105, 116, 101]), (ByteArray.mk #[105, 110, 100, 101, 120]), (ByteArray.mk #[119, 111, 114, 107]), (ByteArray.mk #[105, 109, 112, 117, 114, 101]), (ByteArray.mk #[108, 105, 110, 107, 115]), (ByteArray.mk #[115, 104, 111, 119, 110]), (ByteArray.mk #[98, 105, 116, 109, 97, 112]), (ByteArray.mk #[108, 111, 119, 101, 114]), (ByteArray.mk #[112, 101, 110, 100, 105, 110, 103])] : List ByteArray)
def x8k := aI (@EV) (aI (@R9) (@R53))
set_option maxHeartbeats 2000000 in
theorem x9p  (r : List ByteArray) (hm0 : x6f  = some r) : Ok Tryd.prog 35 [] (.sl 1 (r.map str)) := by
 unfold x6f at hm0
 refine okG x2p ?_
 unfold x6k
 obtain rfl := Option.some.inj hm0
 simp only [x8k, ↓EVd, isCall, sevalprocAttr]
 all_goals first | done | rfl | exact frzR_e (by simp only [FZ, CLO, x8k, ↓EVd, isCall, sevalprocAttr])
def xyc (a0 : Int) : Option (ByteArray) := if a0 < 1 then some xzc
 else if 23 < a0 then some xzc
 else (x6f ).bind fun v5 => (ix v5 a0).bind fun v7 => some v7
def xvf := aI (aI (@EV) (@R3)) (aI (@R9) (@R53))
set_option maxHeartbeats 2000000 in
theorem xbf (a0 : Int) (r : ByteArray) (hm0 : xyc a0 = some r) : Ok Tryd.prog 12 [int a0] (str r) := by
 unfold xyc at hm0
 refine okG xlo ?_
 unfold xvj
 rcases iteE hm0 with ⟨e2, hm0⟩ | ⟨e2, hm0⟩
 · obtain rfl := Option.some.inj hm0
   simp only [e2, xvf, ↓EVd, isCall, sevalprocAttr]
   all_goals first | done | rfl
 rcases iteE hm0 with ⟨e4, hm0⟩ | ⟨e4, hm0⟩
 · obtain rfl := Option.some.inj hm0
   simp only [e2, e4, xvf, ↓EVd, isCall, sevalprocAttr]
   all_goals first | done | rfl
 obtain ⟨v5, h6, hm0⟩ := bsE hm0
 simp only [e2, e4, xvf, ↓EVd, isCall, sevalprocAttr]
 refine qc (x9p  _ h6) rfl ?_
 obtain ⟨v7, e9, hm0⟩ := ixE str hm0
 obtain rfl := Option.some.inj hm0
 simp only [e2, e4, e9, xvf, ↓EVd, isCall, sevalprocAttr]
 all_goals first | done | rfl
def x0d (a0 : Int) : Option (ByteArray) := (xyc a0).bind fun v1 => if v1 = xzc then some (ByteArray.mk #[63])
 else (xyc a0).bind fun v5 => some v5
def xxg := aI (@EV) (aI (@R3) (@R9))
set_option maxHeartbeats 2000000 in
theorem x3h (a0 : Int) (r : ByteArray) (hm0 : x0d a0 = some r) : Ok Tryd.prog 37 [int a0] (str r) := by
 unfold x0d at hm0
 refine okG xir ?_
 unfold x8l
 obtain ⟨v1, h2, hm0⟩ := bsE hm0
 simp only [xxg, ↓EVd, isCall, sevalprocAttr]
 refine qc (xbf _ _ h2) rfl ?_
 rcases iteE hm0 with ⟨e4, hm0⟩ | ⟨e4, hm0⟩
 · obtain rfl := Option.some.inj hm0
   simp only [e4, xxg, ↓EVd, isCall, sevalprocAttr]
   all_goals first | done | rfl
 obtain ⟨v5, h6, hm0⟩ := bsE hm0
 simp only [e4, xxg, ↓EVd, isCall, sevalprocAttr]
 refine qc (xbf _ _ h6) rfl ?_
 obtain rfl := Option.some.inj hm0
 simp only [e4, xxg, ↓EVd, isCall, sevalprocAttr]
 all_goals first | done | rfl
def x0c  : (Int × ByteArray) → Option (St (Int × ByteArray) (ByteArray))
 | (v6, v7) => if v6 = 0 then some (.out v7)
 else if (v6.tmod 10) < 0 then (ck ((x6c ([(wB (wr (48 + (wr (0 - (v6.tmod 10))))))] : List UInt8)).size + v7.size ≤ 9223372036854775807)).bind fun _ => some (.nx ((wr (v6.tdiv 10)), ((x6c ([(wB (wr (48 + (wr (0 - (v6.tmod 10))))))] : List UInt8)) ++ v7)))
 else (ck ((x6c ([(wB (wr (48 + (v6.tmod 10))))] : List UInt8)).size + v7.size ≤ 9223372036854775807)).bind fun _ => some (.nx ((wr (v6.tdiv 10)), ((x6c ([(wB (wr (48 + (v6.tmod 10))))] : List UInt8)) ++ v7)))
def xbh  : (Int × ByteArray) → Option (St (Int × ByteArray) (ByteArray))
 | (v28, v29) => if v28 = 0 then some (.out v29)
 else if (v28.tmod 10) < 0 then (ck ((x6c ([(wB (wr (48 + (wr (0 - (v28.tmod 10))))))] : List UInt8)).size + v29.size ≤ 9223372036854775807)).bind fun _ => some (.nx ((wr (v28.tdiv 10)), ((x6c ([(wB (wr (48 + (wr (0 - (v28.tmod 10))))))] : List UInt8)) ++ v29)))
 else (ck ((x6c ([(wB (wr (48 + (v28.tmod 10))))] : List UInt8)).size + v29.size ≤ 9223372036854775807)).bind fun _ => some (.nx ((wr (v28.tdiv 10)), ((x6c ([(wB (wr (48 + (v28.tmod 10))))] : List UInt8)) ++ v29)))
def xu (a0 : Int) : Option (ByteArray) := if a0 = 0 then some (ByteArray.mk #[48])
 else if a0 < 0 then (iter (x0c) big (a0, xzc)).bind fun o => (match o with
 | v9 => (ck ((ByteArray.mk #[45]).size + v9.size ≤ 9223372036854775807)).bind fun _ => some ((ByteArray.mk #[45]) ++ v9))
 else (iter (xbh) big (a0, xzc)).bind fun o => (match o with
 | v31 => some v31)
def xcb := aI (aI (@EV) (@R3)) (aI (@R9) (@R68))
set_option maxHeartbeats 2000000 in
theorem xfb (a0 : Int) (r : ByteArray) (hm0 : xu a0 = some r) : Ok Tryd.prog 38 [int a0] (str r) := by
 unfold xu at hm0
 refine okG x6s ?_
 unfold xxn
 rcases iteE hm0 with ⟨e2, hm0⟩ | ⟨e2, hm0⟩
 · obtain rfl := Option.some.inj hm0
   simp only [e2, xcb, ↓EVd, isCall, sevalprocAttr]
   all_goals first | done | rfl
 rcases iteE hm0 with ⟨e4, hm0⟩ | ⟨e4, hm0⟩
 · obtain ⟨o0, ho0, hm0⟩ := bsE hm0
   simp only [e2, e4, xcb, ↓EVd, isCall, sevalprocAttr]
   refine cwp_cx 0 (fun s => ∃ v9 : ByteArray, (s.T 3 = str v9 ∧ s.T 4 = bool true) ∧ v9 = o0) ?_ fun J0_0 hJ0_0 => ?_
   · rintro T0 H0 x8 ⟨v9, kk0_0, rfl⟩
     dsimp only [Lq, Nq] at kk0_0
     try dsimp only at hm0
     obtain ⟨e26, hm0⟩ := ckE hm0
     obtain rfl := Option.some.inj hm0
     simp only [kk0_0, e2, e4, e26, xcb, ↓EVd, isCall, sevalprocAttr]
     all_goals first | done | rfl
   refine cwp_lp ho0 (fun (v6, v7) s => s.T 0 = int v6 ∧ s.T 3 = str v7 ∧ s.T 4 = bool true) ?_ ?_
   · refine TI.here ⟨?_, ?_, ?_⟩
     all_goals try simp only [e2, e4, xcb, ↓EVd, isCall, sevalprocAttr]
     all_goals first | omega | exact lq (by omega) | exact nq (by omega) | rfl | (congr 1; omega)
   rintro I0 ⟨v6, v7⟩ T0 H0 x5 st0 kk0 hm1 hI0 hO0
   dsimp only [Lq, Nq] at kk0
   simp only [x0c] at hm1
   rcases iteE hm1 with ⟨e11, hm1⟩ | ⟨e11, hm1⟩
   · obtain rfl := Option.some.inj hm1
     simp only [kk0, e2, e4, e11, xcb, ↓EVd, isCall, sevalprocAttr]
     refine TI.here (hJ0_0 _ ⟨v7, ⟨?_, ?_⟩, hO0 _ rfl⟩)
     all_goals try simp only [kk0, e2, e4, e11, xcb, ↓EVd, isCall, sevalprocAttr]
     all_goals first | omega | exact lq (by omega) | exact nq (by omega) | rfl | (congr 1; omega)
   have e12 : ((10 : Int) = 0) = False := by decide
   rcases iteE hm1 with ⟨e14, hm1⟩ | ⟨e14, hm1⟩
   · have e15 : convE Tryd.prog 3 5 (int (wr (48 + (wr (0 - (v6.tmod 10)))))) = some (ik .u8 (IntKind.u8.wrap (wr (48 + (wr (0 - (v6.tmod 10)))))), []) := xch _ (by kernel_rfl) (by kernel_rfl)
     have e16 : (AV.val (.int .u8 (IntKind.u8.wrap (wr (48 + (wr (0 - (v6.tmod 10)))))))) = u8 (wB (wr (48 + (wr (0 - (v6.tmod 10)))))) := u8w _
     have e17 : convE Tryd.prog 68 9 (.sl 1 [u8 (wB (wr (48 + (wr (0 - (v6.tmod 10))))))]) = some (str (x6c ([(wB (wr (48 + (wr (0 - (v6.tmod 10))))))] : List UInt8)), []) := x7h ([(wB (wr (48 + (wr (0 - (v6.tmod 10))))))] : List UInt8) (e := 5) (by kernel_rfl) (by kernel_rfl) (by kernel_rfl)
     obtain ⟨e19, hm1⟩ := ckE hm1
     obtain rfl := Option.some.inj hm1
     simp only [kk0, e2, e4, e11, e12, e14, e15, e16, e17, e19, xcb, ↓EVd, isCall, sevalprocAttr]
     refine TI.here (hI0 _ rfl _ ⟨?_, ?_, ?_⟩)
     all_goals try simp only [kk0, e2, e4, e11, e12, e14, e15, e16, e17, e19, xcb, ↓EVd, isCall, sevalprocAttr]
     all_goals first | omega | exact lq (by omega) | exact nq (by omega) | rfl | (congr 1; omega)
   have e20 : convE Tryd.prog 3 5 (int (wr (48 + (v6.tmod 10)))) = some (ik .u8 (IntKind.u8.wrap (wr (48 + (v6.tmod 10)))), []) := xch _ (by kernel_rfl) (by kernel_rfl)
   have e21 : (AV.val (.int .u8 (IntKind.u8.wrap (wr (48 + (v6.tmod 10)))))) = u8 (wB (wr (48 + (v6.tmod 10)))) := u8w _
   have e22 : convE Tryd.prog 68 9 (.sl 1 [u8 (wB (wr (48 + (v6.tmod 10))))]) = some (str (x6c ([(wB (wr (48 + (v6.tmod 10))))] : List UInt8)), []) := x7h ([(wB (wr (48 + (v6.tmod 10))))] : List UInt8) (e := 5) (by kernel_rfl) (by kernel_rfl) (by kernel_rfl)
   obtain ⟨e24, hm1⟩ := ckE hm1
   obtain rfl := Option.some.inj hm1
   simp only [kk0, e2, e4, e11, e12, e14, e20, e21, e22, e24, xcb, ↓EVd, isCall, sevalprocAttr]
   refine TI.here (hI0 _ rfl _ ⟨?_, ?_, ?_⟩)
   all_goals try simp only [kk0, e2, e4, e11, e12, e14, e20, e21, e22, e24, xcb, ↓EVd, isCall, sevalprocAttr]
   all_goals first | omega | exact lq (by omega) | exact nq (by omega) | rfl | (congr 1; omega)
 obtain ⟨o1, ho1, hm0⟩ := bsE hm0
 simp only [e2, e4, xcb, ↓EVd, isCall, sevalprocAttr]
 refine cwp_cx 0 (fun s => ∃ v31 : ByteArray, (s.T 3 = str v31 ∧ s.T 4 = bool false) ∧ v31 = o1) ?_ fun J1_0 hJ1_0 => ?_
 · rintro T1 H1 x30 ⟨v31, kk1_0, rfl⟩
   dsimp only [Lq, Nq] at kk1_0
   try dsimp only at hm0
   obtain rfl := Option.some.inj hm0
   simp only [kk1_0, e2, e4, xcb, ↓EVd, isCall, sevalprocAttr]
   all_goals first | done | rfl
 refine cwp_lp ho1 (fun (v28, v29) s => s.T 0 = int v28 ∧ s.T 3 = str v29 ∧ s.T 4 = bool false) ?_ ?_
 · refine TI.here ⟨?_, ?_, ?_⟩
   all_goals try simp only [e2, e4, xcb, ↓EVd, isCall, sevalprocAttr]
   all_goals first | omega | exact lq (by omega) | exact nq (by omega) | rfl | (congr 1; omega)
 rintro I1 ⟨v28, v29⟩ T1 H1 x27 st1 kk1 hm1 hI1 hO1
 dsimp only [Lq, Nq] at kk1
 simp only [xbh] at hm1
 rcases iteE hm1 with ⟨e33, hm1⟩ | ⟨e33, hm1⟩
 · obtain rfl := Option.some.inj hm1
   simp only [kk1, e2, e4, e33, xcb, ↓EVd, isCall, sevalprocAttr]
   refine TI.here (hJ1_0 _ ⟨v29, ⟨?_, ?_⟩, hO1 _ rfl⟩)
   all_goals try simp only [kk1, e2, e4, e33, xcb, ↓EVd, isCall, sevalprocAttr]
   all_goals first | omega | exact lq (by omega) | exact nq (by omega) | rfl | (congr 1; omega)
 have e34 : ((10 : Int) = 0) = False := by decide
 rcases iteE hm1 with ⟨e36, hm1⟩ | ⟨e36, hm1⟩
 · have e37 : convE Tryd.prog 3 5 (int (wr (48 + (wr (0 - (v28.tmod 10)))))) = some (ik .u8 (IntKind.u8.wrap (wr (48 + (wr (0 - (v28.tmod 10)))))), []) := xch _ (by kernel_rfl) (by kernel_rfl)
   have e38 : (AV.val (.int .u8 (IntKind.u8.wrap (wr (48 + (wr (0 - (v28.tmod 10)))))))) = u8 (wB (wr (48 + (wr (0 - (v28.tmod 10)))))) := u8w _
   have e39 : convE Tryd.prog 68 9 (.sl 1 [u8 (wB (wr (48 + (wr (0 - (v28.tmod 10))))))]) = some (str (x6c ([(wB (wr (48 + (wr (0 - (v28.tmod 10))))))] : List UInt8)), []) := x7h ([(wB (wr (48 + (wr (0 - (v28.tmod 10))))))] : List UInt8) (e := 5) (by kernel_rfl) (by kernel_rfl) (by kernel_rfl)
   obtain ⟨e41, hm1⟩ := ckE hm1
   obtain rfl := Option.some.inj hm1
   simp only [kk1, e2, e4, e33, e34, e36, e37, e38, e39, e41, xcb, ↓EVd, isCall, sevalprocAttr]
   refine TI.here (hI1 _ rfl _ ⟨?_, ?_, ?_⟩)
   all_goals try simp only [kk1, e2, e4, e33, e34, e36, e37, e38, e39, e41, xcb, ↓EVd, isCall, sevalprocAttr]
   all_goals first | omega | exact lq (by omega) | exact nq (by omega) | rfl | (congr 1; omega)
 have e42 : convE Tryd.prog 3 5 (int (wr (48 + (v28.tmod 10)))) = some (ik .u8 (IntKind.u8.wrap (wr (48 + (v28.tmod 10)))), []) := xch _ (by kernel_rfl) (by kernel_rfl)
 have e43 : (AV.val (.int .u8 (IntKind.u8.wrap (wr (48 + (v28.tmod 10)))))) = u8 (wB (wr (48 + (v28.tmod 10)))) := u8w _
 have e44 : convE Tryd.prog 68 9 (.sl 1 [u8 (wB (wr (48 + (v28.tmod 10))))]) = some (str (x6c ([(wB (wr (48 + (v28.tmod 10))))] : List UInt8)), []) := x7h ([(wB (wr (48 + (v28.tmod 10))))] : List UInt8) (e := 5) (by kernel_rfl) (by kernel_rfl) (by kernel_rfl)
 obtain ⟨e46, hm1⟩ := ckE hm1
 obtain rfl := Option.some.inj hm1
 simp only [kk1, e2, e4, e33, e34, e36, e42, e43, e44, e46, xcb, ↓EVd, isCall, sevalprocAttr]
 refine TI.here (hI1 _ rfl _ ⟨?_, ?_, ?_⟩)
 all_goals try simp only [kk1, e2, e4, e33, e34, e36, e42, e43, e44, e46, xcb, ↓EVd, isCall, sevalprocAttr]
 all_goals first | omega | exact lq (by omega) | exact nq (by omega) | rfl | (congr 1; omega)
def x2c (a0 : Finding) : Option (ByteArray) := (x0d a0.clause).bind fun v1 => (ck (v1.size + (ByteArray.mk #[32]).size ≤ 9223372036854775807)).bind fun _ => (xu a0.layer).bind fun v5 => (ck ((v1 ++ (ByteArray.mk #[32])).size + v5.size ≤ 9223372036854775807)).bind fun _ => (ck (((v1 ++ (ByteArray.mk #[32])) ++ v5).size + (ByteArray.mk #[58]).size ≤ 9223372036854775807)).bind fun _ => (xu a0.ino).bind fun v11 => (ck ((((v1 ++ (ByteArray.mk #[32])) ++ v5) ++ (ByteArray.mk #[58])).size + v11.size ≤ 9223372036854775807)).bind fun _ => (ck (((((v1 ++ (ByteArray.mk #[32])) ++ v5) ++ (ByteArray.mk #[58])) ++ v11).size + (ByteArray.mk #[58]).size ≤ 9223372036854775807)).bind fun _ => (xu a0.slot).bind fun v17 => (ck ((((((v1 ++ (ByteArray.mk #[32])) ++ v5) ++ (ByteArray.mk #[58])) ++ v11) ++ (ByteArray.mk #[58])).size + v17.size ≤ 9223372036854775807)).bind fun _ => some ((((((v1 ++ (ByteArray.mk #[32])) ++ v5) ++ (ByteArray.mk #[58])) ++ v11) ++ (ByteArray.mk #[58])) ++ v17)
def xae := aI (aI (@EV) (aI (@R3) (@R9))) (aI (@R23) (aI (@DFinding) (@mixed)))
set_option maxHeartbeats 2000000 in
theorem xig (a0 : Finding) (r : ByteArray) (hm0 : x2c a0 = some r) : Ok Tryd.prog 14 [xd a0] (str r) := by
 unfold x2c at hm0
 refine okG xio ?_
 unfold xfj
 obtain ⟨v1, h2, hm0⟩ := bsE hm0
 simp only [xae, ↓EVd, isCall, sevalprocAttr]
 refine qd (x3h _ _ h2) rfl ?_
 obtain ⟨e4, hm0⟩ := ckE hm0
 obtain ⟨v5, h6, hm0⟩ := bsE hm0
 simp only [e4, xae, ↓EVd, isCall, sevalprocAttr]
 refine qd (xfb _ _ h6) rfl ?_
 obtain ⟨e8, hm0⟩ := ckE hm0
 obtain ⟨e10, hm0⟩ := ckE hm0
 obtain ⟨v11, h12, hm0⟩ := bsE hm0
 simp only [e4, e8, e10, xae, ↓EVd, isCall, sevalprocAttr]
 refine qd (xfb _ _ h12) rfl ?_
 obtain ⟨e14, hm0⟩ := ckE hm0
 obtain ⟨e16, hm0⟩ := ckE hm0
 obtain ⟨v17, h18, hm0⟩ := bsE hm0
 simp only [e4, e8, e10, e14, e16, xae, ↓EVd, isCall, sevalprocAttr]
 refine qd (xfb _ _ h18) rfl ?_
 obtain ⟨e20, hm0⟩ := ckE hm0
 obtain rfl := Option.some.inj hm0
 simp only [e4, e8, e10, e14, e16, e20, xae, ↓EVd, isCall, sevalprocAttr]
 all_goals first | done | rfl
def xzb (a0 : ByteArray) : (Int × Int) → Option (St (Int × Int) ((Int) ⊕ (Int × Bool)))
 | (v9, v10) => if v10 < (a0.size : Int) then if v10 < 24 then (ixB a0 v10).bind fun v17 => if (wr ((IntKind.i64.wrap (v17.toNat : Int)) - 48)) < 0 then some (.out (.inr (0, false)))
 else if 9 < (wr ((IntKind.i64.wrap (v17.toNat : Int)) - 48)) then some (.out (.inr (0, false)))
 else some (.nx ((wr ((wr (v9 * 10)) - (wr ((IntKind.i64.wrap (v17.toNat : Int)) - 48)))), (wr (v10 + 1))))
 else some (.out (.inl v9))
 else some (.out (.inl v9))
def xxb (a0 : ByteArray) : (Int × Int) → Option (St (Int × Int) ((Int) ⊕ (Int × Bool)))
 | (v31, v32) => if v32 < (a0.size : Int) then if v32 < 24 then (ixB a0 v32).bind fun v39 => if (wr ((IntKind.i64.wrap (v39.toNat : Int)) - 48)) < 0 then some (.out (.inr (0, false)))
 else if 9 < (wr ((IntKind.i64.wrap (v39.toNat : Int)) - 48)) then some (.out (.inr (0, false)))
 else some (.nx ((wr ((wr (v31 * 10)) + (wr ((IntKind.i64.wrap (v39.toNat : Int)) - 48)))), (wr (v32 + 1))))
 else some (.out (.inl v31))
 else some (.out (.inl v31))
def x3f  : Unit → Option (St (Unit) (Unit))
 | _ => some (.out ())
def xkc (a0 : ByteArray) : Option (Int × Bool) := if 0 < (a0.size : Int) then (ixB a0 0).bind fun v3 => if (v3.toNat : Int) = 45 then (iter (xzb a0) big (0, 1)).bind fun o => (match o with
 | (.inl v12) => (xu v12).bind fun v26 => if v26 = a0 then some (v12, true)
 else some (0, false)
 | (.inr r) => some r)
 else (iter (xxb a0) big (0, 0)).bind fun o => (match o with
 | (.inl v34) => (xu v34).bind fun v48 => if v48 = a0 then some (v34, true)
 else some (0, false)
 | (.inr r) => some r)
 else (iter (x3f) big ()).bind fun o => (match o with
 | _ => (xu 0).bind fun v54 => if v54 = a0 then some (0, true)
 else some (0, false))
def xk := aI (@EV) (aI (@R3) (@R9))
set_option maxHeartbeats 2000000 in
theorem xge (a0 : ByteArray) (r : Int × Bool) (hm0 : xkc a0 = some r) : Ok Tryd.prog 33 [str a0] (.tup [int r.1, bool r.2]) := by
 unfold xkc at hm0
 refine okG x6o ?_
 unfold x6j
 rcases iteE hm0 with ⟨e2, hm0⟩ | ⟨e2, hm0⟩
 · obtain ⟨v3, e5, hm0⟩ := ixBE hm0
   try simp only [sevalprocAttr, eq_self, true_and] at e5
   rcases iteE hm0 with ⟨e7, hm0⟩ | ⟨e7, hm0⟩
   · obtain ⟨o0, ho0, hm0⟩ := bsE hm0
     simp only [e2, e5, e7, xk, ↓EVd, isCall, sevalprocAttr]
     refine cwp_cx 0 (fun s => ∃ v12 : Int, (s.T 0 = str a0 ∧ s.T 4 = int v12) ∧ (.inl v12) = o0) ?_ fun J0_0 hJ0_0 => ?_
     · rintro T0 H0 x11 ⟨v12, kk0_0, rfl⟩
       dsimp only [Lq, Nq] at kk0_0
       try dsimp only at hm0
       obtain ⟨v26, h27, hm0⟩ := bsE hm0
       simp only [kk0_0, e2, e5, e7, xk, ↓EVd, isCall, sevalprocAttr]
       refine qc (xfb _ _ h27) rfl ?_
       rcases iteE hm0 with ⟨e29, hm0⟩ | ⟨e29, hm0⟩
       · obtain rfl := Option.some.inj hm0
         simp only [kk0_0, e2, e5, e7, e29, xk, ↓EVd, isCall, sevalprocAttr]
         all_goals first | done | rfl | exact xg (by simp only [CLO]) | exact xj (by simp only [CLO]) (Sub.tup (Subs.cons (Sub.refl _) (Subs.cons (Sub.refl _) (Subs.nil))))
       obtain rfl := Option.some.inj hm0
       simp only [kk0_0, e2, e5, e7, e29, xk, ↓EVd, isCall, sevalprocAttr]
       all_goals first | done | rfl | exact xg (by simp only [CLO]) | exact xj (by simp only [CLO]) (Sub.tup (Subs.cons (Sub.refl _) (Subs.cons (Sub.refl _) (Subs.nil))))
     refine cwp_lp ho0 (fun (v9, v10) s => s.T 0 = str a0 ∧ s.T 4 = int v9 ∧ s.T 5 = int 1 ∧ s.T 6 = int v10) ?_ ?_
     · refine TI.here ⟨?_, ?_, ?_, ?_⟩
       all_goals try simp only [e2, e5, e7, xk, ↓EVd, isCall, sevalprocAttr]
       all_goals first | omega | exact lq (by omega) | exact nq (by omega) | rfl | (congr 1; omega)
     rintro I0 ⟨v9, v10⟩ T0 H0 x8 st0 kk0 hm1 hI0 hO0
     dsimp only [Lq, Nq] at kk0
     simp only [xzb] at hm1
     rcases iteE hm1 with ⟨e14, hm1⟩ | ⟨e14, hm1⟩
     · rcases iteE hm1 with ⟨e16, hm1⟩ | ⟨e16, hm1⟩
       · obtain ⟨v17, e19, hm1⟩ := ixBE hm1
         have e20 : convE Tryd.prog 5 3 (ik .u8 (v17.toNat : Int)) = some (int (IntKind.i64.wrap (v17.toNat : Int)), []) := xch _ (by kernel_rfl) (by kernel_rfl)
         rcases iteE hm1 with ⟨e22, hm1⟩ | ⟨e22, hm1⟩
         · obtain rfl := Option.some.inj hm1
           obtain rfl := hO0 _ rfl
           try dsimp only at hm0
           obtain rfl := Option.some.inj hm0
           simp only [kk0, e2, e5, e7, e14, e16, e19, e20, e22, xk, ↓EVd, isCall, sevalprocAttr]
           all_goals first | done | rfl | exact xg (by simp only [CLO]) | exact xj (by simp only [CLO]) (Sub.tup (Subs.cons (Sub.refl _) (Subs.cons (Sub.refl _) (Subs.nil))))
         have g58 := And.intro (And.intro (And.intro ((e2)) ((e5))) (And.intro ((e7)) ((e14)))) (And.intro (And.intro ((e16)) ((e19))) (And.intro ((e20)) ((e22))))
         rcases iteE hm1 with ⟨e24, hm1⟩ | ⟨e24, hm1⟩
         · obtain rfl := Option.some.inj hm1
           obtain rfl := hO0 _ rfl
           try dsimp only at hm0
           obtain rfl := Option.some.inj hm0
           simp only [kk0, g58, e24, xk, ↓EVd, isCall, sevalprocAttr]
           all_goals first | done | rfl | exact xg (by simp only [CLO]) | exact xj (by simp only [CLO]) (Sub.tup (Subs.cons (Sub.refl _) (Subs.cons (Sub.refl _) (Subs.nil))))
         have e25 : ((1 : Int) = 0) = False := by decide
         obtain rfl := Option.some.inj hm1
         simp only [kk0, g58, e24, e25, xk, ↓EVd, isCall, sevalprocAttr]
         refine TI.here (hI0 _ rfl _ ⟨?_, ?_, ?_, ?_⟩)
         all_goals try simp only [kk0, g58, e24, e25, xk, ↓EVd, isCall, sevalprocAttr]
         all_goals first | omega | exact lq (by omega) | exact nq (by omega) | rfl | (congr 1; omega)
       obtain rfl := Option.some.inj hm1
       simp only [kk0, e2, e5, e7, e14, e16, xk, ↓EVd, isCall, sevalprocAttr]
       refine TI.here (hJ0_0 _ ⟨v9, ⟨?_, ?_⟩, hO0 _ rfl⟩)
       all_goals try simp only [kk0, e2, e5, e7, e14, e16, xk, ↓EVd, isCall, sevalprocAttr]
       all_goals first | omega | exact lq (by omega) | exact nq (by omega) | rfl | (congr 1; omega)
     obtain rfl := Option.some.inj hm1
     simp only [kk0, e2, e5, e7, e14, xk, ↓EVd, isCall, sevalprocAttr]
     refine TI.here (hJ0_0 _ ⟨v9, ⟨?_, ?_⟩, hO0 _ rfl⟩)
     all_goals try simp only [kk0, e2, e5, e7, e14, xk, ↓EVd, isCall, sevalprocAttr]
     all_goals first | omega | exact lq (by omega) | exact nq (by omega) | rfl | (congr 1; omega)
   obtain ⟨o1, ho1, hm0⟩ := bsE hm0
   simp only [e2, e5, e7, xk, ↓EVd, isCall, sevalprocAttr]
   refine cwp_cx 0 (fun s => ∃ v34 : Int, (s.T 0 = str a0 ∧ s.T 4 = int v34) ∧ (.inl v34) = o1) ?_ fun J1_0 hJ1_0 => ?_
   · rintro T1 H1 x33 ⟨v34, kk1_0, rfl⟩
     dsimp only [Lq, Nq] at kk1_0
     try dsimp only at hm0
     obtain ⟨v48, h49, hm0⟩ := bsE hm0
     simp only [kk1_0, e2, e5, e7, xk, ↓EVd, isCall, sevalprocAttr]
     refine qc (xfb _ _ h49) rfl ?_
     rcases iteE hm0 with ⟨e51, hm0⟩ | ⟨e51, hm0⟩
     · obtain rfl := Option.some.inj hm0
       simp only [kk1_0, e2, e5, e7, e51, xk, ↓EVd, isCall, sevalprocAttr]
       all_goals first | done | rfl | exact xg (by simp only [CLO]) | exact xj (by simp only [CLO]) (Sub.tup (Subs.cons (Sub.refl _) (Subs.cons (Sub.refl _) (Subs.nil))))
     obtain rfl := Option.some.inj hm0
     simp only [kk1_0, e2, e5, e7, e51, xk, ↓EVd, isCall, sevalprocAttr]
     all_goals first | done | rfl | exact xg (by simp only [CLO]) | exact xj (by simp only [CLO]) (Sub.tup (Subs.cons (Sub.refl _) (Subs.cons (Sub.refl _) (Subs.nil))))
   refine cwp_lp ho1 (fun (v31, v32) s => s.T 0 = str a0 ∧ s.T 4 = int v31 ∧ s.T 5 = int 0 ∧ s.T 6 = int v32) ?_ ?_
   · refine TI.here ⟨?_, ?_, ?_, ?_⟩
     all_goals try simp only [e2, e5, e7, xk, ↓EVd, isCall, sevalprocAttr]
     all_goals first | omega | exact lq (by omega) | exact nq (by omega) | rfl | (congr 1; omega)
   rintro I1 ⟨v31, v32⟩ T1 H1 x30 st1 kk1 hm1 hI1 hO1
   dsimp only [Lq, Nq] at kk1
   simp only [xxb] at hm1
   rcases iteE hm1 with ⟨e36, hm1⟩ | ⟨e36, hm1⟩
   · rcases iteE hm1 with ⟨e38, hm1⟩ | ⟨e38, hm1⟩
     · obtain ⟨v39, e41, hm1⟩ := ixBE hm1
       have e42 : convE Tryd.prog 5 3 (ik .u8 (v39.toNat : Int)) = some (int (IntKind.i64.wrap (v39.toNat : Int)), []) := xch _ (by kernel_rfl) (by kernel_rfl)
       rcases iteE hm1 with ⟨e44, hm1⟩ | ⟨e44, hm1⟩
       · obtain rfl := Option.some.inj hm1
         obtain rfl := hO1 _ rfl
         try dsimp only at hm0
         obtain rfl := Option.some.inj hm0
         simp only [kk1, e2, e5, e7, e36, e38, e41, e42, e44, xk, ↓EVd, isCall, sevalprocAttr]
         all_goals first | done | rfl | exact xg (by simp only [CLO]) | exact xj (by simp only [CLO]) (Sub.tup (Subs.cons (Sub.refl _) (Subs.cons (Sub.refl _) (Subs.nil))))
       have g59 := And.intro (And.intro (And.intro ((e2)) ((e5))) (And.intro ((e7)) ((e36)))) (And.intro (And.intro ((e38)) ((e41))) (And.intro ((e42)) ((e44))))
       rcases iteE hm1 with ⟨e46, hm1⟩ | ⟨e46, hm1⟩
       · obtain rfl := Option.some.inj hm1
         obtain rfl := hO1 _ rfl
         try dsimp only at hm0
         obtain rfl := Option.some.inj hm0
         simp only [kk1, g59, e46, xk, ↓EVd, isCall, sevalprocAttr]
         all_goals first | done | rfl | exact xg (by simp only [CLO]) | exact xj (by simp only [CLO]) (Sub.tup (Subs.cons (Sub.refl _) (Subs.cons (Sub.refl _) (Subs.nil))))
       have e47 : ((0 : Int) = 0) = True := by decide
       obtain rfl := Option.some.inj hm1
       simp only [kk1, g59, e46, e47, xk, ↓EVd, isCall, sevalprocAttr]
       refine TI.here (hI1 _ rfl _ ⟨?_, ?_, ?_, ?_⟩)
       all_goals try simp only [kk1, g59, e46, e47, xk, ↓EVd, isCall, sevalprocAttr]
       all_goals first | omega | exact lq (by omega) | exact nq (by omega) | rfl | (congr 1; omega)
     obtain rfl := Option.some.inj hm1
     simp only [kk1, e2, e5, e7, e36, e38, xk, ↓EVd, isCall, sevalprocAttr]
     refine TI.here (hJ1_0 _ ⟨v31, ⟨?_, ?_⟩, hO1 _ rfl⟩)
     all_goals try simp only [kk1, e2, e5, e7, e36, e38, xk, ↓EVd, isCall, sevalprocAttr]
     all_goals first | omega | exact lq (by omega) | exact nq (by omega) | rfl | (congr 1; omega)
   obtain rfl := Option.some.inj hm1
   simp only [kk1, e2, e5, e7, e36, xk, ↓EVd, isCall, sevalprocAttr]
   refine TI.here (hJ1_0 _ ⟨v31, ⟨?_, ?_⟩, hO1 _ rfl⟩)
   all_goals try simp only [kk1, e2, e5, e7, e36, xk, ↓EVd, isCall, sevalprocAttr]
   all_goals first | omega | exact lq (by omega) | exact nq (by omega) | rfl | (congr 1; omega)
 obtain ⟨o2, ho2, hm0⟩ := bsE hm0
 simp only [e2, xk, ↓EVd, isCall, sevalprocAttr]
 refine cwp_cx 0 (fun s => (s.T 0 = str a0 ∧ s.T 4 = int 0) ∧ () = o2) ?_ fun J2_0 hJ2_0 => ?_
 · rintro T2 H2 x53 ⟨kk2_0, rfl⟩
   dsimp only [Lq, Nq] at kk2_0
   try dsimp only at hm0
   obtain ⟨v54, h55, hm0⟩ := bsE hm0
   simp only [kk2_0, e2, xk, ↓EVd, isCall, sevalprocAttr]
   refine qc (xfb _ _ h55) rfl ?_
   rcases iteE hm0 with ⟨e57, hm0⟩ | ⟨e57, hm0⟩
   · obtain rfl := Option.some.inj hm0
     simp only [kk2_0, e2, e57, xk, ↓EVd, isCall, sevalprocAttr]
     all_goals first | done | rfl | exact xg (by simp only [CLO]) | exact xj (by simp only [CLO]) (Sub.tup (Subs.cons (Sub.refl _) (Subs.cons (Sub.refl _) (Subs.nil))))
   obtain rfl := Option.some.inj hm0
   simp only [kk2_0, e2, e57, xk, ↓EVd, isCall, sevalprocAttr]
   all_goals first | done | rfl | exact xg (by simp only [CLO]) | exact xj (by simp only [CLO]) (Sub.tup (Subs.cons (Sub.refl _) (Subs.cons (Sub.refl _) (Subs.nil))))
 refine cwp_lp ho2 (fun (_ : Unit) s => s.T 0 = str a0 ∧ s.T 4 = int 0 ∧ s.T 5 = int 0 ∧ s.T 6 = int 0) ?_ ?_
 · refine TI.here ⟨?_, ?_, ?_, ?_⟩
   all_goals try simp only [e2, xk, ↓EVd, isCall, sevalprocAttr]
   all_goals first | omega | exact lq (by omega) | exact nq (by omega) | rfl | (congr 1; omega)
 rintro I2 _ T2 H2 x52 st2 kk2 hm1 hI2 hO2
 dsimp only [Lq, Nq] at kk2
 simp only [x3f] at hm1
 obtain rfl := Option.some.inj hm1
 simp only [kk2, e2, xk, ↓EVd, isCall, sevalprocAttr]
 refine TI.here (hJ2_0 _ ⟨⟨?_, ?_⟩, hO2 _ rfl⟩)
 all_goals try simp only [kk2, e2, xk, ↓EVd, isCall, sevalprocAttr]
 all_goals first | omega | exact lq (by omega) | exact nq (by omega) | rfl | (congr 1; omega)
def xuf (a0 : ByteArray) (a1 : Int) : Int → Option (St (Int) ((Unit) ⊕ (ByteArray × ByteArray × Bool)))
 | v2 => if v2 < (a0.size : Int) then (ixB a0 v2).bind fun v6 => if (v6.toNat : Int) = a1 then (strM a0 none (some v2)).bind fun v11 => (strM a0 (some (wr (v2 + 1))) none).bind fun v14 => some (.out (.inr (v11, v14, true)))
 else some (.nx (wr (v2 + 1)))
 else some (.out (.inl ()))
def xpb (a0 : ByteArray) (a1 : Int) : Option (ByteArray × ByteArray × Bool) := (iter (xuf a0 a1) big 0).bind fun o => (match o with
 | (.inl _) => some (xzc, xzc, false)
 | (.inr r) => some r)
def xje := aI (aI (@EV) (@R3)) (aI (@R9) (@mixed))
set_option maxHeartbeats 2000000 in
theorem xvc (a0 : ByteArray) (a1 : Int) (r : ByteArray × ByteArray × Bool) (hm0 : xpb a0 a1 = some r) : Ok Tryd.prog 32 [str a0, ik .u8 a1] (.tup [str r.1, str r.2.1, bool r.2.2]) := by
 unfold xpb at hm0
 refine okG xps ?_
 unfold xjn
 obtain ⟨o0, ho0, hm0⟩ := bsE hm0
 simp only [xje, ↓EVd, isCall, sevalprocAttr]
 refine cwp_cx 0 (fun s => (.inl ()) = o0) ?_ fun J0_0 hJ0_0 => ?_
 · rintro T0 H0 x3 rfl
   try dsimp only at hm0
   obtain rfl := Option.some.inj hm0
   simp only [xje, ↓EVd, isCall, sevalprocAttr]
   all_goals first | done | rfl | exact xg (by simp only [CLO]) | exact xj (by simp only [CLO]) (Sub.tup (Subs.cons (Sub.refl _) (Subs.cons (Sub.refl _) (Subs.cons (Sub.refl _) (Subs.nil)))))
 refine cwp_lp ho0 (fun v2 s => s.T 0 = str a0 ∧ s.T 1 = ik .u8 a1 ∧ s.T 7 = int v2) ?_ ?_
 · refine TI.here ⟨?_, ?_, ?_⟩
   all_goals try simp only [xje, ↓EVd, isCall, sevalprocAttr]
   all_goals first | omega | exact lq (by omega) | exact nq (by omega) | rfl | (congr 1; omega)
 rintro I0 v2 T0 H0 x1 st0 kk0 hm1 hI0 hO0
 dsimp only [Lq, Nq] at kk0
 simp only [xuf] at hm1
 rcases iteE hm1 with ⟨e5, hm1⟩ | ⟨e5, hm1⟩
 · obtain ⟨v6, e8, hm1⟩ := ixBE hm1
   rcases iteE hm1 with ⟨e10, hm1⟩ | ⟨e10, hm1⟩
   · obtain ⟨v11, h12, hm1⟩ := bsE hm1
     have e13 := show x9d Tryd.prog 9 (str a0) none (some (int v2)) none = some (str v11) from x8r (by kernel_rfl) h12
     obtain ⟨v14, h15, hm1⟩ := bsE hm1
     have e16 := show x9d Tryd.prog 9 (str a0) (some (int (wr (v2 + 1)))) none none = some (str v14) from x8r (by kernel_rfl) h15
     obtain rfl := Option.some.inj hm1
     obtain rfl := hO0 _ rfl
     try dsimp only at hm0
     obtain rfl := Option.some.inj hm0
     simp only [kk0, e5, e8, e10, e13, e16, xje, ↓EVd, isCall, sevalprocAttr]
     all_goals first | done | rfl | exact xg (by simp only [CLO]) | exact xj (by simp only [CLO]) (Sub.tup (Subs.cons (Sub.refl _) (Subs.cons (Sub.refl _) (Subs.cons (Sub.refl _) (Subs.nil)))))
   obtain rfl := Option.some.inj hm1
   simp only [kk0, e5, e8, e10, xje, ↓EVd, isCall, sevalprocAttr]
   refine TI.here (hI0 _ rfl _ ⟨?_, ?_, ?_⟩)
   all_goals try simp only [kk0, e5, e8, e10, xje, ↓EVd, isCall, sevalprocAttr]
   all_goals first | omega | exact lq (by omega) | exact nq (by omega) | rfl | (congr 1; omega)
 obtain rfl := Option.some.inj hm1
 simp only [kk0, e5, xje, ↓EVd, isCall, sevalprocAttr]
 refine TI.here (hJ0_0 _ (hO0 _ rfl))
def xye (a0 : ByteArray) : Int → Option (St (Int) ((Unit) ⊕ (Int)))
 | v2 => if v2 ≤ 23 then (xyc v2).bind fun v6 => if v6 = a0 then some (.out (.inr v2))
 else some (.nx (wr (v2 + 1)))
 else some (.out (.inl ()))
def x7d (a0 : ByteArray) : Option (Int) := (iter (xye a0) big 1).bind fun o => (match o with
 | (.inl _) => some 0
 | (.inr r) => some r)
def x8c := aI (@EV) (aI (@R3) (@R9))
set_option maxHeartbeats 2000000 in
theorem xoj (a0 : ByteArray) (r : Int) (hm0 : x7d a0 = some r) : Ok Tryd.prog 34 [str a0] (int r) := by
 unfold x7d at hm0
 refine okG xaq ?_
 unfold xdl
 obtain ⟨o0, ho0, hm0⟩ := bsE hm0
 simp only [x8c, ↓EVd, isCall, sevalprocAttr]
 refine cwp_cx 0 (fun s => (.inl ()) = o0) ?_ fun J0_0 hJ0_0 => ?_
 · rintro T0 H0 x3 rfl
   try dsimp only at hm0
   obtain rfl := Option.some.inj hm0
   simp only [x8c, ↓EVd, isCall, sevalprocAttr]
   all_goals first | done | rfl
 refine cwp_lp ho0 (fun v2 s => s.T 0 = str a0 ∧ s.T 3 = int v2) ?_ ?_
 · refine TI.here ⟨?_, ?_⟩
   all_goals try simp only [x8c, ↓EVd, isCall, sevalprocAttr]
   all_goals first | omega | exact lq (by omega) | exact nq (by omega) | rfl | (congr 1; omega)
 rintro I0 v2 T0 H0 x1 st0 kk0 hm1 hI0 hO0
 dsimp only [Lq, Nq] at kk0
 simp only [xye] at hm1
 rcases iteE hm1 with ⟨e5, hm1⟩ | ⟨e5, hm1⟩
 · obtain ⟨v6, h7, hm1⟩ := bsE hm1
   simp only [kk0, e5, x8c, ↓EVd, isCall, sevalprocAttr]
   refine qc (xbf _ _ h7) rfl ?_
   rcases iteE hm1 with ⟨e9, hm1⟩ | ⟨e9, hm1⟩
   · obtain rfl := Option.some.inj hm1
     obtain rfl := hO0 _ rfl
     try dsimp only at hm0
     obtain rfl := Option.some.inj hm0
     simp only [kk0, e5, e9, x8c, ↓EVd, isCall, sevalprocAttr]
     all_goals first | done | rfl
   obtain rfl := Option.some.inj hm1
   simp only [kk0, e5, e9, x8c, ↓EVd, isCall, sevalprocAttr]
   refine TI.here (hI0 _ rfl _ ⟨?_, ?_⟩)
   all_goals try simp only [kk0, e5, e9, x8c, ↓EVd, isCall, sevalprocAttr]
   all_goals first | omega | exact lq (by omega) | exact nq (by omega) | rfl | (congr 1; omega)
 obtain rfl := Option.some.inj hm1
 simp only [kk0, e5, x8c, ↓EVd, isCall, sevalprocAttr]
 refine TI.here (hJ0_0 _ (hO0 _ rfl))
def xof (a0 : ByteArray) : Option (Finding × Bool) := (xpb a0 32).bind fun v1 => (xpb v1.2.1 58).bind fun v3 => (xpb v3.2.1 58).bind fun v5 => (xkc v3.1).bind fun v7 => (xkc v5.1).bind fun v9 => (xkc v5.2.1).bind fun v11 => (x7d v1.1).bind fun v13 => if (!v1.2.2) = true then some ((⟨0, 0, 0, 0⟩ : Finding), false)
 else if (!v3.2.2) = true then some ((⟨0, 0, 0, 0⟩ : Finding), false)
 else if (!v5.2.2) = true then some ((⟨0, 0, 0, 0⟩ : Finding), false)
 else if (!v7.2) = true then some ((⟨0, 0, 0, 0⟩ : Finding), false)
 else if (!v9.2) = true then some ((⟨0, 0, 0, 0⟩ : Finding), false)
 else if (!v11.2) = true then some ((⟨0, 0, 0, 0⟩ : Finding), false)
 else if v13 = 0 then some ((⟨0, 0, 0, 0⟩ : Finding), false)
 else (x2c (⟨v13, v7.1, v9.1, v11.1⟩ : Finding)).bind fun v37 => if v37 = a0 then some ((⟨v13, v7.1, v9.1, v11.1⟩ : Finding), true)
 else some ((⟨0, 0, 0, 0⟩ : Finding), false)
def xeb := aI (aI (@EV) (@R3)) (aI (@R9) (aI (@R23) (@DFinding)))
set_option maxHeartbeats 2000000 in
theorem xnr (a0 : ByteArray) (r : Finding × Bool) (hm0 : xof a0 = some r) : Ok Tryd.prog 10 [str a0] (.tup [xd r.1, bool r.2]) := by
 unfold xof at hm0
 refine okG xrr ?_
 unfold x7m
 obtain ⟨v1, h2, hm0⟩ := bsE hm0
 simp only [xeb, ↓EVd, isCall, sevalprocAttr]
 refine qc (xvc _ _ _ h2) rfl ?_
 obtain ⟨v3, h4, hm0⟩ := bsE hm0
 simp only [xeb, ↓EVd, isCall, sevalprocAttr]
 refine qc (xvc _ _ _ h4) rfl ?_
 obtain ⟨v5, h6, hm0⟩ := bsE hm0
 simp only [xeb, ↓EVd, isCall, sevalprocAttr]
 refine qc (xvc _ _ _ h6) rfl ?_
 obtain ⟨v7, h8, hm0⟩ := bsE hm0
 simp only [xeb, ↓EVd, isCall, sevalprocAttr]
 refine qc (xge _ _ h8) rfl ?_
 obtain ⟨v9, h10, hm0⟩ := bsE hm0
 simp only [xeb, ↓EVd, isCall, sevalprocAttr]
 refine qc (xge _ _ h10) rfl ?_
 obtain ⟨v11, h12, hm0⟩ := bsE hm0
 simp only [xeb, ↓EVd, isCall, sevalprocAttr]
 refine qc (xge _ _ h12) rfl ?_
 obtain ⟨v13, h14, hm0⟩ := bsE hm0
 simp only [xeb, ↓EVd, isCall, sevalprocAttr]
 refine qc (xoj _ _ h14) rfl ?_
 have e15 : (.agg [int v13, int v7.1, int v9.1, int v11.1] : AV) = xd (⟨v13, v7.1, v9.1, v11.1⟩ : Finding) := _root_.id rfl
 rcases itbE hm0 with ⟨e17, hm0⟩ | ⟨e17, hm0⟩
 · have e18 : (.agg [int 0, int 0, int 0, int 0] : AV) = xd (⟨0, 0, 0, 0⟩ : Finding) := _root_.id rfl
   obtain rfl := Option.some.inj hm0
   simp only [e15, e17, e18, xeb, ↓EVd, isCall, sevalprocAttr]
   all_goals first | done | rfl | exact xg (by simp only [CLO]) | exact xj (by simp only [CLO]) (Sub.tup (Subs.cons (Sub.refl _) (Subs.cons (Sub.refl _) (Subs.nil))))
 rcases itbE hm0 with ⟨e20, hm0⟩ | ⟨e20, hm0⟩
 · have e21 : (.agg [int 0, int 0, int 0, int 0] : AV) = xd (⟨0, 0, 0, 0⟩ : Finding) := _root_.id rfl
   obtain rfl := Option.some.inj hm0
   simp only [e15, e17, e20, e21, xeb, ↓EVd, isCall, sevalprocAttr]
   all_goals first | done | rfl | exact xg (by simp only [CLO]) | exact xj (by simp only [CLO]) (Sub.tup (Subs.cons (Sub.refl _) (Subs.cons (Sub.refl _) (Subs.nil))))
 rcases itbE hm0 with ⟨e23, hm0⟩ | ⟨e23, hm0⟩
 · have e24 : (.agg [int 0, int 0, int 0, int 0] : AV) = xd (⟨0, 0, 0, 0⟩ : Finding) := _root_.id rfl
   obtain rfl := Option.some.inj hm0
   simp only [e15, e17, e20, e23, e24, xeb, ↓EVd, isCall, sevalprocAttr]
   all_goals first | done | rfl | exact xg (by simp only [CLO]) | exact xj (by simp only [CLO]) (Sub.tup (Subs.cons (Sub.refl _) (Subs.cons (Sub.refl _) (Subs.nil))))
 rcases itbE hm0 with ⟨e26, hm0⟩ | ⟨e26, hm0⟩
 · have e27 : (.agg [int 0, int 0, int 0, int 0] : AV) = xd (⟨0, 0, 0, 0⟩ : Finding) := _root_.id rfl
   obtain rfl := Option.some.inj hm0
   simp only [e15, e17, e20, e23, e26, e27, xeb, ↓EVd, isCall, sevalprocAttr]
   all_goals first | done | rfl | exact xg (by simp only [CLO]) | exact xj (by simp only [CLO]) (Sub.tup (Subs.cons (Sub.refl _) (Subs.cons (Sub.refl _) (Subs.nil))))
 rcases itbE hm0 with ⟨e29, hm0⟩ | ⟨e29, hm0⟩
 · have e30 : (.agg [int 0, int 0, int 0, int 0] : AV) = xd (⟨0, 0, 0, 0⟩ : Finding) := _root_.id rfl
   obtain rfl := Option.some.inj hm0
   simp only [e15, e17, e20, e23, e26, e29, e30, xeb, ↓EVd, isCall, sevalprocAttr]
   all_goals first | done | rfl | exact xg (by simp only [CLO]) | exact xj (by simp only [CLO]) (Sub.tup (Subs.cons (Sub.refl _) (Subs.cons (Sub.refl _) (Subs.nil))))
 rcases itbE hm0 with ⟨e32, hm0⟩ | ⟨e32, hm0⟩
 · have e33 : (.agg [int 0, int 0, int 0, int 0] : AV) = xd (⟨0, 0, 0, 0⟩ : Finding) := _root_.id rfl
   obtain rfl := Option.some.inj hm0
   simp only [e15, e17, e20, e23, e26, e29, e32, e33, xeb, ↓EVd, isCall, sevalprocAttr]
   all_goals first | done | rfl | exact xg (by simp only [CLO]) | exact xj (by simp only [CLO]) (Sub.tup (Subs.cons (Sub.refl _) (Subs.cons (Sub.refl _) (Subs.nil))))
 rcases iteE hm0 with ⟨e35, hm0⟩ | ⟨e35, hm0⟩
 · have e36 : (.agg [int 0, int 0, int 0, int 0] : AV) = xd (⟨0, 0, 0, 0⟩ : Finding) := _root_.id rfl
   obtain rfl := Option.some.inj hm0
   simp only [e15, e17, e20, e23, e26, e29, e32, e35, e36, xeb, ↓EVd, isCall, sevalprocAttr]
   all_goals first | done | rfl | exact xg (by simp only [CLO]) | exact xj (by simp only [CLO]) (Sub.tup (Subs.cons (Sub.refl _) (Subs.cons (Sub.refl _) (Subs.nil))))
 have g42 := And.intro (And.intro (And.intro ((e15)) ((e17))) (And.intro ((e20)) ((e23)))) (And.intro (And.intro ((e26)) ((e29))) (And.intro ((e32)) ((e35))))
 obtain ⟨v37, h38, hm0⟩ := bsE hm0
 simp only [g42, xeb, ↓EVd, isCall, sevalprocAttr]
 refine qc (xig _ _ h38) rfl ?_
 rcases iteE hm0 with ⟨e40, hm0⟩ | ⟨e40, hm0⟩
 · obtain rfl := Option.some.inj hm0
   simp only [g42, e40, xeb, ↓EVd, isCall, sevalprocAttr]
   all_goals first | done | rfl | exact xg (by simp only [CLO]) | exact xj (by simp only [CLO]) (Sub.tup (Subs.cons (Sub.refl _) (Subs.cons (Sub.refl _) (Subs.nil))))
 have e41 : (.agg [int 0, int 0, int 0, int 0] : AV) = xd (⟨0, 0, 0, 0⟩ : Finding) := _root_.id rfl
 obtain rfl := Option.some.inj hm0
 simp only [g42, e40, e41, xeb, ↓EVd, isCall, sevalprocAttr]
 all_goals first | done | rfl | exact xg (by simp only [CLO]) | exact xj (by simp only [CLO]) (Sub.tup (Subs.cons (Sub.refl _) (Subs.cons (Sub.refl _) (Subs.nil))))
def x1d (a0 : ByteArray) (a1 : List Finding) : (ByteArray × Int) → Option (St (ByteArray × Int) (ByteArray))
 | (v2, v3) => if v3 < (a1.length : Int) then (ck (v2.size + a0.size ≤ 9223372036854775807)).bind fun _ => (ck ((v2 ++ a0).size + (ByteArray.mk #[32]).size ≤ 9223372036854775807)).bind fun _ => (ix a1 v3).bind fun v12 => (x2c v12).bind fun v15 => (ck (((v2 ++ a0) ++ (ByteArray.mk #[32])).size + v15.size ≤ 9223372036854775807)).bind fun _ => (ck ((((v2 ++ a0) ++ (ByteArray.mk #[32])) ++ v15).size + (ByteArray.mk #[10]).size ≤ 9223372036854775807)).bind fun _ => some (.nx (((((v2 ++ a0) ++ (ByteArray.mk #[32])) ++ v15) ++ (ByteArray.mk #[10])), (wr (v3 + 1))))
 else some (.out v2)
def xhc (a0 : ByteArray) (a1 : List Finding) : Option (ByteArray) := (iter (x1d a0 a1) big (xzc, 0)).bind fun o => (match o with
 | v5 => some v5)
def x9c := aI (aI (@EV) (aI (@R3) (@R9))) (aI (@R23) (aI (@R30) (@DFinding)))
set_option maxHeartbeats 2000000 in
theorem xxd (a0 : ByteArray) (a1 : List Finding) (r : ByteArray) (hm0 : xhc a0 a1 = some r) : Ok Tryd.prog 42 [str a0, .sl 4 (a1.map xd)] (str r) := by
 unfold xhc at hm0
 refine okG xbq ?_
 unfold xfl
 obtain ⟨o0, ho0, hm0⟩ := bsE hm0
 simp only [x9c, ↓EVd, isCall, sevalprocAttr]
 refine cwp_cx 0 (fun s => ∃ v5 : ByteArray, (s.T 5 = str v5) ∧ v5 = o0) ?_ fun J0_0 hJ0_0 => ?_
 · rintro T0 H0 x4 ⟨v5, kk0_0, rfl⟩
   dsimp only [Lq, Nq] at kk0_0
   try dsimp only at hm0
   obtain rfl := Option.some.inj hm0
   simp only [kk0_0, x9c, ↓EVd, isCall, sevalprocAttr]
   all_goals first | done | rfl
 refine cwp_lp ho0 (fun (v2, v3) s => s.T 0 = str a0 ∧ s.T 1 = .sl 4 (a1.map xd) ∧ s.T 5 = str v2 ∧ s.T 6 = int v3) ?_ ?_
 · refine TI.here ⟨?_, ?_, ?_, ?_⟩
   all_goals try simp only [x9c, ↓EVd, isCall, sevalprocAttr]
   all_goals first | omega | exact lq (by omega) | exact nq (by omega) | rfl | (congr 1; omega)
 rintro I0 ⟨v2, v3⟩ T0 H0 x1 st0 kk0 hm1 hI0 hO0
 dsimp only [Lq, Nq] at kk0
 simp only [x1d] at hm1
 rcases iteE hm1 with ⟨e7, hm1⟩ | ⟨e7, hm1⟩
 · obtain ⟨e9, hm1⟩ := ckE hm1
   obtain ⟨e11, hm1⟩ := ckE hm1
   obtain ⟨v12, e14, hm1⟩ := ixE xd hm1
   obtain ⟨v15, h16, hm1⟩ := bsE hm1
   simp only [kk0, e7, e9, e11, e14, x9c, ↓EVd, isCall, sevalprocAttr]
   refine qc (xig _ _ h16) rfl ?_
   obtain ⟨e18, hm1⟩ := ckE hm1
   obtain ⟨e20, hm1⟩ := ckE hm1
   obtain rfl := Option.some.inj hm1
   simp only [kk0, e7, e9, e11, e14, e18, e20, x9c, ↓EVd, isCall, sevalprocAttr]
   refine TI.here (hI0 _ rfl _ ⟨?_, ?_, ?_, ?_⟩)
   all_goals try simp only [kk0, e7, e9, e11, e14, e18, e20, x9c, ↓EVd, isCall, sevalprocAttr]
   all_goals first | omega | exact lq (by omega) | exact nq (by omega) | rfl | (congr 1; omega)
 obtain rfl := Option.some.inj hm1
 simp only [kk0, e7, x9c, ↓EVd, isCall, sevalprocAttr]
 refine TI.here (hJ0_0 _ ⟨v2, ?_, hO0 _ rfl⟩)
 all_goals try simp only [kk0, e7, x9c, ↓EVd, isCall, sevalprocAttr]
 all_goals first | omega | exact lq (by omega) | exact nq (by omega) | rfl | (congr 1; omega)
def xjf (a0 : Report) : Option (ByteArray) := (xu a0.code).bind fun v1 => (ck ((ByteArray.mk #[99, 111, 100, 101, 32]).size + v1.size ≤ 9223372036854775807)).bind fun _ => (ck (((ByteArray.mk #[99, 111, 100, 101, 32]) ++ v1).size + (ByteArray.mk #[10]).size ≤ 9223372036854775807)).bind fun _ => if a0.replayed = true then (ck ((((ByteArray.mk #[99, 111, 100, 101, 32]) ++ v1) ++ (ByteArray.mk #[10])).size + (ByteArray.mk #[114, 101, 112, 108, 97, 121, 101, 100, 10]).size ≤ 9223372036854775807)).bind fun _ => (ck (((((ByteArray.mk #[99, 111, 100, 101, 32]) ++ v1) ++ (ByteArray.mk #[10])) ++ (ByteArray.mk #[114, 101, 112, 108, 97, 121, 101, 100, 10])).size + (ByteArray.mk #[112, 97, 115, 115, 101, 115, 32]).size ≤ 9223372036854775807)).bind fun _ => (xu a0.passes).bind fun v13 => (ck ((((((ByteArray.mk #[99, 111, 100, 101, 32]) ++ v1) ++ (ByteArray.mk #[10])) ++ (ByteArray.mk #[114, 101, 112, 108, 97, 121, 101, 100, 10])) ++ (ByteArray.mk #[112, 97, 115, 115, 101, 115, 32])).size + v13.size ≤ 9223372036854775807)).bind fun _ => (ck (((((((ByteArray.mk #[99, 111, 100, 101, 32]) ++ v1) ++ (ByteArray.mk #[10])) ++ (ByteArray.mk #[114, 101, 112, 108, 97, 121, 101, 100, 10])) ++ (ByteArray.mk #[112, 97, 115, 115, 101, 115, 32])) ++ v13).size + (ByteArray.mk #[32, 116, 114, 97, 110, 115, 32]).size ≤ 9223372036854775807)).bind fun _ => (xu a0.trans).bind fun v19 => (ck ((((((((ByteArray.mk #[99, 111, 100, 101, 32]) ++ v1) ++ (ByteArray.mk #[10])) ++ (ByteArray.mk #[114, 101, 112, 108, 97, 121, 101, 100, 10])) ++ (ByteArray.mk #[112, 97, 115, 115, 101, 115, 32])) ++ v13) ++ (ByteArray.mk #[32, 116, 114, 97, 110, 115, 32])).size + v19.size ≤ 9223372036854775807)).bind fun _ => (ck (((((((((ByteArray.mk #[99, 111, 100, 101, 32]) ++ v1) ++ (ByteArray.mk #[10])) ++ (ByteArray.mk #[114, 101, 112, 108, 97, 121, 101, 100, 10])) ++ (ByteArray.mk #[112, 97, 115, 115, 101, 115, 32])) ++ v13) ++ (ByteArray.mk #[32, 116, 114, 97, 110, 115, 32])) ++ v19).size + (ByteArray.mk #[32, 119, 114, 105, 116, 101, 115, 32]).size ≤ 9223372036854775807)).bind fun _ => (xu a0.writes).bind fun v25 => (ck ((((((((((ByteArray.mk #[99, 111, 100, 101, 32]) ++ v1) ++ (ByteArray.mk #[10])) ++ (ByteArray.mk #[114, 101, 112, 108, 97, 121, 101, 100, 10])) ++ (ByteArray.mk #[112, 97, 115, 115, 101, 115, 32])) ++ v13) ++ (ByteArray.mk #[32, 116, 114, 97, 110, 115, 32])) ++ v19) ++ (ByteArray.mk #[32, 119, 114, 105, 116, 101, 115, 32])).size + v25.size ≤ 9223372036854775807)).bind fun _ => (ck (((((((((((ByteArray.mk #[99, 111, 100, 101, 32]) ++ v1) ++ (ByteArray.mk #[10])) ++ (ByteArray.mk #[114, 101, 112, 108, 97, 121, 101, 100, 10])) ++ (ByteArray.mk #[112, 97, 115, 115, 101, 115, 32])) ++ v13) ++ (ByteArray.mk #[32, 116, 114, 97, 110, 115, 32])) ++ v19) ++ (ByteArray.mk #[32, 119, 114, 105, 116, 101, 115, 32])) ++ v25).size + (ByteArray.mk #[10]).size ≤ 9223372036854775807)).bind fun _ => (xhc (ByteArray.mk #[102, 111, 117, 110, 100]) a0.found).bind fun v31 => (ck ((((((((((((ByteArray.mk #[99, 111, 100, 101, 32]) ++ v1) ++ (ByteArray.mk #[10])) ++ (ByteArray.mk #[114, 101, 112, 108, 97, 121, 101, 100, 10])) ++ (ByteArray.mk #[112, 97, 115, 115, 101, 115, 32])) ++ v13) ++ (ByteArray.mk #[32, 116, 114, 97, 110, 115, 32])) ++ v19) ++ (ByteArray.mk #[32, 119, 114, 105, 116, 101, 115, 32])) ++ v25) ++ (ByteArray.mk #[10])).size + v31.size ≤ 9223372036854775807)).bind fun _ => (xhc (ByteArray.mk #[100, 111, 110, 101]) a0.done).bind fun v35 => (ck (((((((((((((ByteArray.mk #[99, 111, 100, 101, 32]) ++ v1) ++ (ByteArray.mk #[10])) ++ (ByteArray.mk #[114, 101, 112, 108, 97, 121, 101, 100, 10])) ++ (ByteArray.mk #[112, 97, 115, 115, 101, 115, 32])) ++ v13) ++ (ByteArray.mk #[32, 116, 114, 97, 110, 115, 32])) ++ v19) ++ (ByteArray.mk #[32, 119, 114, 105, 116, 101, 115, 32])) ++ v25) ++ (ByteArray.mk #[10])) ++ v31).size + v35.size ≤ 9223372036854775807)).bind fun _ => (xhc (ByteArray.mk #[108, 101, 102, 116]) a0.left).bind fun v39 => (ck ((((((((((((((ByteArray.mk #[99, 111, 100, 101, 32]) ++ v1) ++ (ByteArray.mk #[10])) ++ (ByteArray.mk #[114, 101, 112, 108, 97, 121, 101, 100, 10])) ++ (ByteArray.mk #[112, 97, 115, 115, 101, 115, 32])) ++ v13) ++ (ByteArray.mk #[32, 116, 114, 97, 110, 115, 32])) ++ v19) ++ (ByteArray.mk #[32, 119, 114, 105, 116, 101, 115, 32])) ++ v25) ++ (ByteArray.mk #[10])) ++ v31) ++ v35).size + v39.size ≤ 9223372036854775807)).bind fun _ => some ((((((((((((((ByteArray.mk #[99, 111, 100, 101, 32]) ++ v1) ++ (ByteArray.mk #[10])) ++ (ByteArray.mk #[114, 101, 112, 108, 97, 121, 101, 100, 10])) ++ (ByteArray.mk #[112, 97, 115, 115, 101, 115, 32])) ++ v13) ++ (ByteArray.mk #[32, 116, 114, 97, 110, 115, 32])) ++ v19) ++ (ByteArray.mk #[32, 119, 114, 105, 116, 101, 115, 32])) ++ v25) ++ (ByteArray.mk #[10])) ++ v31) ++ v35) ++ v39)
 else (ck ((((ByteArray.mk #[99, 111, 100, 101, 32]) ++ v1) ++ (ByteArray.mk #[10])).size + (ByteArray.mk #[112, 97, 115, 115, 101, 115, 32]).size ≤ 9223372036854775807)).bind fun _ => (xu a0.passes).bind fun v45 => (ck (((((ByteArray.mk #[99, 111, 100, 101, 32]) ++ v1) ++ (ByteArray.mk #[10])) ++ (ByteArray.mk #[112, 97, 115, 115, 101, 115, 32])).size + v45.size ≤ 9223372036854775807)).bind fun _ => (ck ((((((ByteArray.mk #[99, 111, 100, 101, 32]) ++ v1) ++ (ByteArray.mk #[10])) ++ (ByteArray.mk #[112, 97, 115, 115, 101, 115, 32])) ++ v45).size + (ByteArray.mk #[32, 116, 114, 97, 110, 115, 32]).size ≤ 9223372036854775807)).bind fun _ => (xu a0.trans).bind fun v51 => (ck (((((((ByteArray.mk #[99, 111, 100, 101, 32]) ++ v1) ++ (ByteArray.mk #[10])) ++ (ByteArray.mk #[112, 97, 115, 115, 101, 115, 32])) ++ v45) ++ (ByteArray.mk #[32, 116, 114, 97, 110, 115, 32])).size + v51.size ≤ 9223372036854775807)).bind fun _ => (ck ((((((((ByteArray.mk #[99, 111, 100, 101, 32]) ++ v1) ++ (ByteArray.mk #[10])) ++ (ByteArray.mk #[112, 97, 115, 115, 101, 115, 32])) ++ v45) ++ (ByteArray.mk #[32, 116, 114, 97, 110, 115, 32])) ++ v51).size + (ByteArray.mk #[32, 119, 114, 105, 116, 101, 115, 32]).size ≤ 9223372036854775807)).bind fun _ => (xu a0.writes).bind fun v57 => (ck (((((((((ByteArray.mk #[99, 111, 100, 101, 32]) ++ v1) ++ (ByteArray.mk #[10])) ++ (ByteArray.mk #[112, 97, 115, 115, 101, 115, 32])) ++ v45) ++ (ByteArray.mk #[32, 116, 114, 97, 110, 115, 32])) ++ v51) ++ (ByteArray.mk #[32, 119, 114, 105, 116, 101, 115, 32])).size + v57.size ≤ 9223372036854775807)).bind fun _ => (ck ((((((((((ByteArray.mk #[99, 111, 100, 101, 32]) ++ v1) ++ (ByteArray.mk #[10])) ++ (ByteArray.mk #[112, 97, 115, 115, 101, 115, 32])) ++ v45) ++ (ByteArray.mk #[32, 116, 114, 97, 110, 115, 32])) ++ v51) ++ (ByteArray.mk #[32, 119, 114, 105, 116, 101, 115, 32])) ++ v57).size + (ByteArray.mk #[10]).size ≤ 9223372036854775807)).bind fun _ => (xhc (ByteArray.mk #[102, 111, 117, 110, 100]) a0.found).bind fun v63 => (ck (((((((((((ByteArray.mk #[99, 111, 100, 101, 32]) ++ v1) ++ (ByteArray.mk #[10])) ++ (ByteArray.mk #[112, 97, 115, 115, 101, 115, 32])) ++ v45) ++ (ByteArray.mk #[32, 116, 114, 97, 110, 115, 32])) ++ v51) ++ (ByteArray.mk #[32, 119, 114, 105, 116, 101, 115, 32])) ++ v57) ++ (ByteArray.mk #[10])).size + v63.size ≤ 9223372036854775807)).bind fun _ => (xhc (ByteArray.mk #[100, 111, 110, 101]) a0.done).bind fun v67 => (ck ((((((((((((ByteArray.mk #[99, 111, 100, 101, 32]) ++ v1) ++ (ByteArray.mk #[10])) ++ (ByteArray.mk #[112, 97, 115, 115, 101, 115, 32])) ++ v45) ++ (ByteArray.mk #[32, 116, 114, 97, 110, 115, 32])) ++ v51) ++ (ByteArray.mk #[32, 119, 114, 105, 116, 101, 115, 32])) ++ v57) ++ (ByteArray.mk #[10])) ++ v63).size + v67.size ≤ 9223372036854775807)).bind fun _ => (xhc (ByteArray.mk #[108, 101, 102, 116]) a0.left).bind fun v71 => (ck (((((((((((((ByteArray.mk #[99, 111, 100, 101, 32]) ++ v1) ++ (ByteArray.mk #[10])) ++ (ByteArray.mk #[112, 97, 115, 115, 101, 115, 32])) ++ v45) ++ (ByteArray.mk #[32, 116, 114, 97, 110, 115, 32])) ++ v51) ++ (ByteArray.mk #[32, 119, 114, 105, 116, 101, 115, 32])) ++ v57) ++ (ByteArray.mk #[10])) ++ v63) ++ v67).size + v71.size ≤ 9223372036854775807)).bind fun _ => some (((((((((((((ByteArray.mk #[99, 111, 100, 101, 32]) ++ v1) ++ (ByteArray.mk #[10])) ++ (ByteArray.mk #[112, 97, 115, 115, 101, 115, 32])) ++ v45) ++ (ByteArray.mk #[32, 116, 114, 97, 110, 115, 32])) ++ v51) ++ (ByteArray.mk #[32, 119, 114, 105, 116, 101, 115, 32])) ++ v57) ++ (ByteArray.mk #[10])) ++ v63) ++ v67) ++ v71)
def xob := aI (aI (aI (@EV) (@R3)) (aI (@R4) (aI (@R9) (@R23)))) (aI (aI (@R30) (@R32)) (aI (@DFinding) (aI (@DReport) (@mixed))))
set_option maxHeartbeats 2000000 in
theorem xhr (a0 : Report) (r : ByteArray) (hm0 : xjf a0 = some r) : Ok Tryd.prog 16 [xgb a0] (str r) := by
 unfold xjf at hm0
 refine okG xjr ?_
 unfold xfm
 obtain ⟨v1, h2, hm0⟩ := bsE hm0
 simp only [xob, ↓EVd, isCall, sevalprocAttr]
 refine qc (xfb _ _ h2) rfl ?_
 obtain ⟨e4, hm0⟩ := ckE hm0
 obtain ⟨e6, hm0⟩ := ckE hm0
 rcases itbE hm0 with ⟨e8, hm0⟩ | ⟨e8, hm0⟩
 · obtain ⟨e10, hm0⟩ := ckE hm0
   obtain ⟨e12, hm0⟩ := ckE hm0
   obtain ⟨v13, h14, hm0⟩ := bsE hm0
   simp only [e4, e6, e8, e10, e12, xob, ↓EVd, isCall, sevalprocAttr]
   refine qd (xfb _ _ h14) rfl ?_
   obtain ⟨e16, hm0⟩ := ckE hm0
   obtain ⟨e18, hm0⟩ := ckE hm0
   obtain ⟨v19, h20, hm0⟩ := bsE hm0
   simp only [e4, e6, e8, e10, e12, e16, e18, xob, ↓EVd, isCall, sevalprocAttr]
   refine qd (xfb _ _ h20) rfl ?_
   obtain ⟨e22, hm0⟩ := ckE hm0
   obtain ⟨e24, hm0⟩ := ckE hm0
   have g75 := And.intro (And.intro (And.intro ((e4)) ((e6))) (And.intro ((e8)) ((e10)))) (And.intro (And.intro ((e12)) ((e16))) (And.intro ((e18)) (And.intro ((e22)) ((e24)))))
   obtain ⟨v25, h26, hm0⟩ := bsE hm0
   simp only [g75, xob, ↓EVd, isCall, sevalprocAttr]
   refine qd (xfb _ _ h26) rfl ?_
   obtain ⟨e28, hm0⟩ := ckE hm0
   obtain ⟨e30, hm0⟩ := ckE hm0
   obtain ⟨v31, h32, hm0⟩ := bsE hm0
   simp only [g75, e28, e30, xob, ↓EVd, isCall, sevalprocAttr]
   refine qd (xxd _ _ _ h32) rfl ?_
   obtain ⟨e34, hm0⟩ := ckE hm0
   obtain ⟨v35, h36, hm0⟩ := bsE hm0
   simp only [g75, e28, e30, e34, xob, ↓EVd, isCall, sevalprocAttr]
   refine qd (xxd _ _ _ h36) rfl ?_
   obtain ⟨e38, hm0⟩ := ckE hm0
   obtain ⟨v39, h40, hm0⟩ := bsE hm0
   simp only [g75, e28, e30, e34, e38, xob, ↓EVd, isCall, sevalprocAttr]
   refine qd (xxd _ _ _ h40) rfl ?_
   obtain ⟨e42, hm0⟩ := ckE hm0
   obtain rfl := Option.some.inj hm0
   simp only [g75, e28, e30, e34, e38, e42, xob, ↓EVd, isCall, sevalprocAttr]
   all_goals first | done | rfl
 obtain ⟨e44, hm0⟩ := ckE hm0
 obtain ⟨v45, h46, hm0⟩ := bsE hm0
 simp only [e4, e6, e8, e44, xob, ↓EVd, isCall, sevalprocAttr]
 refine qd (xfb _ _ h46) rfl ?_
 obtain ⟨e48, hm0⟩ := ckE hm0
 obtain ⟨e50, hm0⟩ := ckE hm0
 obtain ⟨v51, h52, hm0⟩ := bsE hm0
 simp only [e4, e6, e8, e44, e48, e50, xob, ↓EVd, isCall, sevalprocAttr]
 refine qd (xfb _ _ h52) rfl ?_
 obtain ⟨e54, hm0⟩ := ckE hm0
 obtain ⟨e56, hm0⟩ := ckE hm0
 have g76 := And.intro (And.intro (And.intro ((e4)) ((e6))) (And.intro ((e8)) ((e44)))) (And.intro (And.intro ((e48)) ((e50))) (And.intro ((e54)) ((e56))))
 obtain ⟨v57, h58, hm0⟩ := bsE hm0
 simp only [g76, xob, ↓EVd, isCall, sevalprocAttr]
 refine qd (xfb _ _ h58) rfl ?_
 obtain ⟨e60, hm0⟩ := ckE hm0
 obtain ⟨e62, hm0⟩ := ckE hm0
 obtain ⟨v63, h64, hm0⟩ := bsE hm0
 simp only [g76, e60, e62, xob, ↓EVd, isCall, sevalprocAttr]
 refine qd (xxd _ _ _ h64) rfl ?_
 obtain ⟨e66, hm0⟩ := ckE hm0
 obtain ⟨v67, h68, hm0⟩ := bsE hm0
 simp only [g76, e60, e62, e66, xob, ↓EVd, isCall, sevalprocAttr]
 refine qd (xxd _ _ _ h68) rfl ?_
 obtain ⟨e70, hm0⟩ := ckE hm0
 obtain ⟨v71, h72, hm0⟩ := bsE hm0
 simp only [g76, e60, e62, e66, e70, xob, ↓EVd, isCall, sevalprocAttr]
 refine qd (xxd _ _ _ h72) rfl ?_
 obtain ⟨e74, hm0⟩ := ckE hm0
 obtain rfl := Option.some.inj hm0
 simp only [g76, e60, e62, e66, e70, e74, xob, ↓EVd, isCall, sevalprocAttr]
 all_goals first | done | rfl
end Go.Proofs.YtjmnoaoeediodaaDoor.AL

/- Plain laws of chapter 37: the document's numbers, cuts and names. -/
set_option linter.all false
namespace Go.Proofs.YtjmnoaoeediodaaDoor.AL
open Go Go.Proofs Go.Lib
theorem xyi (n : Int) : xyc n = some (bB (wordL n)) := by
  unfold xyc
  by_cases h1 : n < 1
  · rw [if_pos h1, xng (.inl h1)]; rfl
  · rw [if_neg h1]
    by_cases h2 : 23 < n
    · rw [if_pos h2, xng (.inr h2)]; rfl
    · rw [if_neg h2]
      have := of_fin (p := fun n => (x6f.bind fun v5 => (ix v5 n).bind fun v7 => some v7) = some (bB (wordL n))) (by decide +kernel) (n := n) (by omega) (by omega)
      exact this
theorem x1o (n : Int) : x0d n = some (bB (wordQ n)) := by
  unfold x0d
  rw [xyi]
  simp only [Option.bind_some, c0, bB_iff]
  unfold wordQ
  by_cases h : wordL n = []
  · rw [if_pos h, if_pos h]; rfl
  · rw [if_neg h, if_neg h]
theorem wB_dg {d : Nat} (h : d < 10) : wB (wr (48 + (d : Int))) = UInt8.ofNat (48 + d) := by
  have : ∀ d : Fin 10, wB (wr (48 + (d.val : Int))) = UInt8.ofNat (48 + d.val) := by decide +kernel
  exact this ⟨d, h⟩
def dgs (u : Nat) : List UInt8 := if u = 0 then [] else decDigits u
theorem xkz {u : Nat} (hu : 0 < u) (s : List UInt8) : dgs (u / 10) ++ UInt8.ofNat (48 + u % 10) :: s = dgs u ++ s := by
  have := xl2 hu s
  unfold dgs
  rw [this, if_neg (by omega)]
theorem x3y {u : Nat} (hu : 0 < u) {v : Int} (hv : v = (u : Int) ∨ v = -(u : Int)) (hi : i64 v) {s : List UInt8} (hs : s.length ≤ 100) :
    ∃ v', x0c (v, bB s) = some (.nx (v', bB (UInt8.ofNat (48 + u % 10) :: s))) ∧ (v' = ((u / 10 : Nat) : Int) ∨ v' = -((u / 10 : Nat) : Int)) ∧ i64 v' := by
  obtain ⟨i0, i1⟩ := hi
  have hd : u % 10 < 10 := Nat.mod_lt _ (by decide)
  have e10 : (10 : Int) = ((10 : Nat) : Int) := rfl
  have t1 : ((u : Int)).tmod 10 = ((u % 10 : Nat) : Int) := by rw [e10, ← Int.ofNat_tmod]
  have t2 : ((u : Int)).tdiv 10 = ((u / 10 : Nat) : Int) := by rw [e10, ← Int.ofNat_tdiv]
  simp only [x0c]
  rw [if_neg (by omega)]
  have hone : ∀ b : UInt8, x6c ([b] : List UInt8) = bB [b] := fun b => rfl
  rcases hv with rfl | rfl
  · have hw : wr (((u / 10 : Nat) : Int)) = ((u / 10 : Nat) : Int) := wr_in (by omega) (by omega)
    rw [t1, t2, if_neg (by omega), wB_dg hd, hone, hw]
    rw [ckY (by rw [xh, xh]; simp; omega)]
    simp only [Option.bind_some, bB_app, List.singleton_append]
    exact ⟨_, rfl, .inl rfl, by constructor <;> omega⟩
  · have n1 : (-(u : Int)).tmod 10 = -((u % 10 : Nat) : Int) := by rw [Int.neg_tmod, t1]
    have n2 : (-(u : Int)).tdiv 10 = -((u / 10 : Nat) : Int) := by rw [Int.neg_tdiv, t2]
    have hw : wr (-((u / 10 : Nat) : Int)) = -((u / 10 : Nat) : Int) := wr_in (by omega) (by omega)
    rw [n1, n2]
    by_cases h0 : u % 10 = 0
    · rw [h0, if_neg (by omega), show -((0 : Nat) : Int) = ((0 : Nat) : Int) from rfl, wB_dg (by decide), hone, hw]
      rw [ckY (by rw [xh, xh]; simp; omega)]
      simp only [Option.bind_some, bB_app, List.singleton_append]
      exact ⟨_, rfl, .inr rfl, by constructor <;> omega⟩
    · have hneg : wr (0 - -((u % 10 : Nat) : Int)) = ((u % 10 : Nat) : Int) := by rw [wr_in (by omega) (by omega)]; omega
      rw [if_pos (by omega), hneg, wB_dg hd, hone, hw]
      rw [ckY (by rw [xh, xh]; simp; omega)]
      simp only [Option.bind_some, bB_app, List.singleton_append]
      exact ⟨_, rfl, .inr rfl, by constructor <;> omega⟩
theorem xxr (s : ByteArray) : x0c (0, s) = some (.out s) := by simp [x0c]
theorem xqq : itoa 0 = [48] := by
  unfold itoa
  rw [if_neg (by decide)]
  exact decDigits_one (i := 0) (by decide)
theorem x2z : ∀ (d u k : Nat) (v : Int) (s : List UInt8), u < 10 ^ d → d + 1 ≤ k → (v = (u : Int) ∨ v = -(u : Int)) → i64 v → s.length + d ≤ 100 → iter x0c k (v, bB s) = some (bB (dgs u ++ s)) := by
  intro d
  induction d with
  | zero =>
    intro u k v s hu hk hv hi hs
    obtain ⟨k, rfl⟩ : ∃ j, k = j + 1 := ⟨k - 1, by omega⟩
    have h0 : u = 0 := by simpa using hu
    subst h0
    have hv0 : v = 0 := by omega
    subst hv0
    rw [xt, xxr]
    rfl
  | succ d ih =>
    intro u k v s hu hk hv hi hs
    obtain ⟨k, rfl⟩ : ∃ j, k = j + 1 := ⟨k - 1, by omega⟩
    by_cases h0 : u = 0
    · subst h0
      have hv0 : v = 0 := by omega
      subst hv0
      rw [xt, xxr]
      rfl
    · obtain ⟨v', e1, e2, e3⟩ := x3y (Nat.pos_of_ne_zero h0) hv hi (s := s) (by omega)
      rw [xt, e1]
      simp only [Option.bind_some]
      rw [ih (u / 10) k v' _ (by rw [Nat.pow_succ] at hu; omega) (by omega) e2 e3 (by simp; omega), xkz (Nat.pos_of_ne_zero h0)]
theorem xoc {v : Int} (h : i64 v) : xu v = some (bB (itoa v)) := by
  obtain ⟨h0, h1⟩ := h
  have hb : xbh = x0c := rfl
  unfold xu
  by_cases hz : v = 0
  · subst hz
    rw [if_pos rfl, xqq]
    rfl
  · rw [if_neg hz, hb, c0]
    have hl := x2z 19 v.natAbs big v [] (by omega) (by rw [big_eq]; omega) (by omega) ⟨h0, h1⟩ (by simp)
    rw [hl]
    simp only [Option.bind_some, List.append_nil]
    have hd : dgs v.natAbs = decDigits v.natAbs := by unfold dgs; rw [if_neg (by omega)]
    rw [hd]
    have hlen : (decDigits v.natAbs).length ≤ 21 := by
      have := xdb (v := v) ⟨h0, h1⟩
      unfold itoa at this
      split at this
      · simp at this; omega
      · have e : v.toNat = v.natAbs := by omega
        rw [e] at this
        exact this
    by_cases hn : v < 0
    · rw [if_pos hn, ckY (by rw [xh]; show 1 + _ ≤ _; omega)]
      simp only [Option.bind_some]
      have : ByteArray.mk #[45] = bB [45] := rfl
      rw [this, bB_app]
      unfold itoa
      rw [if_pos hn]
      rfl
    · rw [if_neg hn]
      unfold itoa
      rw [if_neg hn]
      have e : v.toNat = v.natAbs := by omega
      rw [e]
theorem x9f {f : Finding} (h1 : i64 f.layer) (h2 : i64 f.ino) (h3 : i64 f.slot) : x2c f = some (bB (findL f)) := by
  unfold x2c
  have l1 := xdb h1
  have l2 := xdb h2
  have l3 := xdb h3
  have l0 := xhh f.clause
  rw [x1o, xoc h1, xoc h2, xoc h3]
  simp only [Option.bind_some, c0, c32, c58, bB_app, xh, List.length_append, List.length_cons, List.length_nil]
  repeat (rw [ckY (by omega)]; simp only [Option.bind_some])
  unfold findL placeL
  simp
end Go.Proofs.YtjmnoaoeediodaaDoor.AL

/- Plain laws of chapter 37: a text that is read, by the document. -/
set_option linter.all false
namespace Go.Proofs.YtjmnoaoeediodaaDoor.AL
open Go Go.Proofs Go.Lib
theorem ixB_l {l : List UInt8} {i : Nat} (h : i < l.length) : ixB (bB l) (i : Int) = some l[i] := by
  unfold ixB
  rw [if_pos (by omega), Int.toNat_natCast]
  have : (bB l)[i]? = (bB l).data[i]? := rfl
  have hs : i < (bB l).size := by rw [xh]; exact h
  rw [getElem?_pos (bB l) i hs]
  rfl
def cutR (s : List UInt8) (c : UInt8) : List UInt8 × List UInt8 × Bool := if (cut s [c]).2.2 = true then cut s [c] else ([], [], false)
theorem xrd {c : UInt8} {x : List UInt8} (r : List UInt8) (h : c ∉ x) : cutR (x ++ c :: r) c = (x, r, true) := by
  unfold cutR
  rw [xpi r h]
  rfl
theorem xhj {c : UInt8} {x : List UInt8} (h : c ∉ x) : cutR x c = ([], [], false) := by
  unfold cutR
  rw [x8z h]
  rfl
theorem xrs (l : List UInt8) (i : Nat) (h : i ≤ l.length) : (bB l).extract 0 i = bB (l.take i) := by
  apply ByteArray.ext
  simp [bB, ByteArray.data_extract]
theorem xts (l : List UInt8) (i : Nat) : (bB l).extract i l.length = bB (l.drop i) := by
  apply ByteArray.ext
  simp [bB, ByteArray.data_extract]
  exact List.take_of_length_le (by simp)
theorem x8d {s : List UInt8} (hs : s.length ≤ 100000) (c : UInt8) : xpb (bB s) (c.toNat : Int) = some (bB (cutR s c).1, bB (cutR s c).2.1, (cutR s c).2.2) := by
  unfold xpb
  obtain ⟨r, h1, h2⟩ := xyh (B := xuf (bB s) (c.toNat : Int)) (R := fun r => (r = .inl () ∧ c ∉ s) ∨ ∃ i : Nat, ∃ h : i < s.length, s[i] = c ∧ (∀ j (hj : j < s.length), j < i → s[j] ≠ c) ∧ r = .inr (bB (s.take i), bB (s.drop (i + 1)), true))
    (fun i t => t = (i : Int) ∧ i ≤ s.length ∧ ∀ j (hj : j < s.length), j < i → s[j] ≠ c) s.length (by
    rintro i t ⟨rfl, hi, hq⟩
    refine ⟨hi, ?_⟩
    simp only [xuf]
    have hsz : (((bB s).size : Nat) : Int) = (s.length : Int) := by rw [xh]
    rw [hsz]
    by_cases hlt : i < s.length
    · rw [if_pos (by omega), ixB_l hlt]
      simp only [Option.bind_some]
      by_cases he : s[i] = c
      · rw [if_pos (by rw [he])]
        have e1 : strM (bB s) none (some (i : Int)) = some (bB (s.take i)) := by
          unfold strM
          simp only [Option.getD_none, Option.getD_some]
          rw [if_pos ⟨by omega, by omega, by rw [hsz]; omega⟩]
          have := xrs s i (by omega)
          simpa using this
        have e2 : strM (bB s) (some (wr ((i : Int) + 1))) none = some (bB (s.drop (i + 1))) := by
          have hw : wr ((i : Int) + 1) = ((i + 1 : Nat) : Int) := by rw [wr_in (by omega) (by omega)]; omega
          unfold strM
          rw [hw]
          simp only [Option.getD_none, Option.getD_some]
          rw [if_pos ⟨by omega, by rw [hsz]; omega, by omega⟩]
          have := xts s (i + 1)
          rw [Int.toNat_natCast, Int.toNat_natCast, xh, this]
        rw [e1, e2]
        exact .inr ⟨_, rfl, .inr ⟨i, hlt, he, hq, rfl⟩⟩
      · rw [if_neg (fun e => he (UInt8.toNat_inj.1 (by omega))), wr_suc (by omega)]
        refine .inl ⟨_, rfl, rfl, by omega, fun j hj hji => ?_⟩
        by_cases e : j = i
        · subst e; exact he
        · exact hq j hj (by omega)
    · rw [if_neg (by omega)]
      refine .inr ⟨_, rfl, .inl ⟨rfl, fun hm => ?_⟩⟩
      obtain ⟨j, hj, e⟩ := List.getElem_of_mem hm
      exact hq j hj (by omega) e) big 0 0 ⟨rfl, by omega, fun j hj h => by omega⟩ (by rw [big_eq]; omega)
  rw [h1]
  simp only [Option.bind_some]
  rcases h2 with ⟨rfl, h2⟩ | ⟨i, hi, he, hq, rfl⟩
  · rw [xhj h2]; rfl
  · have hsp : s = s.take i ++ c :: s.drop (i + 1) := by
      have := List.drop_eq_getElem_cons hi
      rw [he] at this
      rw [← this]
      exact (List.take_append_drop i s).symm
    have hfree : c ∉ s.take i := by
      intro hm
      obtain ⟨j, hj, e⟩ := List.getElem_of_mem hm
      simp only [List.length_take] at hj
      rw [List.getElem_take] at e
      exact hq j (by omega) (by omega) e
    have := xrd (s.drop (i + 1)) hfree
    rw [← hsp] at this
    rw [this]
theorem xtn (w : List UInt8) : x7d (bB w) = some (numL w) := by
  unfold x7d
  obtain ⟨r, h1, h2⟩ := xyh (B := xye (bB w)) (R := fun r => (r = .inl () ∧ ∀ n : Int, 1 ≤ n → n ≤ 23 → wordL n ≠ w) ∨ ∃ n : Int, 1 ≤ n ∧ n ≤ 23 ∧ wordL n = w ∧ r = .inr n)
    (fun i t => t = (i : Int) + 1 ∧ i ≤ 23 ∧ ∀ n : Int, 1 ≤ n → n ≤ (i : Int) → wordL n ≠ w) 23 (by
    rintro i t ⟨rfl, hi, hq⟩
    refine ⟨hi, ?_⟩
    simp only [xye]
    by_cases hlt : i < 23
    · rw [if_pos (by omega), xyi]
      simp only [Option.bind_some, bB_iff]
      by_cases he : wordL ((i : Int) + 1) = w
      · rw [if_pos he]
        exact .inr ⟨_, rfl, .inr ⟨_, by omega, by omega, he, rfl⟩⟩
      · rw [if_neg he]
        have hw : wr ((i : Int) + 1 + 1) = ((i + 1 : Nat) : Int) + 1 := by rw [wr_in (by omega) (by omega)]; omega
        rw [hw]
        refine .inl ⟨_, rfl, rfl, by omega, fun n h0 h1 => ?_⟩
        by_cases e : n = (i : Int) + 1
        · rw [e]; exact he
        · exact hq n h0 (by omega)
    · rw [if_neg (by omega)]
      exact .inr ⟨_, rfl, .inl ⟨rfl, fun n h0 h1 => hq n h0 (by omega)⟩⟩) big 0 1 ⟨rfl, by omega, fun n h0 h1 => by omega⟩ (by rw [big_eq]; omega)
  rw [h1]
  simp only [Option.bind_some]
  rcases h2 with ⟨rfl, h2⟩ | ⟨n, h3, h4, h5, rfl⟩
  · have : numL w = 0 := by
      by_cases h : numL w = 0
      · exact h
      · obtain ⟨a, b, c⟩ := xui h
        exact absurd c (h2 _ a b)
    rw [this]
  · rw [← h5, xuh h3 h4]
def numR (s : List UInt8) : Int × Bool := match atoiAll s with
  | .ok v => if itoa v = s then (v, true) else (0, false)
  | _ => (0, false)
theorem xmf {v : Int} (h : i64 v) : numR (itoa v) = (v, true) := by
  unfold numR
  rw [xgj h.1 h.2]
  simp only [if_true]
theorem x0k {s : List UInt8} (h : ∀ v, i64 v → itoa v ≠ s) : numR s = (0, false) := by
  unfold numR
  split
  · rename_i v hv
    rw [if_neg (h v (atoiAll_bounds hv))]
  · rfl
theorem xzj {s : List UInt8} (h : (numR s).2 = true) : i64 (numR s).1 ∧ itoa (numR s).1 = s := by
  by_cases hx : ∃ v, i64 v ∧ itoa v = s
  · obtain ⟨v, hv, rfl⟩ := hx
    rw [xmf hv]
    exact ⟨hv, rfl⟩
  · rw [x0k (fun v hv e => hx ⟨v, hv, e⟩)] at h
    cases h
def valD (a : Nat) (l : List UInt8) : Nat := l.foldl (fun a c => a * 10 + (c.toNat - 48)) a
theorem xjk (a : Nat) (l r : List UInt8) : valD a (l ++ r) = valD (valD a l) r := by unfold valD; rw [List.foldl_append]
theorem xdu : ∀ (l : List UInt8) (a : Nat), a ≤ valD a l
  | [], a => Nat.le_refl _
  | c :: l, a => by
    have := xdu l (a * 10 + (c.toNat - 48))
    show a ≤ valD (a * 10 + (c.toNat - 48)) l
    omega
theorem xvq (l : List UInt8) (i : Nat) : valD 0 (l.take i) ≤ valD 0 l := by
  conv => rhs; rw [← List.take_append_drop i l, xjk]
  exact xdu _ _
theorem x1r : ∀ u : Nat, valD 0 (decDigits u) = u := by
  intro u
  induction u using Nat.strongRecOn with
  | _ u ih =>
    rw [decDigits]
    split
    · rename_i h
      show 0 * 10 + ((UInt8.ofNat (48 + u)).toNat - 48) = u
      rw [dgt h]
      omega
    · rename_i h
      rw [xjk, ih (u / 10) (by omega)]
      show u / 10 * 10 + ((UInt8.ofNat (48 + u % 10)).toNat - 48) = u
      rw [dgt (by omega)]
      omega
theorem xgs (c : UInt8) : wr (IntKind.i64.wrap (c.toNat : Int) - 48) = (c.toNat : Int) - 48 := by
  have h := c.toNat_lt
  have e1 : IntKind.i64.wrap (c.toNat : Int) = (c.toNat : Int) := wr_in (by omega) (by omega)
  rw [e1, wr_in (by omega) (by omega)]
theorem xf2 {u : Nat} (hu : u ≤ 9223372036854775807) (hl : (decDigits u).length ≤ 20) : iter (xxb (bB (decDigits u))) big (0, 0) = some (.inl (u : Int)) := by
  have hd := xne u
  have hv := x1r u
  generalize decDigits u = l at hd hl hv ⊢
  have := xlf (B := xxb (bB l)) (fun i (a : Nat) => ((a : Int), (i : Int))) l (fun a c => a * 10 + (c.toNat - 48)) (fun a => .inl (a : Int)) (fun i a => a = valD 0 (l.take i)) (by
    rintro i a hi rfl
    have hb := hd l[i] (List.getElem_mem hi)
    have ht : l.take (i + 1) = l.take i ++ [l[i]] := by rw [List.take_succ, List.getElem?_eq_getElem hi]; rfl
    have hn : valD 0 (l.take (i + 1)) = valD 0 (l.take i) * 10 + (l[i].toNat - 48) := by rw [ht, xjk]; rfl
    have hle := xvq l (i + 1)
    refine ⟨?_, hn.symm⟩
    simp only [xxb]
    rw [if_pos (by rw [xh]; omega), if_pos (by omega), ixB_l hi]
    simp only [Option.bind_some]
    rw [xgs, if_neg (by omega), if_neg (by omega), wr_suc (by omega)]
    have w1 : wr ((valD 0 (l.take i) : Int) * 10) = (valD 0 (l.take i) : Int) * 10 := wr_in (by omega) (by omega)
    rw [w1, wr_in (by omega) (by omega)]
    congr 3
    omega) (by
    intro a _
    simp only [xxb]
    rw [if_neg (by rw [xh]; omega)]) (s0 := 0) rfl (fuel := big) (by rw [big_eq]; omega)
  have e0 : ((0 : Nat) : Int) = 0 := rfl
  rw [e0] at this
  rw [this.1]
  have : l.foldl (fun a c => a * 10 + (c.toNat - 48)) 0 = u := hv
  rw [this]
theorem xr0 {u : Nat} (hu : u ≤ 9223372036854775808) (hl : (decDigits u).length ≤ 20) : iter (xzb (bB (45 :: decDigits u))) big (0, 1) = some (.inl (-(u : Int))) := by
  have hd := xne u
  have hv := x1r u
  generalize decDigits u = l at hd hl hv ⊢
  have := xlf (B := xzb (bB (45 :: l))) (fun i (a : Nat) => (-(a : Int), ((i + 1 : Nat) : Int))) l (fun a c => a * 10 + (c.toNat - 48)) (fun a => .inl (-(a : Int))) (fun i a => a = valD 0 (l.take i)) (by
    rintro i a hi rfl
    have hb := hd l[i] (List.getElem_mem hi)
    have ht : l.take (i + 1) = l.take i ++ [l[i]] := by rw [List.take_succ, List.getElem?_eq_getElem hi]; rfl
    have hn : valD 0 (l.take (i + 1)) = valD 0 (l.take i) * 10 + (l[i].toNat - 48) := by rw [ht, xjk]; rfl
    have hle := xvq l (i + 1)
    refine ⟨?_, hn.symm⟩
    simp only [xzb]
    have hi2 : i + 1 < (45 :: l).length := by simp; omega
    rw [if_pos (by rw [xh]; simp; omega), if_pos (by omega), ixB_l hi2]
    simp only [Option.bind_some, List.getElem_cons_succ]
    rw [xgs, if_neg (by omega), if_neg (by omega), wr_suc (by omega)]
    have w1 : wr (-(valD 0 (l.take i) : Int) * 10) = -(valD 0 (l.take i) : Int) * 10 := wr_in (by omega) (by omega)
    rw [w1, wr_in (by omega) (by omega)]
    congr 3
    omega) (by
    intro a _
    simp only [xzb]
    rw [if_neg (by rw [xh]; simp)]) (s0 := 0) rfl (fuel := big) (by rw [big_eq]; omega)
  have e0 : (-((0 : Nat) : Int), ((0 + 1 : Nat) : Int)) = (0, 1) := rfl
  rw [e0] at this
  rw [this.1]
  have : l.foldl (fun a c => a * 10 + (c.toNat - 48)) 0 = u := hv
  rw [this]
end Go.Proofs.YtjmnoaoeediodaaDoor.AL

/- Plain laws of chapter 37: the finding of a text, by the document. -/
set_option linter.all false
namespace Go.Proofs.YtjmnoaoeediodaaDoor.AL
open Go Go.Proofs Go.Lib
theorem wr_i64 (x : Int) : i64 (wr x) := by
  unfold wr
  simp only [IntKind.wrap, IntKind.signed, IntKind.bits]
  simp
  constructor <;> omega
theorem xfy {s : List UInt8} (hs : s.length ≤ 100000) : ∃ o, iter (xxb (bB s)) big (0, 0) = some o ∧ (o = .inr (0, false) ∨ ∃ n, i64 n ∧ o = .inl n) := by
  refine xyh (B := xxb (bB s)) (R := fun o => o = .inr (0, false) ∨ ∃ n, i64 n ∧ o = .inl n) (fun i t => t.2 = (i : Int) ∧ i ≤ s.length ∧ i64 t.1) s.length ?_ big 0 (0, 0) ⟨rfl, by omega, by decide⟩ (by rw [big_eq]; omega)
  rintro i ⟨n, q⟩ ⟨h1, h2, h3⟩
  simp only at h1 h3
  subst h1
  refine ⟨h2, ?_⟩
  simp only [xxb]
  by_cases hlt : i < s.length
  · rw [if_pos (by rw [xh]; omega)]
    by_cases h24 : (i : Int) < 24
    · rw [if_pos h24, ixB_l hlt]
      simp only [Option.bind_some]
      split
      · exact .inr ⟨_, rfl, .inl rfl⟩
      · split
        · exact .inr ⟨_, rfl, .inl rfl⟩
        · rw [wr_suc (by omega)]
          exact .inl ⟨_, rfl, rfl, by omega, wr_i64 _⟩
    · rw [if_neg h24]
      exact .inr ⟨_, rfl, .inr ⟨n, h3, rfl⟩⟩
  · rw [if_neg (by rw [xh]; omega)]
    exact .inr ⟨_, rfl, .inr ⟨n, h3, rfl⟩⟩
theorem xfz {s : List UInt8} (hs : s.length ≤ 100000) (h0 : 1 ≤ s.length) : ∃ o, iter (xzb (bB s)) big (0, 1) = some o ∧ (o = .inr (0, false) ∨ ∃ n, i64 n ∧ o = .inl n) := by
  refine xyh (B := xzb (bB s)) (R := fun o => o = .inr (0, false) ∨ ∃ n, i64 n ∧ o = .inl n) (fun i t => t.2 = ((i + 1 : Nat) : Int) ∧ i + 1 ≤ s.length ∧ i64 t.1) s.length ?_ big 0 (0, 1) ⟨rfl, by omega, by decide⟩ (by rw [big_eq]; omega)
  rintro i ⟨n, q⟩ ⟨h1, h2, h3⟩
  simp only at h1 h3
  subst h1
  refine ⟨by omega, ?_⟩
  simp only [xzb]
  by_cases hlt : i + 1 < s.length
  · rw [if_pos (by rw [xh]; omega)]
    by_cases h24 : ((i + 1 : Nat) : Int) < 24
    · rw [if_pos h24, ixB_l hlt]
      simp only [Option.bind_some]
      split
      · exact .inr ⟨_, rfl, .inl rfl⟩
      · split
        · exact .inr ⟨_, rfl, .inl rfl⟩
        · rw [wr_suc (by omega)]
          exact .inl ⟨_, rfl, rfl, by omega, wr_i64 _⟩
    · rw [if_neg h24]
      exact .inr ⟨_, rfl, .inr ⟨n, h3, rfl⟩⟩
  · rw [if_neg (by rw [xh]; omega)]
    exact .inr ⟨_, rfl, .inr ⟨n, h3, rfl⟩⟩
theorem dec_le {u : Nat} (h : u ≤ 9223372036854775808) : (decDigits u).length ≤ 20 := by
  rw [decDigits_length]
  have h1 := nDigits_pos u
  by_cases h0 : u = 0
  · subst h0; rw [nDigits_small (by decide)]; decide
  · rcases Nat.lt_or_ge 20 (nDigits u) with hc | hc
    · have := nDigits_unique 18 u
      by_cases hs : 10 ^ 18 ≤ u
      · have := this hs (by omega)
        omega
      · have hl : (itoa (u : Int)).length ≤ 21 := xdb ⟨by omega, by omega⟩
        have : nDigits u ≤ 18 := by
          rcases Nat.lt_or_ge 18 (nDigits u) with hq | hq
          · exfalso
            have key : ∀ (k v : Nat), v < 10 ^ k → 1 ≤ k → nDigits v ≤ k := by
              intro k
              induction k with
              | zero => intro v _ h; omega
              | succ k ih =>
                intro v hv _
                by_cases hv10 : v < 10
                · rw [nDigits_small hv10]; omega
                · rw [nDigits_big hv10]
                  rw [Nat.pow_succ] at hv
                  have hk : 1 ≤ k := by
                    rcases Nat.eq_zero_or_pos k with rfl | hk
                    · simp at hv; omega
                    · exact hk
                  have := ih (v / 10) (by omega) hk
                  omega
            have := key 18 u (by omega) (by decide)
            omega
          · exact hq
        omega
    · exact hc
theorem xnf {s : List UInt8} (hs : s.length ≤ 100000) : xkc (bB s) = some (numR s) := by
  unfold xkc
  cases s with
  | nil =>
    rw [if_neg (by rw [xh]; simp)]
    obtain ⟨k, hk⟩ : ∃ k, big = k + 1 := ⟨big - 1, by rw [big_eq]⟩
    rw [hk, xt]
    simp only [x3f, Option.bind_some]
    rw [xoc (by decide)]
    simp only [Option.bind_some, bB_iff]
    rw [if_neg (xlu 0), x0k (fun v _ => xlu v)]
  | cons c r =>
    have hpos : 0 < (((bB (c :: r)).size : Nat) : Int) := by rw [xh]; simp
    have h0 : ixB (bB (c :: r)) 0 = some c := ixB_l (l := c :: r) (i := 0) (by simp)
    rw [if_pos hpos, h0]
    simp only [Option.bind_some]
    by_cases hx : ∃ v, i64 v ∧ itoa v = c :: r
    · obtain ⟨v, hv, he⟩ := hx
      have hr := xmf hv
      rw [he] at hr
      rw [hr]
      by_cases hn : v < 0
      · have hu : itoa v = 45 :: decDigits v.natAbs := by unfold itoa; rw [if_pos hn]
        have hb := hv.1
        have hl := xr0 (u := v.natAbs) (by omega) (dec_le (by omega))
        rw [← hu, he] at hl
        have hc : c = 45 := by rw [hu] at he; injection he with h1 h2; exact h1.symm
        have ev : -((v.natAbs : Nat) : Int) = v := by omega
        rw [if_pos (by rw [hc]; rfl), hl]
        simp only [Option.bind_some]
        rw [ev, xoc hv, he]
        simp only [Option.bind_some]
        rw [if_pos trivial]
      · have hu : itoa v = decDigits v.toNat := by unfold itoa; rw [if_neg hn]
        have hb := hv.2
        have hl := xf2 (u := v.toNat) (by omega) (dec_le (by omega))
        rw [← hu, he] at hl
        have hc : ¬ ((c.toNat : Nat) : Int) = 45 := by
          have := xne v.toNat c (by rw [← hu, he]; simp)
          omega
        have ev : ((v.toNat : Nat) : Int) = v := by omega
        rw [if_neg hc, hl]
        simp only [Option.bind_some]
        rw [ev, xoc hv, he]
        simp only [Option.bind_some]
        rw [if_pos trivial]
    · have hx' : ∀ v, i64 v → itoa v ≠ c :: r := fun v hv e => hx ⟨v, hv, e⟩
      rw [x0k hx']
      by_cases hc : ((c.toNat : Nat) : Int) = 45
      · rw [if_pos hc]
        obtain ⟨o, h1, h2⟩ := xfz hs (by simp)
        rw [h1]
        simp only [Option.bind_some]
        rcases h2 with rfl | ⟨n, hn, rfl⟩
        · rfl
        · simp only
          rw [xoc hn]
          simp only [Option.bind_some, bB_iff]
          rw [if_neg (hx' n hn)]
      · rw [if_neg hc]
        obtain ⟨o, h1, h2⟩ := xfy hs
        rw [h1]
        simp only [Option.bind_some]
        rcases h2 with rfl | ⟨n, hn, rfl⟩
        · rfl
        · simp only
          rw [xoc hn]
          simp only [Option.bind_some, bB_iff]
          rw [if_neg (hx' n hn)]
theorem xjg (s : List UInt8) (c : UInt8) : (cutR s c).1.length ≤ s.length ∧ (cutR s c).2.1.length ≤ s.length := by
  unfold cutR
  split
  · exact cut_le s [c]
  · simp
theorem xru {s : List UInt8} (hs : s.length ≤ 100000) : xof (bB s) = some (readP s) := by
  unfold xof
  have l1 := xjg s 32
  have l2 := xjg (cutR s 32).2.1 58
  have l3 := xjg (cutR (cutR s 32).2.1 58).2.1 58
  have k32 : ((32 : UInt8).toNat : Int) = 32 := rfl
  have k58 : ((58 : UInt8).toNat : Int) = 58 := rfl
  have q1 := x8d hs 32
  have q2 := x8d (s := (cutR s 32).2.1) (by omega) 58
  have q3 := x8d (s := (cutR (cutR s 32).2.1 58).2.1) (by omega) 58
  rw [k32] at q1
  rw [k58] at q2 q3
  rw [q1]
  simp only [Option.bind_some]
  rw [q2]
  simp only [Option.bind_some]
  rw [q3]
  simp only [Option.bind_some]
  rw [xnf (by omega), xnf (by omega), xnf (by omega), xtn]
  simp only [Option.bind_some]
  rcases x6e s with hz | ⟨f, hf, rfl, hr⟩
  · rw [hz]
    generalize (cutR s 32) = u1 at *
    generalize (cutR u1.2.1 58) = u2 at *
    generalize (cutR u2.2.1 58) = u3 at *
    have na := @xzj u2.1
    have nb := @xzj u3.1
    have nc := @xzj u3.2.1
    generalize numR u2.1 = n1 at *
    generalize numR u3.1 = n2 at *
    generalize numR u3.2.1 = n3 at *
    have hw := @xui u1.1
    generalize numL u1.1 = m at *
    split
    · rfl
    · split
      · rfl
      · split
        · rfl
        · split
          · rfl
          · split
            · rfl
            · split
              · rfl
              · split
                · rfl
                · rename_i a1 a2 a3 h1 h2 h3 h4
                  obtain ⟨w1, w2, w3⟩ := hw h4
                  have e1 := (na (by simpa using h1)).1
                  have e2 := (nb (by simpa using h2)).1
                  have e3 := (nc (by simpa using h3)).1
                  rw [x9f (f := ⟨m, n1.1, n2.1, n3.1⟩) e1 e2 e3]
                  simp only [Option.bind_some, bB_iff]
                  by_cases he : findL ⟨m, n1.1, n2.1, n3.1⟩ = s
                  · have := x8h (f := ⟨m, n1.1, n2.1, n3.1⟩) ⟨w1, w2, e1, e2, e3⟩
                    rw [he, hz] at this
                    exact absurd (congrArg Prod.snd this) (by simp)
                  · rw [if_neg he]
                    rfl
  · rw [hr]
    have hc : cutR (findL f) 32 = (wordQ f.clause, itoa f.layer ++ 58 :: placeL f.ino f.slot, true) := xrd _ (fun hm => (xze _ _ hm).1 rfl)
    have hd : cutR (itoa f.layer ++ 58 :: placeL f.ino f.slot) 58 = (itoa f.layer, placeL f.ino f.slot, true) := xrd _ (fun hm => (xvd _ hm).2.2 rfl)
    have he : cutR (placeL f.ino f.slot) 58 = (itoa f.ino, itoa f.slot, true) := xrd _ (fun hm => (xvd _ hm).2.2 rfl)
    rw [hc]
    simp only
    rw [hd]
    simp only
    rw [he]
    simp only
    rw [xmf hf.layer, xmf hf.ino, xmf hf.slot, xkh hf.c0 hf.c1, xuh hf.c0 hf.c1]
    simp only [Bool.not_true, Bool.false_eq_true, if_false]
    have := hf.c0
    rw [if_neg (by omega)]
    have hfe : (⟨f.clause, f.layer, f.ino, f.slot⟩ : Finding) = f := rfl
    rw [hfe, x9f hf.layer hf.ino hf.slot]
    simp only [Option.bind_some]
    rw [if_pos trivial]
end Go.Proofs.YtjmnoaoeediodaaDoor.AL

/- strings.Builder's methods. -/
set_option linter.all false
namespace Go.Proofs.YtjmnoaoeediodaaDoor.AL
open Go Go.Proofs Go.RowKit
set_option maxHeartbeats 1000000 in
set_option maxRecDepth 100000 in
theorem xpo (T b : Nat) (hl : liesAt Tryd.prog ((Tryd.prog).depth) T (2 / (Tryd.prog).cellsOf T) 0 70 1 = true) (w : World) (h0 : w.cell? ⟨b, 0, none⟩ = some (.pointer none)) (hsh : w.shape? b = some (T, 2)) (hfz : w.frozen? ⟨b, 0, none⟩ = false) :
    Calls Tryd.prog 56 #[.pointer (some ⟨b, 0, none⟩)] w fun e w' => e = .returned (.tuple #[]) ∧ w' = w.setCell ⟨b, 0, none⟩ (.pointer (some ⟨b, 0, none⟩)) := by
  obtain ⟨j, hj, hjs⟩ : ∃ j, (Tryd.prog).info? 70 = some j ∧ j.size = 2 := by
    have h : ((Tryd.prog).info? 70).map (·.size) = some 2 := by kernel_rfl
    exact Option.map_eq_some_iff.1 h
  go_enter Tryd.func56, Tryd.ntmps56
  go_wp2
  rw [Lib.run_to_unsafe (src := 67) w ⟨b, 0, none⟩ (by kernel_rfl) (by kernel_rfl) hj (by rw [hjs]; decide) hsh (Nat.zero_lt_succ 1)]
  simp only [Result.andThen]
  rw [Oper.upon_value]
  go_wp2
  rw [run_callFunc_extern (Tryd.func71) (by kernel_rfl) (by kernel_rfl) (by kernel_rfl) (e := Extern.AbiNoEscape.same) (by kernel_rfl)]
  rw [Lib.run_noEscape]
  simp only [Result.andThen]
  rw [Oper.upon_value]
  go_wp2
  rw [Lib.run_from_unsafe (src := 108) w ⟨b, 0, none⟩ (by kernel_rfl) (by kernel_rfl) hj hsh hl]
  simp only [Result.andThen]
  rw [Oper.upon_value]
  go_wp2
  go_end0
  exact ⟨rfl, rfl⟩
set_option maxHeartbeats 1000000 in
set_option maxRecDepth 100000 in
theorem xyp (b : Nat) (w : World) (h0 : w.cell? ⟨b, 0, none⟩ = some (.pointer (some ⟨b, 0, none⟩))) :
    Calls Tryd.prog 56 #[.pointer (some ⟨b, 0, none⟩)] w fun e w' => e = .returned (.tuple #[]) ∧ w' = w := by
  obtain ⟨j, hj, _⟩ : ∃ j, (Tryd.prog).info? 70 = some j ∧ j.size = 2 := by
    have h : ((Tryd.prog).info? 70).map (·.size) = some 2 := by kernel_rfl
    exact Option.map_eq_some_iff.1 h
  go_enter Tryd.func56, Tryd.ntmps56
  go_wp2
  rw [Lib.run_neq_ptr_same w _ (by kernel_rfl) hj]
  simp only [Result.andThen]
  rw [Oper.upon_value]
  go_wp2
  go_end0
  exact ⟨rfl, rfl⟩
def KeptO (b : Nat) (w w' : World) : Prop := ∀ (k : Nat) (o : Obj), w.heap[k]? = some o → k ≠ b → (∀ cs fr, o ≠ .cells cs 5 fr) → w'.heap[k]? = some o
theorem KeptO.trans {b : Nat} {w w1 w2 : World} (h : KeptO b w w1) (k : KeptO b w1 w2) : KeptO b w w2 := fun j o h1 h2 h3 => k j o (h j o h1 h2 h3) h2 h3
theorem KeptO.set {b : Nat} (w : World) (j : Nat) (v : Value) : KeptO b w (w.setCell ⟨b, j, none⟩ v) := fun k o h1 h2 _ => (Below.heap_setCell w ⟨b, j, none⟩ v k h2).trans h1
theorem KeptO.grown {b : Nat} {w w' : World} {v : Value} (h : w.grownBy w' v.ownBlock) {B n : Nat} {xs : List Value} (ho : w.ownsRowF B 5 1 v n xs) : KeptO b w w' := by
  intro k o h1 _ h3
  have hlt := (Array.getElem?_eq_some_iff.1 h1).1
  refine (h.block k hlt ?_).trans h1
  rintro e
  rcases ho.2 with ⟨rfl, _⟩ | ⟨g, cap, cur, fz, rfl, _, hg, _⟩
  · simp [Value.ownBlock] at e
  · simp [Value.ownBlock] at e
    subst e
    rw [hg] at h1
    injection h1 with h1
    exact h3 cur fz h1.symm
def lies1 (T : Nat) : Prop := liesAt Tryd.prog (Tryd.prog).depth T (2 / (Tryd.prog).cellsOf T) 0 70 1 = true
theorem xut {T : Nat} (hl : lies1 T) (B b : Nat) (bs : List Value) (w : World) (h : Lib.IsBuilderF T 5 B b bs w) :
    Calls Tryd.prog 56 #[.pointer (some ⟨b, 0, none⟩)] w fun e w' => e = .returned (.tuple #[]) ∧ (Lib.BuilderAtF T 5 B b (.pointer (some ⟨b, 0, none⟩)) bs w' ∧ Below B w w' ∧ KeptO b w w') := by
  rcases h with h | h
  · refine (xpo T b hl w h.cell0 h.shape h.frozen0).mono ?_
    rintro e w' ⟨rfl, rfl⟩
    exact ⟨rfl, h.used _, (Below.refl B w).setCell (p := ⟨b, 0, none⟩) h.1 _, KeptO.set w 0 _⟩
  · refine (xyp b w h.cell0).mono ?_
    rintro e w' ⟨rfl, rfl⟩
    exact ⟨rfl, h, Below.refl B _, fun k o h1 _ _ => h1⟩
set_option maxHeartbeats 2000000 in
set_option maxRecDepth 100000 in
theorem xbl {T : Nat} (hl : lies1 T) (hT : T ≠ 5) (B b : Nat) (bs : List Value) (s : ByteArray) (w : World) (h : Lib.IsBuilderF T 5 B b bs w) (hlen : bs.length + s.size ≤ 140737488355328) (hBw : B ≤ w.heap.size) :
    Calls Tryd.prog 39 #[.pointer (some ⟨b, 0, none⟩), .string s] w fun e w' => e = .returned (.tuple #[.int .i64 s.size, .nilIface]) ∧ (Lib.BuilderAtF T 5 B b (.pointer (some ⟨b, 0, none⟩)) (bs ++ Lib.strCells s) w' ∧ Below B w w' ∧ KeptO b w w') := by
  obtain ⟨i0, hi, hz0, hz1, hz2⟩ := info_parts (show ((Tryd.prog).info? 5).map (fun i => (i.zero, i.size, i.bytes)) = some (some (.int .u8 0), 1, 1) by kernel_rfl)
  go_enter Tryd.func39, Tryd.ntmps39
  go_wp2_with (go_at_call 56; refine (xut hl B b bs _ h).mono ?_)
  rintro e w1 ⟨rfl, h1, hb1, hko⟩
  obtain ⟨hB, v, hbk, hown, hne⟩ := h1
  have c0 : w1.cell? ⟨b, 0, none⟩ = some (.pointer (some ⟨b, 0, none⟩)) := by rw [Lib.cell_of_heap hbk]; rfl
  have c1 : w1.cell? ⟨b, 1, none⟩ = some v := by rw [Lib.cell_of_heap hbk]; rfl
  go_wp2_with (at_builtin; refine Lib.wpList_append_own_stringF _ rfl _ _ 68 9 rfl B 5 i0 (by kernel_rfl) (by kernel_rfl) hi hz0 hz1 hz2 _ _ _ rfl hown s rfl ?c3 ?c4 ?c5 ?_)
  case c3 => unfold maxLen; omega
  case c4 => omega
  case c5 => have := hb1.size; omega
  intro v' w2 hown' hgrow _
  have hk2 := KeptO.grown (b := b) hgrow hown
  have hlt : b < w1.heap.size := by
    rcases Nat.lt_or_ge b w1.heap.size with h' | h'
    · exact h'
    · simp [Array.getElem?_eq_none h'] at hbk
  have hb2 : w2.heap[b]? = some (.cells #[.pointer (some ⟨b, 0, none⟩), v] T (0, 0)) := by
    rw [hgrow.block b hlt (fun e => hne e.symm)]
    exact hbk
  have d0 : w2.cell? ⟨b, 0, none⟩ = some (.pointer (some ⟨b, 0, none⟩)) := by rw [Lib.cell_of_heap hb2]; rfl
  have d1 : w2.cell? ⟨b, 1, none⟩ = some v := by rw [Lib.cell_of_heap hb2]; rfl
  have f1 : w2.frozen? ⟨b, 1, none⟩ = false := Lib.frozen_of_heap hb2 1
  obtain ⟨ao, n', cap, rfl⟩ : ∃ ao n' cap, v' = .slice ao n' cap := by
    rcases hown'.2 with ⟨hv, _⟩ | ⟨g, cap, cur, fz, hv, _⟩
    · exact ⟨_, _, _, hv⟩
    · exact ⟨_, _, _, hv⟩
  go_wp2
  go_ret2
  refine ⟨rfl, ?_, ?_, (hko.trans hk2).trans (KeptO.set _ 1 _)⟩
  · exact Lib.BuilderAtF.put (T := T) (e := 5) hB hb2 (bs' := bs ++ Lib.strCells s) (by simpa [Lib.strCells_length] using hown') hT
  · exact (hb1.grown hgrow (by have := hb1.size; omega) (fun k hk => (hown.lt k hk).1)).setCell (p := ⟨b, 1, none⟩) hB _
theorem xmb {T : Nat} (hl : lies1 T) (hT : T ≠ 5) (B b : Nat) (bs : List Value) (s : ByteArray) (w : World) (h : Lib.IsBuilderF T 5 B b bs w) (hlen : bs.length + s.size ≤ 140737488355328) (hBw : B ≤ w.heap.size) :
    Calls Tryd.prog 39 #[.pointer (some ⟨b, 0, none⟩), .string s] w fun e w' => e = .returned (.tuple #[.int .i64 s.size, .nilIface]) ∧ (Lib.BuilderAtF T 5 B b (.pointer (some ⟨b, 0, none⟩)) (bs ++ Lib.strCells s) w' ∧ Below B w w') :=
  (xbl hl hT B b bs s w h hlen hBw).mono fun _ _ ⟨h1, h2, h3, _⟩ => ⟨h1, h2, h3⟩
set_option maxHeartbeats 1000000 in
set_option maxRecDepth 100000 in
theorem xeg {T : Nat} (B b : Nat) (l : List UInt8) (w : World) (h : Lib.IsBuilderF T 5 B b (Lib.byteCells l) w) (h0 : l ≠ []) :
    Calls Tryd.prog 41 #[.pointer (some ⟨b, 0, none⟩)] w fun e w' => e = .returned (.string ⟨l.toArray⟩) ∧ Below B w w' := by
  obtain ⟨p, hp, hAt⟩ : ∃ p, (p = .pointer none ∨ p = .pointer (some ⟨b, 0, none⟩)) ∧ Lib.BuilderAtF T 5 B b p (Lib.byteCells l) w := by
    rcases h with h | h
    · exact ⟨_, .inl rfl, h⟩
    · exact ⟨_, .inr rfl, h⟩
  obtain ⟨hB, v, hbk, hown, hne⟩ := hAt
  have hl0 : l.length ≠ 0 := by simpa using h0
  rw [Lib.byteCells_length] at hown
  obtain ⟨g, cap, cur, fz, rfl, hbg, hg, hfz, hnc, hcm, hcs, htake⟩ : ∃ g cap cur fz, v = .slice (some ⟨g, 0, none⟩) l.length cap ∧ B ≤ g ∧ w.heap[g]? = some (.cells cur 5 fz) ∧ fz.2 ≤ l.length * 1 ∧ l.length ≤ cap ∧ cap ≤ maxLen ∧ cur.size = cap * 1 ∧ cur.toList.take (l.length * 1) = Lib.byteCells l := by
    rcases hown.2 with ⟨_, hz⟩ | ⟨g, cap, cur, fz, hv, r⟩
    · exact absurd hz hl0
    · exact ⟨g, cap, cur, fz, hv, r⟩
  have c1 : w.drew.cell? ⟨b, 1, none⟩ = some (.slice (some ⟨g, 0, none⟩) l.length cap) := by
    have : w.drew.heap[b]? = some (.cells #[p, .slice (some ⟨g, 0, none⟩) l.length cap] T (0, 0)) := hbk
    rw [Lib.cell_of_heap this]; rfl
  have hSD : (Builtin.unsafeSliceData_ #[68] 90 #[.slice (some ⟨g, 0, none⟩) l.length cap]).run Tryd.prog w.drew = .ok (.pointer (some ⟨g, 0, none⟩)) w.drew :=
    Lib.run_unsafeSliceData_row _ _ _ _ _ _ (by omega)
  have hUS : (Builtin.unsafeString_ #[90, 3] 9 #[.pointer (some ⟨g, 0, none⟩), .int .i64 l.length]).run Tryd.prog w.drew = .ok (.string ⟨l.toArray⟩) (w.drew.freeze ⟨g, 0, none⟩ l.length) := by
    refine Lib.run_unsafeString_row w.drew 90 3 9 5 (by kernel_rfl) (by kernel_rfl) g cur.size (by have hg' : w.drew.heap[g]? = some (.cells cur 5 fz) := hg; simp [World.shape?, hg']) l h0 (by omega) (by unfold maxLen at hcm; omega) ?_
    intro j x hx
    have := hown.cells (g := g) rfl j (.int .u8 x.toNat) (by simp [Lib.byteCells, hx])
    exact this
  have m1 : (Tryd.prog).follows Departure.mixedOrders = true := by kernel_rfl
  go_enter Tryd.func41, Tryd.ntmps41
  go_wp2
  go_region_o
  all_goals (go_wp2; go_ret; exact ⟨rfl, Lib.below_freeze (Below.drew (Below.refl B w)) (p := ⟨g, 0, none⟩) hbg _⟩)
end Go.Proofs.YtjmnoaoeediodaaDoor.AL

/- report.Text and script.Text: a strings.Builder is written, in the world. -/
set_option linter.all false
namespace Go.Proofs.YtjmnoaoeediodaaDoor.AL
open Go Go.Proofs Go.RowKit
def FAt (w : World) (B : Nat) (l : List Finding) (v : Value) : Prop := ∃ A cap, v = .slice A l.length cap ∧ ∀ (i : Nat) (f : Finding), l[i]? = some f → ∃ blk o, A = some ⟨blk, o, none⟩ ∧ blk < B ∧ w.cell? ⟨blk, o + i * 4, none⟩ = some (.int .i64 f.clause) ∧ w.cell? ⟨blk, o + i * 4 + 1, none⟩ = some (.int .i64 f.layer) ∧ w.cell? ⟨blk, o + i * 4 + 2, none⟩ = some (.int .i64 f.ino) ∧ w.cell? ⟨blk, o + i * 4 + 3, none⟩ = some (.int .i64 f.slot)
theorem FAt.mono {w w' : World} {B : Nat} {l : List Finding} {v : Value} (h : FAt w B l v) (hb : Below B w w') : FAt w' B l v := by
  obtain ⟨A, cap, rfl, h⟩ := h
  refine ⟨A, cap, rfl, fun i f hf => ?_⟩
  obtain ⟨blk, o, rfl, h1, h2, h3, h4, h5⟩ := h i f hf
  exact ⟨blk, o, rfl, h1, (hb.cell (p := ⟨blk, _, none⟩) h1).trans h2, (hb.cell (p := ⟨blk, _, none⟩) h1).trans h3, (hb.cell (p := ⟨blk, _, none⟩) h1).trans h4, (hb.cell (p := ⟨blk, _, none⟩) h1).trans h5⟩
theorem x3w {f : Finding} (hf : F64 f) (w : World) (hg : GW w) : Calls Tryd.prog 13 #[.agg #[.int .i64 f.clause, .int .i64 f.layer, .int .i64 f.ino, .int .i64 f.slot]] w fun e w' => e = .returned (.string (bB (findL f))) ∧ Below w.heap.size w w' := by
  refine ((xlc f _ (xgf hf)).2 (fun _ => False) w [.agg #[.int .i64 f.clause, .int .i64 f.layer, .int .i64 f.ino, .int .i64 f.slot]] ⟨fun _ h => h.elim, hg⟩ ?_).mono ?_
  · simp only [VReps]
    refine ⟨_, _, ?_, rfl, rfl⟩
    unfold xd
    simp only [VRep, VReps]
    exact ⟨_, ⟨_, _, rfl, ⟨_, _, rfl, ⟨_, _, rfl, ⟨_, _, rfl, rfl, rfl⟩, rfl⟩, rfl⟩, rfl⟩, rfl⟩
  · rintro e w' ⟨v, rfl, hb, hv⟩
    simp only [VRep] at hv
    subst hv
    exact ⟨rfl, hb⟩
theorem xum {T B b : Nat} {bs : List Value} {w w' : World} (h : Lib.IsBuilderF T 5 B b bs w) (hb : Below w.heap.size w w') : Lib.IsBuilderF T 5 B b bs w' := by
  have key : ∀ p, Lib.BuilderAtF T 5 B b p bs w → Lib.BuilderAtF T 5 B b p bs w' := by
    rintro p ⟨h1, v, h2, ⟨h3, h4⟩, h5⟩
    have hlt : ∀ {g : Nat} {o : Obj}, w.heap[g]? = some o → w'.heap[g]? = some o := fun {g o} h => (hb.block g (Array.getElem?_eq_some_iff.1 h).1).trans h
    refine ⟨h1, v, hlt h2, ⟨h3, ?_⟩, h5⟩
    rcases h4 with h4 | ⟨g, cap, cur, fz, e1, e2, e3, e4⟩
    · exact .inl h4
    · exact .inr ⟨g, cap, cur, fz, e1, e2, hlt e3, e4⟩
  rcases h with h | h
  · exact .inl (key _ h)
  · exact .inr (key _ h)
theorem isB_lt {T B b : Nat} {bs : List Value} {w : World} (h : Lib.IsBuilderF T 5 B b bs w) : b < w.heap.size := by
  rcases h with ⟨_, v, h2, _⟩ | ⟨_, v, h2, _⟩ <;> exact (Array.getElem?_eq_some_iff.1 h2).1
theorem xjw {T B b : Nat} {bs : List Value} {w : World} (h : Lib.IsBuilderF T 5 B b bs w) (o : Obj) : Lib.IsBuilderF T 5 B b bs (w.alloc o).drew :=
  xum h (((Below.refl _ w).alloc (Nat.le_refl _) o).drew)
def lineOf (word : List UInt8) (f : Finding) : List UInt8 := word ++ 32 :: (findL f ++ [10])
theorem xdk {f : Finding} (h : F64 f) : (findL f).length ≤ 90 := by
  have l1 := xdb h.layer
  have l2 := xdb h.ino
  have l3 := xdb h.slot
  have l0 := xhh f.clause
  unfold findL placeL
  simp
  omega
theorem xbs {word : List UInt8} {l : List Finding} (h : ∀ f ∈ l, F64 f) (hw : word.length ≤ 10) : ∀ k, ((l.take k).map (lineOf word)).flatten.length ≤ k * 110 := by
  intro k
  have key : ∀ l : List Finding, (∀ f ∈ l, F64 f) → (l.map (lineOf word)).flatten.length ≤ l.length * 110 := by
    intro l
    induction l with
    | nil => intro _; simp
    | cons f l ih =>
      intro h
      have h1 := xdk (h f (by simp))
      have h2 := ih fun g hg => h g (by simp [hg])
      have hlo : (lineOf word f).length ≤ 110 := by
        unfold lineOf
        simp only [List.length_append, List.length_cons, List.length_nil]
        omega
      simp only [List.map_cons, List.flatten_cons, List.length_append, List.length_cons]
      omega
  have := key (l.take k) (fun f hf => h f (List.mem_of_mem_take hf))
  have h2 : (l.take k).length ≤ k := by simp; omega
  exact Nat.le_trans this (Nat.mul_le_mul_right _ h2)
theorem cells4 {w : World} {k T : Nat} {fr : Nat × Nat} {a b c d : Value} (h : w.heap[k]? = some (.cells #[a, b, c, d] T fr)) : w.cell? ⟨k, 0, none⟩ = some a ∧ w.cell? ⟨k, 1, none⟩ = some b ∧ w.cell? ⟨k, 2, none⟩ = some c ∧ w.cell? ⟨k, 3, none⟩ = some d := by
  refine ⟨?_, ?_, ?_, ?_⟩ <;> (rw [Lib.cell_of_heap h]; rfl)
theorem lies70 : lies1 70 := by unfold lies1; kernel_rfl
theorem lies72 : lies1 72 := by unfold lies1; kernel_rfl
set_option maxHeartbeats 2000000 in
set_option maxRecDepth 100000 in
theorem list_w (B b : Nat) (t0 : List UInt8) (word : List UInt8) (l : List Finding) (lv : Value) (w : World) (hw : word.length ≤ 10) (hl : l.length ≤ 60) (h64 : ∀ f ∈ l, F64 f) (hB : gN ≤ B) (hg : GW w) (hBw : B ≤ w.heap.size)
    (hF : FAt w B l lv) (ht0 : t0.length ≤ 100000) (h : Lib.IsBuilderF 72 5 B b (Lib.byteCells t0) w) :
    Calls Tryd.prog 40 #[.pointer (some ⟨b, 0, none⟩), .string (bB word), lv] w fun e w' => e = .returned (.tuple #[]) ∧ Lib.IsBuilderF 72 5 B b (Lib.byteCells (t0 ++ (l.map (lineOf word)).flatten)) w' ∧ Below B w w' := by
  obtain ⟨A, cap, rfl, hcells⟩ := hF
  go_enter Tryd.func40, Tryd.ntmps40
  go_wp2
  go_loopw [10] (fun i wr => ∃ k : Nat, i = .int .i64 k ∧ k ≤ l.length ∧ Lib.IsBuilderF 72 5 B b (Lib.byteCells (t0 ++ ((l.take k).map (lineOf word)).flatten)) wr ∧ Below B w wr) (fun i _ => l.length - (intOf i).toNat)
  case atStart => exact ⟨0, rfl, by omega, by simpa using h, Below.refl _ _⟩
  case round =>
    obtain ⟨k, rfl, hk, hbld, hbel⟩ := hrel
    by_cases hlt : k < l.length
    · obtain ⟨blk, o, rfl, hblk, c0, c1, c2, c3⟩ := hcells k l[k] (List.getElem?_eq_getElem hlt)
      have d0 : wr.cell? ⟨blk, o + k * 4, none⟩ = some (.int .i64 l[k].clause) := (hbel.cell (p := ⟨blk, _, none⟩) hblk).trans c0
      have d1 : wr.cell? ⟨blk, o + k * 4 + 1, none⟩ = some (.int .i64 l[k].layer) := (hbel.cell (p := ⟨blk, _, none⟩) hblk).trans c1
      have d2 : wr.cell? ⟨blk, o + k * 4 + 2, none⟩ = some (.int .i64 l[k].ino) := (hbel.cell (p := ⟨blk, _, none⟩) hblk).trans c2
      have d3 : wr.cell? ⟨blk, o + k * 4 + 3, none⟩ = some (.int .i64 l[k].slot) := (hbel.cell (p := ⟨blk, _, none⟩) hblk).trans c3
      have m1 : (Tryd.prog).follows Departure.mixedOrders = true := by kernel_rfl
      have hfl : F64 l[k] := h64 _ (List.getElem_mem hlt)
      have hfz := xdk hfl
      have hs1 : ¬ 9223372036854775807 < (bB word).size + 1 := by rw [xh]; omega
      have hs2 : ¬ 9223372036854775807 < (bB word).size + 1 + (bB (findL l[k])).size := by rw [xh, xh]; omega
      have hs3 : ¬ 9223372036854775807 < (bB word).size + 1 + (bB (findL l[k])).size + 1 := by rw [xh, xh]; omega
      have hln := xbs h64 hw k
      have hTl : ((l.take k).map (lineOf word)).flatten.length ≤ 60 * 110 := Nat.le_trans hln (Nat.mul_le_mul_right _ (by omega))
      have hsz : (Lib.byteCells (t0 ++ ((l.take k).map (lineOf word)).flatten)).length + (bB word ++ ByteArray.mk #[32] ++ bB (findL l[k]) ++ ByteArray.mk #[10]).size ≤ 140737488355328 := by
        rw [Lib.byteCells_length, c32, c10, bB_app, bB_app, bB_app, xh]
        simp only [List.length_append, List.length_cons, List.length_nil]
        omega
      have hgA : ∀ o, GW (wr.alloc o).drew := fun o => (hg.mono hbel (by omega)).mono (((Below.refl _ wr).alloc (Nat.le_refl _) o).drew) (by have := hg.size; have := hbel.size; unfold gN at *; omega)
      have hbA : ∀ o, Lib.IsBuilderF 72 5 B b (Lib.byteCells (t0 ++ ((l.take k).map (lineOf word)).flatten)) (wr.alloc o).drew := fun o => xjw hbld o
      go_wp2
      have hbx : (wr.alloc (.cells #[.int .i64 l[k].clause, .int .i64 l[k].layer, .int .i64 l[k].ino, .int .i64 l[k].slot] 23)).drew.heap[wr.heap.size]? = some (.cells #[.int .i64 l[k].clause, .int .i64 l[k].layer, .int .i64 l[k].ino, .int .i64 l[k].slot] 23 (0, 0)) := by
        show (wr.heap.push _)[wr.heap.size]? = _
        rw [Array.getElem?_push_size]
      have hnb : wr.heap.size ≠ b := by
        have : b < wr.heap.size := isB_lt hbld
        omega
      go_region_held3 (fun w' => w'.cell? ⟨wr.heap.size, 0, none⟩ = some (.int .i64 l[k].clause) ∧ w'.cell? ⟨wr.heap.size, 1, none⟩ = some (.int .i64 l[k].layer) ∧ w'.cell? ⟨wr.heap.size, 2, none⟩ = some (.int .i64 l[k].ino) ∧ w'.cell? ⟨wr.heap.size, 3, none⟩ = some (.int .i64 l[k].slot)) (exact cells4 hbx) ((first
        | (go_at_call 13; refine (x3w hfl _ (hgA _)).mono ?_; rintro e w1 ⟨rfl, hb1⟩; have hbx := (hb1.block wr.heap.size (by simp)).trans hbx)
        | (go_at_call 39; refine (xbl lies72 (by decide) B b _ _ _ (xum (hbA _) hb1) hsz (by have := hbel.size; have := hb1.size; simp at this; omega)).mono ?_; rintro e w2 ⟨rfl, hw2, hb2, hko⟩; have hbx := hko _ _ hbx hnb (by intro cs fr h; cases h))))
      clear hs1 hs2 hs3 hsz
      go_wp2
      go_roundw
      case rel =>
        refine ⟨k + 1, by simp, by omega, .inr ?_, ?_⟩
        · have e1 : ((l.take (k + 1)).map (lineOf word)).flatten = ((l.take k).map (lineOf word)).flatten ++ lineOf word l[k] := by
            rw [List.take_succ, List.getElem?_eq_getElem hlt, List.map_append, List.flatten_append]
            simp
          have e2 : Lib.byteCells (t0 ++ ((l.take (k + 1)).map (lineOf word)).flatten) = Lib.byteCells (t0 ++ ((l.take k).map (lineOf word)).flatten) ++ Lib.strCells (bB word ++ ByteArray.mk #[32] ++ bB (findL l[k]) ++ ByteArray.mk #[10]) := by
            rw [e1, c32, c10, bB_app, bB_app, bB_app]
            unfold lineOf
            rw [Lib.strCells_eq, xni]
            simp [Lib.byteCells]
          rw [e2]
          exact hw2
        · exact ((hbel.trans ((((Below.refl _ wr).alloc (Nat.le_refl _) _).drew).mono (by have := hbel.size; omega))).trans (hb1.mono (by have := hbel.size; simp; omega))).trans hb2
      case measure => simp [intOf]; omega
    · have hkl : k = l.length := by omega
      subst hkl
      rw [List.take_length] at hbld
      go_wp2
      go_end0
      exact ⟨rfl, hbld, hbel⟩
end Go.Proofs.YtjmnoaoeediodaaDoor.AL

/- report.Text, in the world. -/
set_option linter.all false
namespace Go.Proofs.YtjmnoaoeediodaaDoor.AL
open Go Go.Proofs Go.RowKit
theorem itoa_w {n : Int} (hn : i64 n) (w : World) (hg : GW w) : Calls Tryd.prog 36 #[.int .i64 n] w fun e w' => e = .returned (.string (bB (Lib.itoa n))) ∧ Below w.heap.size w w' := by
  refine ((xvb n _ (itoaM hn)).2 (fun _ => False) w [.int .i64 n] ⟨fun _ h => h.elim, hg⟩ ?_).mono ?_
  · simp only [VReps]
    exact ⟨_, _, by simp only [VRep], rfl, rfl⟩
  · rintro e w' ⟨v, rfl, hb, hv⟩
    simp only [VRep] at hv
    subst hv
    exact ⟨rfl, hb⟩
structure ST (T B b : Nat) (wA : World) (t : List UInt8) (wi : World) : Prop where
  gw : GW wi
  bld : Lib.IsBuilderF T 5 B b (Lib.byteCells t) wi
  bel : Below B wA wi
  sz : B ≤ wi.heap.size
theorem ST.call {T B b : Nat} {wA : World} {t : List UInt8} {wi wj : World} (h : ST T B b wA t wi) (hb : Below wi.heap.size wi wj) : ST T B b wA t wj :=
  ⟨h.gw.mono hb h.gw.size, xum h.bld hb, h.bel.trans (hb.mono h.sz), Nat.le_trans h.sz hb.size⟩
theorem ST.write {T B b : Nat} {wA : World} {t : List UInt8} {wi wj : World} {s : List UInt8} (h : ST T B b wA t wi) (hB : gN ≤ B) (hw : Lib.BuilderAtF T 5 B b (.pointer (some ⟨b, 0, none⟩)) (Lib.byteCells t ++ Lib.strCells (bB s)) wj) (hb : Below B wi wj) : ST T B b wA (t ++ s) wj := by
  refine ⟨h.gw.mono hb hB, .inr ?_, h.bel.trans hb, Nat.le_trans h.sz hb.size⟩
  have e : Lib.byteCells (t ++ s) = Lib.byteCells t ++ Lib.strCells (bB s) := by
    rw [Lib.strCells_eq, xni]
    simp [Lib.byteCells]
  rw [e]
  exact hw
theorem ST.list {B b : Nat} {wA : World} {t t' : List UInt8} {wi wj : World} (h : ST 72 B b wA t wi) (hB : gN ≤ B) (hw : Lib.IsBuilderF 72 5 B b (Lib.byteCells t') wj) (hb : Below B wi wj) : ST 72 B b wA t' wj :=
  ⟨h.gw.mono hb hB, hw, h.bel.trans hb, Nat.le_trans h.sz hb.size⟩
theorem ST.start {T : Nat} {w : World} (hg : GW w) (o : Obj) : ST T (w.heap.size + 1) (w.heap.size + 1) (w.alloc o) [] ((w.alloc o).alloc (.cells #[.pointer none, .slice none 0 0] T (0, 0))) := by
  have b1 : Below w.heap.size w ((w.alloc o).alloc (.cells #[.pointer none, .slice none 0 0] T (0, 0))) := ((Below.refl _ w).alloc (Nat.le_refl _) o).alloc (by simp) _
  refine ⟨hg.mono b1 hg.size, .inl ⟨Nat.le_refl _, .slice none 0 0, ?_, ⟨rfl, .inl ⟨rfl, rfl⟩⟩, by simp [Value.ownBlock]⟩, (Below.refl _ _).alloc (by simp) _, by simp⟩
  show ((w.heap.push o).push _)[w.heap.size + 1]? = _
  have : w.heap.size + 1 = (w.heap.push o).size := by simp
  rw [this, Array.getElem?_push_size]
theorem ST.cell {T B b : Nat} {wA : World} {t : List UInt8} {wi : World} (h : ST T B b wA t wi) {blk j : Nat} {v : Value} (hlt : blk < B) (hc : wA.cell? ⟨blk, j, none⟩ = some v) : wi.cell? ⟨blk, j, none⟩ = some v :=
  (h.bel.cell (p := ⟨blk, j, none⟩) hlt).trans hc
theorem ST.fat {T B b : Nat} {w wA : World} {t : List UInt8} {wi : World} (h : ST T B b wA t wi) (hA : Below w.heap.size w wA) (hB : w.heap.size ≤ B) {l : List Finding} {v : Value} (hf : FAt w w.heap.size l v) : FAt wi B l v := by
  have hb : Below w.heap.size w wi := hA.trans (h.bel.mono hB)
  obtain ⟨A, cap, rfl, h⟩ := hf.mono hb
  refine ⟨A, cap, rfl, fun i f hf => ?_⟩
  obtain ⟨blk, o, rfl, h1, h2⟩ := h i f hf
  exact ⟨blk, o, rfl, Nat.lt_of_lt_of_le h1 hB, h2⟩
def codeL (n : Int) : List UInt8 := [99, 111, 100, 101, 32] ++ (Lib.itoa n ++ [10])
def replL (b : Bool) : List UInt8 := if b = true then [114, 101, 112, 108, 97, 121, 101, 100, 10] else []
def countL (r : Report) : List UInt8 := [112, 97, 115, 115, 101, 115, 32] ++ (Lib.itoa r.passes ++ ([32, 116, 114, 97, 110, 115, 32] ++ (Lib.itoa r.trans ++ ([32, 119, 114, 105, 116, 101, 115, 32] ++ (Lib.itoa r.writes ++ [10])))))
def linesL (word : List UInt8) (l : List Finding) : List UInt8 := (l.map (lineOf word)).flatten
def textR (r : Report) : List UInt8 := codeL r.code ++ replL r.replayed ++ countL r ++ linesL [102, 111, 117, 110, 100] r.found ++ linesL [100, 111, 110, 101] r.done ++ linesL [108, 101, 102, 116] r.left
structure FR (r : Report) : Prop where
  code : i64 r.code
  passes : i64 r.passes
  trans : i64 r.trans
  writes : i64 r.writes
  found : r.found.length ≤ 60 ∧ ∀ f ∈ r.found, F64 f
  done : r.done.length ≤ 60 ∧ ∀ f ∈ r.done, F64 f
  left : r.left.length ≤ 60 ∧ ∀ f ∈ r.left, F64 f
theorem xgg {n : Int} (h : i64 n) : (codeL n).length ≤ 40 := by
  have := xdb h
  unfold codeL; simp only [List.length_append, List.length_cons, List.length_nil]; omega
theorem x4i {r : Report} (h : FR r) : (countL r).length ≤ 140 := by
  have z2 := xdb h.passes
  have z3 := xdb h.trans
  have z4 := xdb h.writes
  unfold countL; simp only [List.length_append, List.length_cons, List.length_nil]; omega
theorem xmg {word : List UInt8} {l : List Finding} (h : l.length ≤ 60 ∧ ∀ f ∈ l, F64 f) (hw : word.length ≤ 10) : ((l.map (lineOf word)).flatten).length ≤ 6600 := by
  have := xbs h.2 hw l.length
  rw [List.take_length] at this
  have := h.1
  omega
theorem len_1 {r : Report} (hr : FR r) {R : List UInt8} (hR : R.length ≤ 9) : ([] ++ codeL r.code ++ R ++ countL r).length ≤ 100000 := by
  have := xgg hr.code; have := x4i hr
  simp only [List.length_append, List.length_nil]; omega
theorem len_2 {r : Report} (hr : FR r) {R : List UInt8} (hR : R.length ≤ 9) : ([] ++ codeL r.code ++ R ++ countL r ++ (r.found.map (lineOf [102, 111, 117, 110, 100])).flatten).length ≤ 100000 := by
  have := len_1 hr hR; have := xgg hr.code; have := x4i hr; have := xmg (word := [102, 111, 117, 110, 100]) hr.found (by decide)
  rw [List.length_append]
  simp only [List.length_append, List.length_nil] at *; omega
theorem len_3 {r : Report} (hr : FR r) {R : List UInt8} (hR : R.length ≤ 9) : ([] ++ codeL r.code ++ R ++ countL r ++ (r.found.map (lineOf [102, 111, 117, 110, 100])).flatten ++ (r.done.map (lineOf [100, 111, 110, 101])).flatten).length ≤ 100000 := by
  have := xgg hr.code; have := x4i hr; have := xmg (word := [102, 111, 117, 110, 100]) hr.found (by decide); have := xmg (word := [100, 111, 110, 101]) hr.done (by decide)
  simp only [List.length_append, List.length_nil]; omega
theorem countB (r : Report) : ByteArray.mk #[112, 97, 115, 115, 101, 115, 32] ++ bB (Lib.itoa r.passes) ++ ByteArray.mk #[32, 116, 114, 97, 110, 115, 32] ++ bB (Lib.itoa r.trans) ++ ByteArray.mk #[32, 119, 114, 105, 116, 101, 115, 32] ++ bB (Lib.itoa r.writes) ++ ByteArray.mk #[10] = bB (countL r) := by
  rw [show ByteArray.mk #[112, 97, 115, 115, 101, 115, 32] = bB [112, 97, 115, 115, 101, 115, 32] from rfl, show ByteArray.mk #[32, 116, 114, 97, 110, 115, 32] = bB [32, 116, 114, 97, 110, 115, 32] from rfl, show ByteArray.mk #[32, 119, 114, 105, 116, 101, 115, 32] = bB [32, 119, 114, 105, 116, 101, 115, 32] from rfl, c10, bB_app, bB_app, bB_app, bB_app, bB_app, bB_app]
  unfold countL
  simp
theorem codeB (n : Int) : ByteArray.mk #[99, 111, 100, 101, 32] ++ bB (Lib.itoa n) ++ ByteArray.mk #[10] = bB (codeL n) := by
  rw [show ByteArray.mk #[99, 111, 100, 101, 32] = bB [99, 111, 100, 101, 32] from rfl, c10, bB_app, bB_app]
  unfold codeL
  simp
theorem xhq {r : Report} (h : FR r) : (¬ 9223372036854775807 < 7 + (bB (Lib.itoa r.passes)).size) ∧ (¬ 9223372036854775807 < 7 + (bB (Lib.itoa r.passes)).size + 7) ∧ (¬ 9223372036854775807 < 7 + (bB (Lib.itoa r.passes)).size + 7 + (bB (Lib.itoa r.trans)).size) ∧
    (¬ 9223372036854775807 < 7 + (bB (Lib.itoa r.passes)).size + 7 + (bB (Lib.itoa r.trans)).size + 8) ∧ (¬ 9223372036854775807 < 7 + (bB (Lib.itoa r.passes)).size + 7 + (bB (Lib.itoa r.trans)).size + 8 + (bB (Lib.itoa r.writes)).size) ∧
    (¬ 9223372036854775807 < 7 + (bB (Lib.itoa r.passes)).size + 7 + (bB (Lib.itoa r.trans)).size + 8 + (bB (Lib.itoa r.writes)).size + 1) := by
  have z2 := xdb h.passes
  have z3 := xdb h.trans
  have z4 := xdb h.writes
  simp only [xh]
  omega
theorem xus {r : Report} (h : FR r) {t : List UInt8} (ht : t.length ≤ 100) : (Lib.byteCells t).length + (ByteArray.mk #[112, 97, 115, 115, 101, 115, 32] ++ bB (Lib.itoa r.passes) ++ ByteArray.mk #[32, 116, 114, 97, 110, 115, 32] ++ bB (Lib.itoa r.trans) ++ ByteArray.mk #[32, 119, 114, 105, 116, 101, 115, 32] ++ bB (Lib.itoa r.writes) ++ ByteArray.mk #[10]).size ≤ 140737488355328 := by
  rw [countB, xh, Lib.byteCells_length]
  have := x4i h
  omega
set_option maxHeartbeats 4000000 in
set_option maxRecDepth 100000 in
theorem text_w {r : Report} (hr : FR r) (fv dv lv : Value) (w : World) (hg : GW w) (hf : FAt w w.heap.size r.found fv) (hd : FAt w w.heap.size r.done dv) (hl : FAt w w.heap.size r.left lv) :
    Calls Tryd.prog 15 #[.agg #[.int .i64 r.code, fv, dv, lv, .int .i64 r.passes, .int .i64 r.trans, .int .i64 r.writes, .bool r.replayed]] w fun e w' => e = .returned (.string (bB (textR r))) ∧ Below w.heap.size w w' := by
  have s1 : ¬ 9223372036854775807 < 5 + (bB (Lib.itoa r.code)).size := by have z1 := xdb hr.code; rw [xh]; omega
  have s2 : ¬ 9223372036854775807 < 5 + (bB (Lib.itoa r.code)).size + 1 := by have z1 := xdb hr.code; rw [xh]; omega
  have hgN : gN ≤ w.heap.size + 1 := by have := hg.size; omega
  have hlt : w.heap.size < w.heap.size + 1 := Nat.lt_succ_self _
  have m1 : (Tryd.prog).follows Departure.mixedOrders = true := by kernel_rfl
  have hsz1 : (Lib.byteCells []).length + (ByteArray.mk #[99, 111, 100, 101, 32] ++ bB (Lib.itoa r.code) ++ ByteArray.mk #[10]).size ≤ 140737488355328 := by
    have := xgg hr.code
    rw [codeB, xh]
    simp only [Lib.byteCells, List.map_nil, List.length_nil]
    omega
  have hcell : ∀ (j : Nat) (v : Value), (#[.int .i64 r.code, fv, dv, lv, .int .i64 r.passes, .int .i64 r.trans, .int .i64 r.writes, .bool r.replayed] : Array Value)[j]? = some v → (w.alloc (.cells #[.int .i64 r.code, fv, dv, lv, .int .i64 r.passes, .int .i64 r.trans, .int .i64 r.writes, .bool r.replayed] 32)).cell? ⟨w.heap.size, j, none⟩ = some v := by
    intro j v hv
    have : (w.alloc (.cells #[.int .i64 r.code, fv, dv, lv, .int .i64 r.passes, .int .i64 r.trans, .int .i64 r.writes, .bool r.replayed] 32)).heap[w.heap.size]? = some (.cells #[.int .i64 r.code, fv, dv, lv, .int .i64 r.passes, .int .i64 r.trans, .int .i64 r.writes, .bool r.replayed] 32 (0, 0)) := by
      show (w.heap.push _)[w.heap.size]? = _
      rw [Array.getElem?_push_size]
    rw [Lib.cell_of_heap this]
    exact hv
  have hc1 := hcell 1 _ rfl
  have hc2 := hcell 2 _ rfl
  have hc3 := hcell 3 _ rfl
  have hc4 := hcell 4 _ rfl
  have hc5 := hcell 5 _ rfl
  have hc6 := hcell 6 _ rfl
  have hc7 := hcell 7 _ rfl
  have hA : Below w.heap.size w (w.alloc (.cells #[.int .i64 r.code, fv, dv, lv, .int .i64 r.passes, .int .i64 r.trans, .int .i64 r.writes, .bool r.replayed] 32)) := (Below.refl _ w).alloc (Nat.le_refl _) _
  clear hcell
  go_enter Tryd.func15, Tryd.ntmps15
  go_wp2_with (go_at_call 36; refine (itoa_w hr.code _ ?g1).mono ?_)
  case g1 => exact (ST.start hg _).gw
  rintro e w1 ⟨rfl, hb1⟩
  have h1 := (ST.start (T := 72) hg _).call hb1
  clear hb1
  generalize (w.alloc (.cells #[.int .i64 r.code, fv, dv, lv, .int .i64 r.passes, .int .i64 r.trans, .int .i64 r.writes, .bool r.replayed] 32)) = wA at h1 hc1 hc2 hc3 hc4 hc5 hc6 hc7 hA
  go_wp2_with (go_at_call 39; refine (xmb lies72 (by decide) (w.heap.size + 1) (w.heap.size + 1) _ _ _ h1.bld hsz1 h1.sz).mono ?_)
  rintro e w2 ⟨rfl, hw2, hb2⟩
  rw [codeB] at hw2
  have h2 := h1.write hgN hw2 hb2
  have q7 := h2.cell hlt hc7
  clear s1 s2 hsz1 hw2 hb2 h1
  by_cases hrp : r.replayed = true
  · rw [hrp] at q7
    have hszR : (Lib.byteCells ([] ++ codeL r.code)).length + (ByteArray.mk #[114, 101, 112, 108, 97, 121, 101, 100, 10]).size ≤ 140737488355328 := by
      have := xgg hr.code
      rw [Lib.byteCells_length]
      show ([] ++ codeL r.code).length + 9 ≤ _
      simp only [List.nil_append]
      omega
    go_wp2_with (go_at_call 39; refine (xmb lies72 (by decide) (w.heap.size + 1) (w.heap.size + 1) _ _ _ h2.bld hszR h2.sz).mono ?_)
    rintro e w3 ⟨rfl, hw3, hb3⟩
    have h3 := h2.write (s := [114, 101, 112, 108, 97, 121, 101, 100, 10]) hgN hw3 hb3
    clear hszR hw3 hb3 q7 h2
    have q4 := h3.cell hlt hc4
    have q5 := h3.cell hlt hc5
    have q6 := h3.cell hlt hc6
    have hST := h3.call ((Below.refl _ w3).drew)
    have hszC := xus hr (t := ([] ++ codeL r.code ++ [114, 101, 112, 108, 97, 121, 101, 100, 10])) (by have := xgg hr.code; simp only [List.length_append, List.length_cons, List.length_nil]; omega)
    obtain ⟨f1, f2, f3, f4, f5, f6⟩ := xhq hr
    go_wp2
    go_region_held3 (fun w' => w'.cell? ⟨w.heap.size, 4, none⟩ = some (.int .i64 r.passes) ∧ w'.cell? ⟨w.heap.size, 5, none⟩ = some (.int .i64 r.trans) ∧ w'.cell? ⟨w.heap.size, 6, none⟩ = some (.int .i64 r.writes))
      (exact ⟨hST.cell hlt hc4, hST.cell hlt hc5, hST.cell hlt hc6⟩)
      ((first
        | (go_at_call 36; refine (itoa_w hr.passes _ hST.gw).mono ?_; rintro e wj ⟨rfl, hbj⟩; have hST := hST.call hbj)
        | (go_at_call 36; refine (itoa_w hr.trans _ hST.gw).mono ?_; rintro e wj ⟨rfl, hbj⟩; have hST := hST.call hbj)
        | (go_at_call 36; refine (itoa_w hr.writes _ hST.gw).mono ?_; rintro e wj ⟨rfl, hbj⟩; have hST := hST.call hbj)
        | (go_at_call 39; refine (xmb lies72 (by decide) (w.heap.size + 1) (w.heap.size + 1) _ _ _ hST.bld hszC hST.sz).mono ?_; rintro e wj ⟨rfl, hwj, hbj⟩; rw [countB] at hwj; have hST := hST.write hgN hwj hbj)))
    all_goals (
      clear f1 f2 f3 f4 f5 f6 hszC q4 q5 q6
      have q1 := hST.cell hlt hc1
      go_wp2_with (go_at_call 40; refine (list_w (w.heap.size + 1) (w.heap.size + 1) _ [102, 111, 117, 110, 100] r.found fv _ (by decide) hr.found.1 hr.found.2 hgN hST.gw hST.sz (hST.fat hA (Nat.le_succ _) hf) (len_1 hr (R := [114, 101, 112, 108, 97, 121, 101, 100, 10]) (by decide)) hST.bld).mono ?_)
      rintro e wk ⟨rfl, hwk, hbk⟩
      have hST := hST.list hgN hwk hbk
      have q2 := hST.cell hlt hc2
      go_wp2_with (go_at_call 40; refine (list_w (w.heap.size + 1) (w.heap.size + 1) _ [100, 111, 110, 101] r.done dv _ (by decide) hr.done.1 hr.done.2 hgN hST.gw hST.sz (hST.fat hA (Nat.le_succ _) hd) (len_2 hr (R := [114, 101, 112, 108, 97, 121, 101, 100, 10]) (by decide)) hST.bld).mono ?_)
      rintro e wm ⟨rfl, hwm, hbm⟩
      have hST := hST.list hgN hwm hbm
      have q3 := hST.cell hlt hc3
      go_wp2_with (go_at_call 40; refine (list_w (w.heap.size + 1) (w.heap.size + 1) _ [108, 101, 102, 116] r.left lv _ (by decide) hr.left.1 hr.left.2 hgN hST.gw hST.sz (hST.fat hA (Nat.le_succ _) hl) (len_3 hr (R := [114, 101, 112, 108, 97, 121, 101, 100, 10]) (by decide)) hST.bld).mono ?_)
      rintro e wn ⟨rfl, hwn, hbn⟩
      have hST := hST.list hgN hwn hbn
      go_wp2_with (go_at_call 41; refine (xeg (T := 72) (w.heap.size + 1) (w.heap.size + 1) _ _ hST.bld (by unfold codeL; simp)).mono ?_)
      rintro e wz ⟨rfl, hbz⟩
      go_wp2
      go_ret
      refine ⟨?_, (hA.trans (hST.bel.mono (Nat.le_succ _))).trans (hbz.mono (Nat.le_succ _))⟩
      congr 2
      unfold textR linesL
      rw [hrp]
      simp [bB, replL])
  · have hrp : r.replayed = false := by simpa using hrp
    rw [hrp] at q7
    obtain ⟨w3, hw3⟩ : ∃ w3, w3 = w2 := ⟨w2, rfl⟩
    subst hw3
    have h3 : ST 72 (w.heap.size + 1) (w.heap.size + 1) wA ([] ++ codeL r.code ++ []) w3 := by rw [List.append_nil]; exact h2
    clear h2
    have q4 := h3.cell hlt hc4
    have q5 := h3.cell hlt hc5
    have q6 := h3.cell hlt hc6
    have hST := h3.call ((Below.refl _ w3).drew)
    have hszC := xus hr (t := ([] ++ codeL r.code ++ [])) (by have := xgg hr.code; simp only [List.length_append, List.length_cons, List.length_nil]; omega)
    obtain ⟨f1, f2, f3, f4, f5, f6⟩ := xhq hr
    go_wp2
    go_region_held3 (fun w' => w'.cell? ⟨w.heap.size, 4, none⟩ = some (.int .i64 r.passes) ∧ w'.cell? ⟨w.heap.size, 5, none⟩ = some (.int .i64 r.trans) ∧ w'.cell? ⟨w.heap.size, 6, none⟩ = some (.int .i64 r.writes))
      (exact ⟨hST.cell hlt hc4, hST.cell hlt hc5, hST.cell hlt hc6⟩)
      ((first
        | (go_at_call 36; refine (itoa_w hr.passes _ hST.gw).mono ?_; rintro e wj ⟨rfl, hbj⟩; have hST := hST.call hbj)
        | (go_at_call 36; refine (itoa_w hr.trans _ hST.gw).mono ?_; rintro e wj ⟨rfl, hbj⟩; have hST := hST.call hbj)
        | (go_at_call 36; refine (itoa_w hr.writes _ hST.gw).mono ?_; rintro e wj ⟨rfl, hbj⟩; have hST := hST.call hbj)
        | (go_at_call 39; refine (xmb lies72 (by decide) (w.heap.size + 1) (w.heap.size + 1) _ _ _ hST.bld hszC hST.sz).mono ?_; rintro e wj ⟨rfl, hwj, hbj⟩; rw [countB] at hwj; have hST := hST.write hgN hwj hbj)))
    all_goals (
      clear f1 f2 f3 f4 f5 f6 hszC q4 q5 q6 q7
      have q1 := hST.cell hlt hc1
      go_wp2_with (go_at_call 40; refine (list_w (w.heap.size + 1) (w.heap.size + 1) _ [102, 111, 117, 110, 100] r.found fv _ (by decide) hr.found.1 hr.found.2 hgN hST.gw hST.sz (hST.fat hA (Nat.le_succ _) hf) (len_1 hr (R := []) (by decide)) hST.bld).mono ?_)
      rintro e wk ⟨rfl, hwk, hbk⟩
      have hST := hST.list hgN hwk hbk
      have q2 := hST.cell hlt hc2
      go_wp2_with (go_at_call 40; refine (list_w (w.heap.size + 1) (w.heap.size + 1) _ [100, 111, 110, 101] r.done dv _ (by decide) hr.done.1 hr.done.2 hgN hST.gw hST.sz (hST.fat hA (Nat.le_succ _) hd) (len_2 hr (R := []) (by decide)) hST.bld).mono ?_)
      rintro e wm ⟨rfl, hwm, hbm⟩
      have hST := hST.list hgN hwm hbm
      have q3 := hST.cell hlt hc3
      go_wp2_with (go_at_call 40; refine (list_w (w.heap.size + 1) (w.heap.size + 1) _ [108, 101, 102, 116] r.left lv _ (by decide) hr.left.1 hr.left.2 hgN hST.gw hST.sz (hST.fat hA (Nat.le_succ _) hl) (len_3 hr (R := []) (by decide)) hST.bld).mono ?_)
      rintro e wn ⟨rfl, hwn, hbn⟩
      have hST := hST.list hgN hwn hbn
      go_wp2_with (go_at_call 41; refine (xeg (T := 72) (w.heap.size + 1) (w.heap.size + 1) _ _ hST.bld (by unfold codeL; simp)).mono ?_)
      rintro e wz ⟨rfl, hbz⟩
      go_wp2
      go_ret
      refine ⟨?_, (hA.trans (hST.bel.mono (Nat.le_succ _))).trans (hbz.mono (Nat.le_succ _))⟩
      congr 2
      unfold textR linesL
      rw [hrp]
      simp [bB, replL])
end Go.Proofs.YtjmnoaoeediodaaDoor.AL

/- report.Text by contract. -/
set_option linter.all false
namespace Go.Proofs.YtjmnoaoeediodaaDoor.AL
open Go Go.Proofs Go.RowKit
theorem fat_of {Z : Nat → Prop} {w : World} {l : List Finding} {v : Value} (h : VRep (Ec Z w) (.sl 4 (l.map xd)) v) (hZ : ∀ b, Z b → b < w.heap.size) : FAt w w.heap.size l v := by
  simp only [VRep] at h
  obtain ⟨us, A, cap, h1, rfl, h2, h3⟩ := h
  have hlen := h1.length
  simp only [List.length_map] at hlen ⊢
  refine ⟨A, cap, rfl, fun i f hf => ?_⟩
  have hi := (List.getElem?_eq_some_iff.1 hf).1
  have key : ∀ (xs : List Finding) (us : List Value), VReps (Ec Z w) (xs.map xd) us → ∀ (i : Nat) (f : Finding), xs[i]? = some f → us[i]? = some (.agg #[.int .i64 f.clause, .int .i64 f.layer, .int .i64 f.ino, .int .i64 f.slot]) := by
    intro xs
    induction xs with
    | nil => intro us _ i f hf; simp at hf
    | cons x xs ih =>
      intro us hv i f hf
      simp only [List.map_cons, VReps] at hv
      obtain ⟨u, us', g1, g2, rfl⟩ := hv
      cases i with
      | zero =>
        simp only [List.getElem?_cons_zero, Option.some.injEq] at hf
        subst hf
        unfold xd at g1
        simp only [VRep, VReps] at g1
        obtain ⟨cs, ⟨_, _, rfl, ⟨_, _, rfl, ⟨_, _, rfl, ⟨_, _, rfl, rfl, rfl⟩, rfl⟩, rfl⟩, rfl⟩, rfl⟩ := g1
        rfl
      | succ i => exact ih us' g2 i f (by simpa using hf)
  have hu := key l us h1 i f hf
  rcases h3 with h3 | ⟨b, o, rfl, g2, g3⟩
  · subst h3; simp at hu
  · obtain ⟨k1, k2, k3⟩ := g3 i _ hu
    refine ⟨b, o, rfl, hZ b g2, ?_, ?_, ?_, ?_⟩
    · have := k3 0 (.int .i64 f.clause) rfl
      exact this
    · have := k3 1 (.int .i64 f.layer) rfl
      exact this
    · have := k3 2 (.int .i64 f.ino) rfl
      exact this
    · have := k3 3 (.int .i64 f.slot) rfl
      exact this
def f64 (f : Finding) : Prop := i64 f.clause ∧ i64 f.layer ∧ i64 f.ino ∧ i64 f.slot
instance (f : Finding) : Decidable (f64 f) := inferInstanceAs (Decidable (_ ∧ _))
theorem f64_of {f : Finding} (h : f64 f) : F64 f := ⟨h.1, h.2.1, h.2.2.1, h.2.2.2⟩
def frq (r : Report) : Prop := (i64 r.code ∧ i64 r.passes ∧ i64 r.trans ∧ i64 r.writes) ∧ (r.found.length ≤ 60 ∧ ∀ f ∈ r.found, f64 f) ∧ (r.done.length ≤ 60 ∧ ∀ f ∈ r.done, f64 f) ∧ (r.left.length ≤ 60 ∧ ∀ f ∈ r.left, f64 f)
instance (r : Report) : Decidable (frq r) := inferInstanceAs (Decidable (_ ∧ _))
theorem frq_of {r : Report} (h : frq r) : FR r := ⟨h.1.1, h.1.2.1, h.1.2.2.1, h.1.2.2.2, ⟨h.2.1.1, fun f hf => f64_of (h.2.1.2 f hf)⟩, ⟨h.2.2.1.1, fun f hf => f64_of (h.2.2.1.2 f hf)⟩, ⟨h.2.2.2.1, fun f hf => f64_of (h.2.2.2.2 f hf)⟩⟩
def xad (r : Report) : Option ByteArray := (ck (frq r)).bind fun _ => some (bB (textR r))
theorem x7j (r : Report) (t : ByteArray) (h : xad r = some t) : Ok Tryd.prog 15 [xgb r] (str t) := by
  unfold xad at h
  obtain ⟨h1, h⟩ := ckE h
  obtain rfl := Option.some.inj h
  refine ⟨by kernel_rfl, fun Z w vals hZ hv => ?_⟩
  simp only [VReps] at hv
  obtain ⟨u, us, g1, rfl, rfl⟩ := hv
  unfold xgb at g1
  simp only [VRep, VReps, sll] at g1
  obtain ⟨cs, ⟨_, _, rfl, ⟨fv, _, q1, ⟨dv, _, q2, ⟨lv, _, q3, ⟨_, _, rfl, ⟨_, _, rfl, ⟨_, _, rfl, ⟨_, _, rfl, rfl, rfl⟩, rfl⟩, rfl⟩, rfl⟩, rfl⟩, rfl⟩, rfl⟩, rfl⟩, rfl⟩ := g1
  have f1 : VRep (Ec Z w) (.sl 4 (r.found.map xd)) fv := by simp only [VRep]; exact q1
  have f2 : VRep (Ec Z w) (.sl 4 (r.done.map xd)) dv := by simp only [VRep]; exact q2
  have f3 : VRep (Ec Z w) (.sl 4 (r.left.map xd)) lv := by simp only [VRep]; exact q3
  refine (text_w (frq_of h1) fv dv lv w hZ.gw (fat_of f1 hZ.zlt) (fat_of f2 hZ.zlt) (fat_of f3 hZ.zlt)).mono ?_
  rintro e w' ⟨rfl, hb⟩
  exact ⟨_, rfl, hb, by simp only [VRep]⟩
end Go.Proofs.YtjmnoaoeediodaaDoor.AL

