/- A law of the given program is proved: part 40 of 45. -/
import Derived.Test.YtjmnoaoeediodaaDoorB39
set_option linter.all false
/- Models of functions, and that the functions are as their models: written by gen.py. -/
set_option linter.all false
set_option maxRecDepth 100000
namespace Go.Proofs.YtjmnoaoeediodaaDoor.AL
open Go Go.Proofs
def x9e  : Option (List ByteArray) := some ([x5c, (ByteArray.mk #[112, 111, 105, 110, 116, 101, 114]), (ByteArray.mk #[97, 116, 116, 114, 105, 98, 117, 116, 101]), (ByteArray.mk #[115, 112, 101, 99, 105, 97, 108]), (ByteArray.mk #[105, 110, 111, 100, 101]), (ByteArray.mk #[101, 110, 116, 114, 121]), (ByteArray.mk #[116, 119, 105, 99, 101]), (ByteArray.mk #[111, 114, 112, 104, 97, 110]), (ByteArray.mk #[111, 112, 97, 113, 117, 101]), (ByteArray.mk #[102, 111, 114, 109]), (ByteArray.mk #[108, 111, 111, 112]), (ByteArray.mk #[103, 111, 110, 101]), (ByteArray.mk #[115, 97, 109, 101]), (ByteArray.mk #[111, 114, 105, 103, 105, 110]), (ByteArray.mk #[109, 101, 116, 97]), (ByteArray.mk #[119, 104, 105, 116, 101]), (ByteArray.mk #[105, 110, 100, 101, 120]), (ByteArray.mk #[119, 111, 114, 107]), (ByteArray.mk #[105, 109, 112, 117, 114, 101]), (ByteArray.mk #[108, 105, 110, 107, 115]), (ByteArray.mk #[115, 104, 111, 119, 110]), (ByteArray.mk #[98, 105, 116, 109, 97, 112]), (ByteArray.mk #[108, 111, 119, 101, 114]), (ByteArray.mk #[112, 101, 110, 100, 105, 110, 103])] : List ByteArray)
def xpj := aI (@EV) (aI (@R9) (@R53))
set_option maxHeartbeats 2000000 in
theorem xpn  (r : List ByteArray) (hm0 : x9e  = some r) : Ok Tryd.prog 35 [] (.sl 1 (r.map str)) := by
 unfold x9e at hm0
 refine okG x4n ?_
 unfold xqj
 obtain rfl := Option.some.inj hm0
 simp only [xpj, ↓EVd, isCall, sevalprocAttr]
 all_goals first | done | rfl | exact frzR_e (by simp only [FZ, CLO, xpj, ↓EVd, isCall, sevalprocAttr])
def xkc (a0 : Int) : Option (ByteArray) := if a0 < 1 then some x5c
 else if 23 < a0 then some x5c
 else (x9e ).bind fun v5 => (ix v5 a0).bind fun v7 => some v7
def xze := aI (aI (@EV) (@R3)) (aI (@R9) (@R53))
set_option maxHeartbeats 2000000 in
theorem xvf (a0 : Int) (r : ByteArray) (hm0 : xkc a0 = some r) : Ok Tryd.prog 12 [int a0] (str r) := by
 unfold xkc at hm0
 refine okG xym ?_
 unfold xmi
 rcases iteE hm0 with ⟨e2, hm0⟩ | ⟨e2, hm0⟩
 · obtain rfl := Option.some.inj hm0
   simp only [e2, xze, ↓EVd, isCall, sevalprocAttr]
   all_goals first | done | rfl
 rcases iteE hm0 with ⟨e4, hm0⟩ | ⟨e4, hm0⟩
 · obtain rfl := Option.some.inj hm0
   simp only [e2, e4, xze, ↓EVd, isCall, sevalprocAttr]
   all_goals first | done | rfl
 obtain ⟨v5, h6, hm0⟩ := bsE hm0
 simp only [e2, e4, xze, ↓EVd, isCall, sevalprocAttr]
 refine qc (xpn  _ h6) rfl ?_
 obtain ⟨v7, e9, hm0⟩ := ixE str hm0
 obtain rfl := Option.some.inj hm0
 simp only [e2, e4, e9, xze, ↓EVd, isCall, sevalprocAttr]
 all_goals first | done | rfl
def xrd (a0 : Int) : Option (ByteArray) := (xkc a0).bind fun v1 => if v1 = x5c then some (ByteArray.mk #[63])
 else (xkc a0).bind fun v5 => some v5
def xwf := aI (@EV) (aI (@R3) (@R9))
set_option maxHeartbeats 2000000 in
theorem xij (a0 : Int) (r : ByteArray) (hm0 : xrd a0 = some r) : Ok Tryd.prog 37 [int a0] (str r) := by
 unfold xrd at hm0
 refine okG x3o ?_
 unfold x3k
 obtain ⟨v1, h2, hm0⟩ := bsE hm0
 simp only [xwf, ↓EVd, isCall, sevalprocAttr]
 refine qc (xvf _ _ h2) rfl ?_
 rcases iteE hm0 with ⟨e4, hm0⟩ | ⟨e4, hm0⟩
 · obtain rfl := Option.some.inj hm0
   simp only [e4, xwf, ↓EVd, isCall, sevalprocAttr]
   all_goals first | done | rfl
 obtain ⟨v5, h6, hm0⟩ := bsE hm0
 simp only [e4, xwf, ↓EVd, isCall, sevalprocAttr]
 refine qc (xvf _ _ h6) rfl ?_
 obtain rfl := Option.some.inj hm0
 simp only [e4, xwf, ↓EVd, isCall, sevalprocAttr]
 all_goals first | done | rfl
def xac  : (Int × ByteArray) → Option (St (Int × ByteArray) (ByteArray))
 | (v6, v7) => if v6 = 0 then some (.out v7)
 else if (v6.tmod 10) < 0 then (ck ((xgc ([(wB (wr (48 + (wr (0 - (v6.tmod 10))))))] : List UInt8)).size + v7.size ≤ 9223372036854775807)).bind fun _ => some (.nx ((wr (v6.tdiv 10)), ((xgc ([(wB (wr (48 + (wr (0 - (v6.tmod 10))))))] : List UInt8)) ++ v7)))
 else (ck ((xgc ([(wB (wr (48 + (v6.tmod 10))))] : List UInt8)).size + v7.size ≤ 9223372036854775807)).bind fun _ => some (.nx ((wr (v6.tdiv 10)), ((xgc ([(wB (wr (48 + (v6.tmod 10))))] : List UInt8)) ++ v7)))
def x4f  : (Int × ByteArray) → Option (St (Int × ByteArray) (ByteArray))
 | (v28, v29) => if v28 = 0 then some (.out v29)
 else if (v28.tmod 10) < 0 then (ck ((xgc ([(wB (wr (48 + (wr (0 - (v28.tmod 10))))))] : List UInt8)).size + v29.size ≤ 9223372036854775807)).bind fun _ => some (.nx ((wr (v28.tdiv 10)), ((xgc ([(wB (wr (48 + (wr (0 - (v28.tmod 10))))))] : List UInt8)) ++ v29)))
 else (ck ((xgc ([(wB (wr (48 + (v28.tmod 10))))] : List UInt8)).size + v29.size ≤ 9223372036854775807)).bind fun _ => some (.nx ((wr (v28.tdiv 10)), ((xgc ([(wB (wr (48 + (v28.tmod 10))))] : List UInt8)) ++ v29)))
def x5b (a0 : Int) : Option (ByteArray) := if a0 = 0 then some (ByteArray.mk #[48])
 else if a0 < 0 then (iter (xac) big (a0, x5c)).bind fun o => (match o with
 | v9 => (ck ((ByteArray.mk #[45]).size + v9.size ≤ 9223372036854775807)).bind fun _ => some ((ByteArray.mk #[45]) ++ v9))
 else (iter (x4f) big (a0, x5c)).bind fun o => (match o with
 | v31 => some v31)
def xx := aI (aI (@EV) (@R3)) (aI (@R9) (@R68))
set_option maxHeartbeats 2000000 in
theorem xbd (a0 : Int) (r : ByteArray) (hm0 : x5b a0 = some r) : Ok Tryd.prog 38 [int a0] (str r) := by
 unfold x5b at hm0
 refine okG xlp ?_
 unfold xvl
 rcases iteE hm0 with ⟨e2, hm0⟩ | ⟨e2, hm0⟩
 · obtain rfl := Option.some.inj hm0
   simp only [e2, xx, ↓EVd, isCall, sevalprocAttr]
   all_goals first | done | rfl
 rcases iteE hm0 with ⟨e4, hm0⟩ | ⟨e4, hm0⟩
 · obtain ⟨o0, ho0, hm0⟩ := bsE hm0
   simp only [e2, e4, xx, ↓EVd, isCall, sevalprocAttr]
   refine cwp_cx 0 (fun s => ∃ v9 : ByteArray, (s.T 3 = str v9 ∧ s.T 4 = bool true) ∧ v9 = o0) ?_ fun J0_0 hJ0_0 => ?_
   · rintro T0 H0 x8 ⟨v9, kk0_0, rfl⟩
     dsimp only [Lq, Nq] at kk0_0
     try dsimp only at hm0
     obtain ⟨e26, hm0⟩ := ckE hm0
     obtain rfl := Option.some.inj hm0
     simp only [kk0_0, e2, e4, e26, xx, ↓EVd, isCall, sevalprocAttr]
     all_goals first | done | rfl
   refine cwp_lp ho0 (fun (v6, v7) s => s.T 0 = int v6 ∧ s.T 3 = str v7 ∧ s.T 4 = bool true) ?_ ?_
   · refine TI.here ⟨?_, ?_, ?_⟩
     all_goals try simp only [e2, e4, xx, ↓EVd, isCall, sevalprocAttr]
     all_goals first | omega | exact lq (by omega) | exact nq (by omega) | rfl | (congr 1; omega)
   rintro I0 ⟨v6, v7⟩ T0 H0 x5 st0 kk0 hm1 hI0 hO0
   dsimp only [Lq, Nq] at kk0
   simp only [xac] at hm1
   rcases iteE hm1 with ⟨e11, hm1⟩ | ⟨e11, hm1⟩
   · obtain rfl := Option.some.inj hm1
     simp only [kk0, e2, e4, e11, xx, ↓EVd, isCall, sevalprocAttr]
     refine TI.here (hJ0_0 _ ⟨v7, ⟨?_, ?_⟩, hO0 _ rfl⟩)
     all_goals try simp only [kk0, e2, e4, e11, xx, ↓EVd, isCall, sevalprocAttr]
     all_goals first | omega | exact lq (by omega) | exact nq (by omega) | rfl | (congr 1; omega)
   have e12 : ((10 : Int) = 0) = False := by decide
   rcases iteE hm1 with ⟨e14, hm1⟩ | ⟨e14, hm1⟩
   · have e15 : convE Tryd.prog 3 5 (int (wr (48 + (wr (0 - (v6.tmod 10)))))) = some (ik .u8 (IntKind.u8.wrap (wr (48 + (wr (0 - (v6.tmod 10)))))), []) := x0f _ (by kernel_rfl) (by kernel_rfl)
     have e16 : (AV.val (.int .u8 (IntKind.u8.wrap (wr (48 + (wr (0 - (v6.tmod 10)))))))) = u8 (wB (wr (48 + (wr (0 - (v6.tmod 10)))))) := u8w _
     have e17 : convE Tryd.prog 68 9 (.sl 1 [u8 (wB (wr (48 + (wr (0 - (v6.tmod 10))))))]) = some (str (xgc ([(wB (wr (48 + (wr (0 - (v6.tmod 10))))))] : List UInt8)), []) := x8g ([(wB (wr (48 + (wr (0 - (v6.tmod 10))))))] : List UInt8) (e := 5) (by kernel_rfl) (by kernel_rfl) (by kernel_rfl)
     obtain ⟨e19, hm1⟩ := ckE hm1
     obtain rfl := Option.some.inj hm1
     simp only [kk0, e2, e4, e11, e12, e14, e15, e16, e17, e19, xx, ↓EVd, isCall, sevalprocAttr]
     refine TI.here (hI0 _ rfl _ ⟨?_, ?_, ?_⟩)
     all_goals try simp only [kk0, e2, e4, e11, e12, e14, e15, e16, e17, e19, xx, ↓EVd, isCall, sevalprocAttr]
     all_goals first | omega | exact lq (by omega) | exact nq (by omega) | rfl | (congr 1; omega)
   have e20 : convE Tryd.prog 3 5 (int (wr (48 + (v6.tmod 10)))) = some (ik .u8 (IntKind.u8.wrap (wr (48 + (v6.tmod 10)))), []) := x0f _ (by kernel_rfl) (by kernel_rfl)
   have e21 : (AV.val (.int .u8 (IntKind.u8.wrap (wr (48 + (v6.tmod 10)))))) = u8 (wB (wr (48 + (v6.tmod 10)))) := u8w _
   have e22 : convE Tryd.prog 68 9 (.sl 1 [u8 (wB (wr (48 + (v6.tmod 10))))]) = some (str (xgc ([(wB (wr (48 + (v6.tmod 10))))] : List UInt8)), []) := x8g ([(wB (wr (48 + (v6.tmod 10))))] : List UInt8) (e := 5) (by kernel_rfl) (by kernel_rfl) (by kernel_rfl)
   obtain ⟨e24, hm1⟩ := ckE hm1
   obtain rfl := Option.some.inj hm1
   simp only [kk0, e2, e4, e11, e12, e14, e20, e21, e22, e24, xx, ↓EVd, isCall, sevalprocAttr]
   refine TI.here (hI0 _ rfl _ ⟨?_, ?_, ?_⟩)
   all_goals try simp only [kk0, e2, e4, e11, e12, e14, e20, e21, e22, e24, xx, ↓EVd, isCall, sevalprocAttr]
   all_goals first | omega | exact lq (by omega) | exact nq (by omega) | rfl | (congr 1; omega)
 obtain ⟨o1, ho1, hm0⟩ := bsE hm0
 simp only [e2, e4, xx, ↓EVd, isCall, sevalprocAttr]
 refine cwp_cx 0 (fun s => ∃ v31 : ByteArray, (s.T 3 = str v31 ∧ s.T 4 = bool false) ∧ v31 = o1) ?_ fun J1_0 hJ1_0 => ?_
 · rintro T1 H1 x30 ⟨v31, kk1_0, rfl⟩
   dsimp only [Lq, Nq] at kk1_0
   try dsimp only at hm0
   obtain rfl := Option.some.inj hm0
   simp only [kk1_0, e2, e4, xx, ↓EVd, isCall, sevalprocAttr]
   all_goals first | done | rfl
 refine cwp_lp ho1 (fun (v28, v29) s => s.T 0 = int v28 ∧ s.T 3 = str v29 ∧ s.T 4 = bool false) ?_ ?_
 · refine TI.here ⟨?_, ?_, ?_⟩
   all_goals try simp only [e2, e4, xx, ↓EVd, isCall, sevalprocAttr]
   all_goals first | omega | exact lq (by omega) | exact nq (by omega) | rfl | (congr 1; omega)
 rintro I1 ⟨v28, v29⟩ T1 H1 x27 st1 kk1 hm1 hI1 hO1
 dsimp only [Lq, Nq] at kk1
 simp only [x4f] at hm1
 rcases iteE hm1 with ⟨e33, hm1⟩ | ⟨e33, hm1⟩
 · obtain rfl := Option.some.inj hm1
   simp only [kk1, e2, e4, e33, xx, ↓EVd, isCall, sevalprocAttr]
   refine TI.here (hJ1_0 _ ⟨v29, ⟨?_, ?_⟩, hO1 _ rfl⟩)
   all_goals try simp only [kk1, e2, e4, e33, xx, ↓EVd, isCall, sevalprocAttr]
   all_goals first | omega | exact lq (by omega) | exact nq (by omega) | rfl | (congr 1; omega)
 have e34 : ((10 : Int) = 0) = False := by decide
 rcases iteE hm1 with ⟨e36, hm1⟩ | ⟨e36, hm1⟩
 · have e37 : convE Tryd.prog 3 5 (int (wr (48 + (wr (0 - (v28.tmod 10)))))) = some (ik .u8 (IntKind.u8.wrap (wr (48 + (wr (0 - (v28.tmod 10)))))), []) := x0f _ (by kernel_rfl) (by kernel_rfl)
   have e38 : (AV.val (.int .u8 (IntKind.u8.wrap (wr (48 + (wr (0 - (v28.tmod 10)))))))) = u8 (wB (wr (48 + (wr (0 - (v28.tmod 10)))))) := u8w _
   have e39 : convE Tryd.prog 68 9 (.sl 1 [u8 (wB (wr (48 + (wr (0 - (v28.tmod 10))))))]) = some (str (xgc ([(wB (wr (48 + (wr (0 - (v28.tmod 10))))))] : List UInt8)), []) := x8g ([(wB (wr (48 + (wr (0 - (v28.tmod 10))))))] : List UInt8) (e := 5) (by kernel_rfl) (by kernel_rfl) (by kernel_rfl)
   obtain ⟨e41, hm1⟩ := ckE hm1
   obtain rfl := Option.some.inj hm1
   simp only [kk1, e2, e4, e33, e34, e36, e37, e38, e39, e41, xx, ↓EVd, isCall, sevalprocAttr]
   refine TI.here (hI1 _ rfl _ ⟨?_, ?_, ?_⟩)
   all_goals try simp only [kk1, e2, e4, e33, e34, e36, e37, e38, e39, e41, xx, ↓EVd, isCall, sevalprocAttr]
   all_goals first | omega | exact lq (by omega) | exact nq (by omega) | rfl | (congr 1; omega)
 have e42 : convE Tryd.prog 3 5 (int (wr (48 + (v28.tmod 10)))) = some (ik .u8 (IntKind.u8.wrap (wr (48 + (v28.tmod 10)))), []) := x0f _ (by kernel_rfl) (by kernel_rfl)
 have e43 : (AV.val (.int .u8 (IntKind.u8.wrap (wr (48 + (v28.tmod 10)))))) = u8 (wB (wr (48 + (v28.tmod 10)))) := u8w _
 have e44 : convE Tryd.prog 68 9 (.sl 1 [u8 (wB (wr (48 + (v28.tmod 10))))]) = some (str (xgc ([(wB (wr (48 + (v28.tmod 10))))] : List UInt8)), []) := x8g ([(wB (wr (48 + (v28.tmod 10))))] : List UInt8) (e := 5) (by kernel_rfl) (by kernel_rfl) (by kernel_rfl)
 obtain ⟨e46, hm1⟩ := ckE hm1
 obtain rfl := Option.some.inj hm1
 simp only [kk1, e2, e4, e33, e34, e36, e42, e43, e44, e46, xx, ↓EVd, isCall, sevalprocAttr]
 refine TI.here (hI1 _ rfl _ ⟨?_, ?_, ?_⟩)
 all_goals try simp only [kk1, e2, e4, e33, e34, e36, e42, e43, e44, e46, xx, ↓EVd, isCall, sevalprocAttr]
 all_goals first | omega | exact lq (by omega) | exact nq (by omega) | rfl | (congr 1; omega)
def xfb (a0 : ByteArray) : (Int × Int) → Option (St (Int × Int) ((Int) ⊕ (Int × Bool)))
 | (v9, v10) => if v10 < (a0.size : Int) then if v10 < 24 then (ixB a0 v10).bind fun v17 => if (wr ((IntKind.i64.wrap (v17.toNat : Int)) - 48)) < 0 then some (.out (.inr (0, false)))
 else if 9 < (wr ((IntKind.i64.wrap (v17.toNat : Int)) - 48)) then some (.out (.inr (0, false)))
 else some (.nx ((wr ((wr (v9 * 10)) - (wr ((IntKind.i64.wrap (v17.toNat : Int)) - 48)))), (wr (v10 + 1))))
 else some (.out (.inl v9))
 else some (.out (.inl v9))
def xgb (a0 : ByteArray) : (Int × Int) → Option (St (Int × Int) ((Int) ⊕ (Int × Bool)))
 | (v31, v32) => if v32 < (a0.size : Int) then if v32 < 24 then (ixB a0 v32).bind fun v39 => if (wr ((IntKind.i64.wrap (v39.toNat : Int)) - 48)) < 0 then some (.out (.inr (0, false)))
 else if 9 < (wr ((IntKind.i64.wrap (v39.toNat : Int)) - 48)) then some (.out (.inr (0, false)))
 else some (.nx ((wr ((wr (v31 * 10)) + (wr ((IntKind.i64.wrap (v39.toNat : Int)) - 48)))), (wr (v32 + 1))))
 else some (.out (.inl v31))
 else some (.out (.inl v31))
def x2e  : Unit → Option (St (Unit) (Unit))
 | _ => some (.out ())
def x7c (a0 : ByteArray) : Option (Int × Bool) := if 0 < (a0.size : Int) then (ixB a0 0).bind fun v3 => if (v3.toNat : Int) = 45 then (iter (xfb a0) big (0, 1)).bind fun o => (match o with
 | (.inl v12) => (x5b v12).bind fun v26 => if v26 = a0 then some (v12, true)
 else some (0, false)
 | (.inr r) => some r)
 else (iter (xgb a0) big (0, 0)).bind fun o => (match o with
 | (.inl v34) => (x5b v34).bind fun v48 => if v48 = a0 then some (v34, true)
 else some (0, false)
 | (.inr r) => some r)
 else (iter (x2e) big ()).bind fun o => (match o with
 | _ => (x5b 0).bind fun v54 => if v54 = a0 then some (0, true)
 else some (0, false))
def xh := aI (@EV) (aI (@R3) (@R9))
set_option maxHeartbeats 2000000 in
theorem xqh (a0 : ByteArray) (r : Int × Bool) (hm0 : x7c a0 = some r) : Ok Tryd.prog 33 [str a0] (.tup [int r.1, bool r.2]) := by
 unfold x7c at hm0
 refine okG xan ?_
 unfold xhi
 rcases iteE hm0 with ⟨e2, hm0⟩ | ⟨e2, hm0⟩
 · obtain ⟨v3, e5, hm0⟩ := ixBE hm0
   try simp only [sevalprocAttr, eq_self, true_and] at e5
   rcases iteE hm0 with ⟨e7, hm0⟩ | ⟨e7, hm0⟩
   · obtain ⟨o0, ho0, hm0⟩ := bsE hm0
     simp only [e2, e5, e7, xh, ↓EVd, isCall, sevalprocAttr]
     refine cwp_cx 0 (fun s => ∃ v12 : Int, (s.T 0 = str a0 ∧ s.T 4 = int v12) ∧ (.inl v12) = o0) ?_ fun J0_0 hJ0_0 => ?_
     · rintro T0 H0 x11 ⟨v12, kk0_0, rfl⟩
       dsimp only [Lq, Nq] at kk0_0
       try dsimp only at hm0
       obtain ⟨v26, h27, hm0⟩ := bsE hm0
       simp only [kk0_0, e2, e5, e7, xh, ↓EVd, isCall, sevalprocAttr]
       refine qc (xbd _ _ h27) rfl ?_
       rcases iteE hm0 with ⟨e29, hm0⟩ | ⟨e29, hm0⟩
       · obtain rfl := Option.some.inj hm0
         simp only [kk0_0, e2, e5, e7, e29, xh, ↓EVd, isCall, sevalprocAttr]
         all_goals first | done | rfl | exact xe (by simp only [CLO]) | exact xi (by simp only [CLO]) (Sub.tup (Subs.cons (Sub.refl _) (Subs.cons (Sub.refl _) (Subs.nil))))
       obtain rfl := Option.some.inj hm0
       simp only [kk0_0, e2, e5, e7, e29, xh, ↓EVd, isCall, sevalprocAttr]
       all_goals first | done | rfl | exact xe (by simp only [CLO]) | exact xi (by simp only [CLO]) (Sub.tup (Subs.cons (Sub.refl _) (Subs.cons (Sub.refl _) (Subs.nil))))
     refine cwp_lp ho0 (fun (v9, v10) s => s.T 0 = str a0 ∧ s.T 4 = int v9 ∧ s.T 5 = int 1 ∧ s.T 6 = int v10) ?_ ?_
     · refine TI.here ⟨?_, ?_, ?_, ?_⟩
       all_goals try simp only [e2, e5, e7, xh, ↓EVd, isCall, sevalprocAttr]
       all_goals first | omega | exact lq (by omega) | exact nq (by omega) | rfl | (congr 1; omega)
     rintro I0 ⟨v9, v10⟩ T0 H0 x8 st0 kk0 hm1 hI0 hO0
     dsimp only [Lq, Nq] at kk0
     simp only [xfb] at hm1
     rcases iteE hm1 with ⟨e14, hm1⟩ | ⟨e14, hm1⟩
     · rcases iteE hm1 with ⟨e16, hm1⟩ | ⟨e16, hm1⟩
       · obtain ⟨v17, e19, hm1⟩ := ixBE hm1
         have e20 : convE Tryd.prog 5 3 (ik .u8 (v17.toNat : Int)) = some (int (IntKind.i64.wrap (v17.toNat : Int)), []) := x0f _ (by kernel_rfl) (by kernel_rfl)
         rcases iteE hm1 with ⟨e22, hm1⟩ | ⟨e22, hm1⟩
         · obtain rfl := Option.some.inj hm1
           obtain rfl := hO0 _ rfl
           try dsimp only at hm0
           obtain rfl := Option.some.inj hm0
           simp only [kk0, e2, e5, e7, e14, e16, e19, e20, e22, xh, ↓EVd, isCall, sevalprocAttr]
           all_goals first | done | rfl | exact xe (by simp only [CLO]) | exact xi (by simp only [CLO]) (Sub.tup (Subs.cons (Sub.refl _) (Subs.cons (Sub.refl _) (Subs.nil))))
         have g58 := And.intro (And.intro (And.intro ((e2)) ((e5))) (And.intro ((e7)) ((e14)))) (And.intro (And.intro ((e16)) ((e19))) (And.intro ((e20)) ((e22))))
         rcases iteE hm1 with ⟨e24, hm1⟩ | ⟨e24, hm1⟩
         · obtain rfl := Option.some.inj hm1
           obtain rfl := hO0 _ rfl
           try dsimp only at hm0
           obtain rfl := Option.some.inj hm0
           simp only [kk0, g58, e24, xh, ↓EVd, isCall, sevalprocAttr]
           all_goals first | done | rfl | exact xe (by simp only [CLO]) | exact xi (by simp only [CLO]) (Sub.tup (Subs.cons (Sub.refl _) (Subs.cons (Sub.refl _) (Subs.nil))))
         have e25 : ((1 : Int) = 0) = False := by decide
         obtain rfl := Option.some.inj hm1
         simp only [kk0, g58, e24, e25, xh, ↓EVd, isCall, sevalprocAttr]
         refine TI.here (hI0 _ rfl _ ⟨?_, ?_, ?_, ?_⟩)
         all_goals try simp only [kk0, g58, e24, e25, xh, ↓EVd, isCall, sevalprocAttr]
         all_goals first | omega | exact lq (by omega) | exact nq (by omega) | rfl | (congr 1; omega)
       obtain rfl := Option.some.inj hm1
       simp only [kk0, e2, e5, e7, e14, e16, xh, ↓EVd, isCall, sevalprocAttr]
       refine TI.here (hJ0_0 _ ⟨v9, ⟨?_, ?_⟩, hO0 _ rfl⟩)
       all_goals try simp only [kk0, e2, e5, e7, e14, e16, xh, ↓EVd, isCall, sevalprocAttr]
       all_goals first | omega | exact lq (by omega) | exact nq (by omega) | rfl | (congr 1; omega)
     obtain rfl := Option.some.inj hm1
     simp only [kk0, e2, e5, e7, e14, xh, ↓EVd, isCall, sevalprocAttr]
     refine TI.here (hJ0_0 _ ⟨v9, ⟨?_, ?_⟩, hO0 _ rfl⟩)
     all_goals try simp only [kk0, e2, e5, e7, e14, xh, ↓EVd, isCall, sevalprocAttr]
     all_goals first | omega | exact lq (by omega) | exact nq (by omega) | rfl | (congr 1; omega)
   obtain ⟨o1, ho1, hm0⟩ := bsE hm0
   simp only [e2, e5, e7, xh, ↓EVd, isCall, sevalprocAttr]
   refine cwp_cx 0 (fun s => ∃ v34 : Int, (s.T 0 = str a0 ∧ s.T 4 = int v34) ∧ (.inl v34) = o1) ?_ fun J1_0 hJ1_0 => ?_
   · rintro T1 H1 x33 ⟨v34, kk1_0, rfl⟩
     dsimp only [Lq, Nq] at kk1_0
     try dsimp only at hm0
     obtain ⟨v48, h49, hm0⟩ := bsE hm0
     simp only [kk1_0, e2, e5, e7, xh, ↓EVd, isCall, sevalprocAttr]
     refine qc (xbd _ _ h49) rfl ?_
     rcases iteE hm0 with ⟨e51, hm0⟩ | ⟨e51, hm0⟩
     · obtain rfl := Option.some.inj hm0
       simp only [kk1_0, e2, e5, e7, e51, xh, ↓EVd, isCall, sevalprocAttr]
       all_goals first | done | rfl | exact xe (by simp only [CLO]) | exact xi (by simp only [CLO]) (Sub.tup (Subs.cons (Sub.refl _) (Subs.cons (Sub.refl _) (Subs.nil))))
     obtain rfl := Option.some.inj hm0
     simp only [kk1_0, e2, e5, e7, e51, xh, ↓EVd, isCall, sevalprocAttr]
     all_goals first | done | rfl | exact xe (by simp only [CLO]) | exact xi (by simp only [CLO]) (Sub.tup (Subs.cons (Sub.refl _) (Subs.cons (Sub.refl _) (Subs.nil))))
   refine cwp_lp ho1 (fun (v31, v32) s => s.T 0 = str a0 ∧ s.T 4 = int v31 ∧ s.T 5 = int 0 ∧ s.T 6 = int v32) ?_ ?_
   · refine TI.here ⟨?_, ?_, ?_, ?_⟩
     all_goals try simp only [e2, e5, e7, xh, ↓EVd, isCall, sevalprocAttr]
     all_goals first | omega | exact lq (by omega) | exact nq (by omega) | rfl | (congr 1; omega)
   rintro I1 ⟨v31, v32⟩ T1 H1 x30 st1 kk1 hm1 hI1 hO1
   dsimp only [Lq, Nq] at kk1
   simp only [xgb] at hm1
   rcases iteE hm1 with ⟨e36, hm1⟩ | ⟨e36, hm1⟩
   · rcases iteE hm1 with ⟨e38, hm1⟩ | ⟨e38, hm1⟩
     · obtain ⟨v39, e41, hm1⟩ := ixBE hm1
       have e42 : convE Tryd.prog 5 3 (ik .u8 (v39.toNat : Int)) = some (int (IntKind.i64.wrap (v39.toNat : Int)), []) := x0f _ (by kernel_rfl) (by kernel_rfl)
       rcases iteE hm1 with ⟨e44, hm1⟩ | ⟨e44, hm1⟩
       · obtain rfl := Option.some.inj hm1
         obtain rfl := hO1 _ rfl
         try dsimp only at hm0
         obtain rfl := Option.some.inj hm0
         simp only [kk1, e2, e5, e7, e36, e38, e41, e42, e44, xh, ↓EVd, isCall, sevalprocAttr]
         all_goals first | done | rfl | exact xe (by simp only [CLO]) | exact xi (by simp only [CLO]) (Sub.tup (Subs.cons (Sub.refl _) (Subs.cons (Sub.refl _) (Subs.nil))))
       have g59 := And.intro (And.intro (And.intro ((e2)) ((e5))) (And.intro ((e7)) ((e36)))) (And.intro (And.intro ((e38)) ((e41))) (And.intro ((e42)) ((e44))))
       rcases iteE hm1 with ⟨e46, hm1⟩ | ⟨e46, hm1⟩
       · obtain rfl := Option.some.inj hm1
         obtain rfl := hO1 _ rfl
         try dsimp only at hm0
         obtain rfl := Option.some.inj hm0
         simp only [kk1, g59, e46, xh, ↓EVd, isCall, sevalprocAttr]
         all_goals first | done | rfl | exact xe (by simp only [CLO]) | exact xi (by simp only [CLO]) (Sub.tup (Subs.cons (Sub.refl _) (Subs.cons (Sub.refl _) (Subs.nil))))
       have e47 : ((0 : Int) = 0) = True := by decide
       obtain rfl := Option.some.inj hm1
       simp only [kk1, g59, e46, e47, xh, ↓EVd, isCall, sevalprocAttr]
       refine TI.here (hI1 _ rfl _ ⟨?_, ?_, ?_, ?_⟩)
       all_goals try simp only [kk1, g59, e46, e47, xh, ↓EVd, isCall, sevalprocAttr]
       all_goals first | omega | exact lq (by omega) | exact nq (by omega) | rfl | (congr 1; omega)
     obtain rfl := Option.some.inj hm1
     simp only [kk1, e2, e5, e7, e36, e38, xh, ↓EVd, isCall, sevalprocAttr]
     refine TI.here (hJ1_0 _ ⟨v31, ⟨?_, ?_⟩, hO1 _ rfl⟩)
     all_goals try simp only [kk1, e2, e5, e7, e36, e38, xh, ↓EVd, isCall, sevalprocAttr]
     all_goals first | omega | exact lq (by omega) | exact nq (by omega) | rfl | (congr 1; omega)
   obtain rfl := Option.some.inj hm1
   simp only [kk1, e2, e5, e7, e36, xh, ↓EVd, isCall, sevalprocAttr]
   refine TI.here (hJ1_0 _ ⟨v31, ⟨?_, ?_⟩, hO1 _ rfl⟩)
   all_goals try simp only [kk1, e2, e5, e7, e36, xh, ↓EVd, isCall, sevalprocAttr]
   all_goals first | omega | exact lq (by omega) | exact nq (by omega) | rfl | (congr 1; omega)
 obtain ⟨o2, ho2, hm0⟩ := bsE hm0
 simp only [e2, xh, ↓EVd, isCall, sevalprocAttr]
 refine cwp_cx 0 (fun s => (s.T 0 = str a0 ∧ s.T 4 = int 0) ∧ () = o2) ?_ fun J2_0 hJ2_0 => ?_
 · rintro T2 H2 x53 ⟨kk2_0, rfl⟩
   dsimp only [Lq, Nq] at kk2_0
   try dsimp only at hm0
   obtain ⟨v54, h55, hm0⟩ := bsE hm0
   simp only [kk2_0, e2, xh, ↓EVd, isCall, sevalprocAttr]
   refine qc (xbd _ _ h55) rfl ?_
   rcases iteE hm0 with ⟨e57, hm0⟩ | ⟨e57, hm0⟩
   · obtain rfl := Option.some.inj hm0
     simp only [kk2_0, e2, e57, xh, ↓EVd, isCall, sevalprocAttr]
     all_goals first | done | rfl | exact xe (by simp only [CLO]) | exact xi (by simp only [CLO]) (Sub.tup (Subs.cons (Sub.refl _) (Subs.cons (Sub.refl _) (Subs.nil))))
   obtain rfl := Option.some.inj hm0
   simp only [kk2_0, e2, e57, xh, ↓EVd, isCall, sevalprocAttr]
   all_goals first | done | rfl | exact xe (by simp only [CLO]) | exact xi (by simp only [CLO]) (Sub.tup (Subs.cons (Sub.refl _) (Subs.cons (Sub.refl _) (Subs.nil))))
 refine cwp_lp ho2 (fun (_ : Unit) s => s.T 0 = str a0 ∧ s.T 4 = int 0 ∧ s.T 5 = int 0 ∧ s.T 6 = int 0) ?_ ?_
 · refine TI.here ⟨?_, ?_, ?_, ?_⟩
   all_goals try simp only [e2, xh, ↓EVd, isCall, sevalprocAttr]
   all_goals first | omega | exact lq (by omega) | exact nq (by omega) | rfl | (congr 1; omega)
 rintro I2 _ T2 H2 x52 st2 kk2 hm1 hI2 hO2
 dsimp only [Lq, Nq] at kk2
 simp only [x2e] at hm1
 obtain rfl := Option.some.inj hm1
 simp only [kk2, e2, xh, ↓EVd, isCall, sevalprocAttr]
 refine TI.here (hJ2_0 _ ⟨⟨?_, ?_⟩, hO2 _ rfl⟩)
 all_goals try simp only [kk2, e2, xh, ↓EVd, isCall, sevalprocAttr]
 all_goals first | omega | exact lq (by omega) | exact nq (by omega) | rfl | (congr 1; omega)
def xye (a0 : ByteArray) (a1 : Int) : Int → Option (St (Int) ((Unit) ⊕ (ByteArray × ByteArray × Bool)))
 | v2 => if v2 < (a0.size : Int) then (ixB a0 v2).bind fun v6 => if (v6.toNat : Int) = a1 then (strM a0 none (some v2)).bind fun v11 => (strM a0 (some (wr (v2 + 1))) none).bind fun v14 => some (.out (.inr (v11, v14, true)))
 else some (.nx (wr (v2 + 1)))
 else some (.out (.inl ()))
def xpb (a0 : ByteArray) (a1 : Int) : Option (ByteArray × ByteArray × Bool) := (iter (xye a0 a1) big 0).bind fun o => (match o with
 | (.inl _) => some (x5c, x5c, false)
 | (.inr r) => some r)
def xod := aI (aI (@EV) (@R3)) (aI (@R9) (@mixed))
set_option maxHeartbeats 2000000 in
theorem xad (a0 : ByteArray) (a1 : Int) (r : ByteArray × ByteArray × Bool) (hm0 : xpb a0 a1 = some r) : Ok Tryd.prog 32 [str a0, ik .u8 a1] (.tup [str r.1, str r.2.1, bool r.2.2]) := by
 unfold xpb at hm0
 refine okG xuq ?_
 unfold xkl
 obtain ⟨o0, ho0, hm0⟩ := bsE hm0
 simp only [xod, ↓EVd, isCall, sevalprocAttr]
 refine cwp_cx 0 (fun s => (.inl ()) = o0) ?_ fun J0_0 hJ0_0 => ?_
 · rintro T0 H0 x3 rfl
   try dsimp only at hm0
   obtain rfl := Option.some.inj hm0
   simp only [xod, ↓EVd, isCall, sevalprocAttr]
   all_goals first | done | rfl | exact xe (by simp only [CLO]) | exact xi (by simp only [CLO]) (Sub.tup (Subs.cons (Sub.refl _) (Subs.cons (Sub.refl _) (Subs.cons (Sub.refl _) (Subs.nil)))))
 refine cwp_lp ho0 (fun v2 s => s.T 0 = str a0 ∧ s.T 1 = ik .u8 a1 ∧ s.T 7 = int v2) ?_ ?_
 · refine TI.here ⟨?_, ?_, ?_⟩
   all_goals try simp only [xod, ↓EVd, isCall, sevalprocAttr]
   all_goals first | omega | exact lq (by omega) | exact nq (by omega) | rfl | (congr 1; omega)
 rintro I0 v2 T0 H0 x1 st0 kk0 hm1 hI0 hO0
 dsimp only [Lq, Nq] at kk0
 simp only [xye] at hm1
 rcases iteE hm1 with ⟨e5, hm1⟩ | ⟨e5, hm1⟩
 · obtain ⟨v6, e8, hm1⟩ := ixBE hm1
   rcases iteE hm1 with ⟨e10, hm1⟩ | ⟨e10, hm1⟩
   · obtain ⟨v11, h12, hm1⟩ := bsE hm1
     have e13 := show xhd Tryd.prog 9 (str a0) none (some (int v2)) none = some (str v11) from xaq (by kernel_rfl) h12
     obtain ⟨v14, h15, hm1⟩ := bsE hm1
     have e16 := show xhd Tryd.prog 9 (str a0) (some (int (wr (v2 + 1)))) none none = some (str v14) from xaq (by kernel_rfl) h15
     obtain rfl := Option.some.inj hm1
     obtain rfl := hO0 _ rfl
     try dsimp only at hm0
     obtain rfl := Option.some.inj hm0
     simp only [kk0, e5, e8, e10, e13, e16, xod, ↓EVd, isCall, sevalprocAttr]
     all_goals first | done | rfl | exact xe (by simp only [CLO]) | exact xi (by simp only [CLO]) (Sub.tup (Subs.cons (Sub.refl _) (Subs.cons (Sub.refl _) (Subs.cons (Sub.refl _) (Subs.nil)))))
   obtain rfl := Option.some.inj hm1
   simp only [kk0, e5, e8, e10, xod, ↓EVd, isCall, sevalprocAttr]
   refine TI.here (hI0 _ rfl _ ⟨?_, ?_, ?_⟩)
   all_goals try simp only [kk0, e5, e8, e10, xod, ↓EVd, isCall, sevalprocAttr]
   all_goals first | omega | exact lq (by omega) | exact nq (by omega) | rfl | (congr 1; omega)
 obtain rfl := Option.some.inj hm1
 simp only [kk0, e5, xod, ↓EVd, isCall, sevalprocAttr]
 refine TI.here (hJ0_0 _ (hO0 _ rfl))
def x3d (a0 : ByteArray) : Int → Option (St (Int) ((Unit) ⊕ (Int)))
 | v2 => if v2 ≤ 23 then (xkc v2).bind fun v6 => if v6 = a0 then some (.out (.inr v2))
 else some (.nx (wr (v2 + 1)))
 else some (.out (.inl ()))
def x7d (a0 : ByteArray) : Option (Int) := (iter (x3d a0) big 1).bind fun o => (match o with
 | (.inl _) => some 0
 | (.inr r) => some r)
def xhc := aI (@EV) (aI (@R3) (@R9))
set_option maxHeartbeats 2000000 in
theorem xvn (a0 : ByteArray) (r : Int) (hm0 : x7d a0 = some r) : Ok Tryd.prog 34 [str a0] (int r) := by
 unfold x7d at hm0
 refine okG xon ?_
 unfold xgj
 obtain ⟨o0, ho0, hm0⟩ := bsE hm0
 simp only [xhc, ↓EVd, isCall, sevalprocAttr]
 refine cwp_cx 0 (fun s => (.inl ()) = o0) ?_ fun J0_0 hJ0_0 => ?_
 · rintro T0 H0 x3 rfl
   try dsimp only at hm0
   obtain rfl := Option.some.inj hm0
   simp only [xhc, ↓EVd, isCall, sevalprocAttr]
   all_goals first | done | rfl
 refine cwp_lp ho0 (fun v2 s => s.T 0 = str a0 ∧ s.T 3 = int v2) ?_ ?_
 · refine TI.here ⟨?_, ?_⟩
   all_goals try simp only [xhc, ↓EVd, isCall, sevalprocAttr]
   all_goals first | omega | exact lq (by omega) | exact nq (by omega) | rfl | (congr 1; omega)
 rintro I0 v2 T0 H0 x1 st0 kk0 hm1 hI0 hO0
 dsimp only [Lq, Nq] at kk0
 simp only [x3d] at hm1
 rcases iteE hm1 with ⟨e5, hm1⟩ | ⟨e5, hm1⟩
 · obtain ⟨v6, h7, hm1⟩ := bsE hm1
   simp only [kk0, e5, xhc, ↓EVd, isCall, sevalprocAttr]
   refine qc (xvf _ _ h7) rfl ?_
   rcases iteE hm1 with ⟨e9, hm1⟩ | ⟨e9, hm1⟩
   · obtain rfl := Option.some.inj hm1
     obtain rfl := hO0 _ rfl
     try dsimp only at hm0
     obtain rfl := Option.some.inj hm0
     simp only [kk0, e5, e9, xhc, ↓EVd, isCall, sevalprocAttr]
     all_goals first | done | rfl
   obtain rfl := Option.some.inj hm1
   simp only [kk0, e5, e9, xhc, ↓EVd, isCall, sevalprocAttr]
   refine TI.here (hI0 _ rfl _ ⟨?_, ?_⟩)
   all_goals try simp only [kk0, e5, e9, xhc, ↓EVd, isCall, sevalprocAttr]
   all_goals first | omega | exact lq (by omega) | exact nq (by omega) | rfl | (congr 1; omega)
 obtain rfl := Option.some.inj hm1
 simp only [kk0, e5, xhc, ↓EVd, isCall, sevalprocAttr]
 refine TI.here (hJ0_0 _ (hO0 _ rfl))
end Go.Proofs.YtjmnoaoeediodaaDoor.AL

/- Plain laws of chapter 37: the document's numbers, cuts and names. -/
set_option linter.all false
namespace Go.Proofs.YtjmnoaoeediodaaDoor.AL
open Go Go.Proofs Go.Lib
theorem xok (n : Int) : xkc n = some (bB (wordL n)) := by
  unfold xkc
  by_cases h1 : n < 1
  · rw [if_pos h1, xpg (.inl h1)]; rfl
  · rw [if_neg h1]
    by_cases h2 : 23 < n
    · rw [if_pos h2, xpg (.inr h2)]; rfl
    · rw [if_neg h2]
      have := of_fin (p := fun n => (x9e.bind fun v5 => (ix v5 n).bind fun v7 => some v7) = some (bB (wordL n))) (by decide +kernel) (n := n) (by omega) (by omega)
      exact this
theorem xks (n : Int) : xrd n = some (bB (wordQ n)) := by
  unfold xrd
  rw [xok]
  simp only [Option.bind_some, c0, bB_iff]
  unfold wordQ
  by_cases h : wordL n = []
  · rw [if_pos h, if_pos h]; rfl
  · rw [if_neg h, if_neg h]
theorem wB_dg {d : Nat} (h : d < 10) : wB (wr (48 + (d : Int))) = UInt8.ofNat (48 + d) := by
  have : ∀ d : Fin 10, wB (wr (48 + (d.val : Int))) = UInt8.ofNat (48 + d.val) := by decide +kernel
  exact this ⟨d, h⟩
def dgs (u : Nat) : List UInt8 := if u = 0 then [] else decDigits u
theorem xxv {u : Nat} (hu : 0 < u) (s : List UInt8) : dgs (u / 10) ++ UInt8.ofNat (48 + u % 10) :: s = dgs u ++ s := by
  have := xly hu s
  unfold dgs
  rw [this, if_neg (by omega)]
theorem xcw {u : Nat} (hu : 0 < u) {v : Int} (hv : v = (u : Int) ∨ v = -(u : Int)) (hi : i64 v) {s : List UInt8} (hs : s.length ≤ 100) :
    ∃ v', xac (v, bB s) = some (.nx (v', bB (UInt8.ofNat (48 + u % 10) :: s))) ∧ (v' = ((u / 10 : Nat) : Int) ∨ v' = -((u / 10 : Nat) : Int)) ∧ i64 v' := by
  obtain ⟨i0, i1⟩ := hi
  have hd : u % 10 < 10 := Nat.mod_lt _ (by decide)
  have e10 : (10 : Int) = ((10 : Nat) : Int) := rfl
  have t1 : ((u : Int)).tmod 10 = ((u % 10 : Nat) : Int) := by rw [e10, ← Int.ofNat_tmod]
  have t2 : ((u : Int)).tdiv 10 = ((u / 10 : Nat) : Int) := by rw [e10, ← Int.ofNat_tdiv]
  simp only [xac]
  rw [if_neg (by omega)]
  have hone : ∀ b : UInt8, xgc ([b] : List UInt8) = bB [b] := fun b => rfl
  rcases hv with rfl | rfl
  · have hw : wr (((u / 10 : Nat) : Int)) = ((u / 10 : Nat) : Int) := wr_in (by omega) (by omega)
    rw [t1, t2, if_neg (by omega), wB_dg hd, hone, hw]
    rw [ckY (by rw [xf, xf]; simp; omega)]
    simp only [Option.bind_some, bB_app, List.singleton_append]
    exact ⟨_, rfl, .inl rfl, by constructor <;> omega⟩
  · have n1 : (-(u : Int)).tmod 10 = -((u % 10 : Nat) : Int) := by rw [Int.neg_tmod, t1]
    have n2 : (-(u : Int)).tdiv 10 = -((u / 10 : Nat) : Int) := by rw [Int.neg_tdiv, t2]
    have hw : wr (-((u / 10 : Nat) : Int)) = -((u / 10 : Nat) : Int) := wr_in (by omega) (by omega)
    rw [n1, n2]
    by_cases h0 : u % 10 = 0
    · rw [h0, if_neg (by omega), show -((0 : Nat) : Int) = ((0 : Nat) : Int) from rfl, wB_dg (by decide), hone, hw]
      rw [ckY (by rw [xf, xf]; simp; omega)]
      simp only [Option.bind_some, bB_app, List.singleton_append]
      exact ⟨_, rfl, .inr rfl, by constructor <;> omega⟩
    · have hneg : wr (0 - -((u % 10 : Nat) : Int)) = ((u % 10 : Nat) : Int) := by rw [wr_in (by omega) (by omega)]; omega
      rw [if_pos (by omega), hneg, wB_dg hd, hone, hw]
      rw [ckY (by rw [xf, xf]; simp; omega)]
      simp only [Option.bind_some, bB_app, List.singleton_append]
      exact ⟨_, rfl, .inr rfl, by constructor <;> omega⟩
theorem xhp (s : ByteArray) : xac (0, s) = some (.out s) := by simp [xac]
theorem xqo : itoa 0 = [48] := by
  unfold itoa
  rw [if_neg (by decide)]
  exact decDigits_one (i := 0) (by decide)
theorem xhx : ∀ (d u k : Nat) (v : Int) (s : List UInt8), u < 10 ^ d → d + 1 ≤ k → (v = (u : Int) ∨ v = -(u : Int)) → i64 v → s.length + d ≤ 100 → iter xac k (v, bB s) = some (bB (dgs u ++ s)) := by
  intro d
  induction d with
  | zero =>
    intro u k v s hu hk hv hi hs
    obtain ⟨k, rfl⟩ : ∃ j, k = j + 1 := ⟨k - 1, by omega⟩
    have h0 : u = 0 := by simpa using hu
    subst h0
    have hv0 : v = 0 := by omega
    subst hv0
    rw [xp, xhp]
    rfl
  | succ d ih =>
    intro u k v s hu hk hv hi hs
    obtain ⟨k, rfl⟩ : ∃ j, k = j + 1 := ⟨k - 1, by omega⟩
    by_cases h0 : u = 0
    · subst h0
      have hv0 : v = 0 := by omega
      subst hv0
      rw [xp, xhp]
      rfl
    · obtain ⟨v', e1, e2, e3⟩ := xcw (Nat.pos_of_ne_zero h0) hv hi (s := s) (by omega)
      rw [xp, e1]
      simp only [Option.bind_some]
      rw [ih (u / 10) k v' _ (by rw [Nat.pow_succ] at hu; omega) (by omega) e2 e3 (by simp; omega), xxv (Nat.pos_of_ne_zero h0)]
theorem xee {v : Int} (h : i64 v) : x5b v = some (bB (itoa v)) := by
  obtain ⟨h0, h1⟩ := h
  have hb : x4f = xac := rfl
  unfold x5b
  by_cases hz : v = 0
  · subst hz
    rw [if_pos rfl, xqo]
    rfl
  · rw [if_neg hz, hb, c0]
    have hl := xhx 19 v.natAbs big v [] (by omega) (by rw [big_eq]; omega) (by omega) ⟨h0, h1⟩ (by simp)
    rw [hl]
    simp only [Option.bind_some, List.append_nil]
    have hd : dgs v.natAbs = decDigits v.natAbs := by unfold dgs; rw [if_neg (by omega)]
    rw [hd]
    have hlen : (decDigits v.natAbs).length ≤ 21 := by
      have := xtd (v := v) ⟨h0, h1⟩
      unfold itoa at this
      split at this
      · simp at this; omega
      · have e : v.toNat = v.natAbs := by omega
        rw [e] at this
        exact this
    by_cases hn : v < 0
    · rw [if_pos hn, ckY (by rw [xf]; show 1 + _ ≤ _; omega)]
      simp only [Option.bind_some]
      have : ByteArray.mk #[45] = bB [45] := rfl
      rw [this, bB_app]
      unfold itoa
      rw [if_pos hn]
      rfl
    · rw [if_neg hn]
      unfold itoa
      rw [if_neg hn]
      have e : v.toNat = v.natAbs := by omega
      rw [e]
end Go.Proofs.YtjmnoaoeediodaaDoor.AL

/- Plain laws of chapter 37: a text that is read, by the document. -/
set_option linter.all false
namespace Go.Proofs.YtjmnoaoeediodaaDoor.AL
open Go Go.Proofs Go.Lib
theorem ixB_l {l : List UInt8} {i : Nat} (h : i < l.length) : ixB (bB l) (i : Int) = some l[i] := by
  unfold ixB
  rw [if_pos (by omega), Int.toNat_natCast]
  have : (bB l)[i]? = (bB l).data[i]? := rfl
  have hs : i < (bB l).size := by rw [xf]; exact h
  rw [getElem?_pos (bB l) i hs]
  rfl
def cutR (s : List UInt8) (c : UInt8) : List UInt8 × List UInt8 × Bool := if (cut s [c]).2.2 = true then cut s [c] else ([], [], false)
theorem x1d {c : UInt8} {x : List UInt8} (r : List UInt8) (h : c ∉ x) : cutR (x ++ c :: r) c = (x, r, true) := by
  unfold cutR
  rw [xah r h]
  rfl
theorem xxh {c : UInt8} {x : List UInt8} (h : c ∉ x) : cutR x c = ([], [], false) := by
  unfold cutR
  rw [xbx h]
  rfl
theorem xnq (l : List UInt8) (i : Nat) (h : i ≤ l.length) : (bB l).extract 0 i = bB (l.take i) := by
  apply ByteArray.ext
  simp [bB, ByteArray.data_extract]
theorem x1p (l : List UInt8) (i : Nat) : (bB l).extract i l.length = bB (l.drop i) := by
  apply ByteArray.ext
  simp [bB, ByteArray.data_extract]
  exact List.take_of_length_le (by simp)
theorem xif {s : List UInt8} (hs : s.length ≤ 100000) (c : UInt8) : xpb (bB s) (c.toNat : Int) = some (bB (cutR s c).1, bB (cutR s c).2.1, (cutR s c).2.2) := by
  unfold xpb
  obtain ⟨r, h1, h2⟩ := xkg (B := xye (bB s) (c.toNat : Int)) (R := fun r => (r = .inl () ∧ c ∉ s) ∨ ∃ i : Nat, ∃ h : i < s.length, s[i] = c ∧ (∀ j (hj : j < s.length), j < i → s[j] ≠ c) ∧ r = .inr (bB (s.take i), bB (s.drop (i + 1)), true))
    (fun i t => t = (i : Int) ∧ i ≤ s.length ∧ ∀ j (hj : j < s.length), j < i → s[j] ≠ c) s.length (by
    rintro i t ⟨rfl, hi, hq⟩
    refine ⟨hi, ?_⟩
    simp only [xye]
    have hsz : (((bB s).size : Nat) : Int) = (s.length : Int) := by rw [xf]
    rw [hsz]
    by_cases hlt : i < s.length
    · rw [if_pos (by omega), ixB_l hlt]
      simp only [Option.bind_some]
      by_cases he : s[i] = c
      · rw [if_pos (by rw [he])]
        have e1 : strM (bB s) none (some (i : Int)) = some (bB (s.take i)) := by
          unfold strM
          simp only [Option.getD_none, Option.getD_some]
          rw [if_pos ⟨by omega, by omega, by rw [hsz]; omega⟩]
          have := xnq s i (by omega)
          simpa using this
        have e2 : strM (bB s) (some (wr ((i : Int) + 1))) none = some (bB (s.drop (i + 1))) := by
          have hw : wr ((i : Int) + 1) = ((i + 1 : Nat) : Int) := by rw [wr_in (by omega) (by omega)]; omega
          unfold strM
          rw [hw]
          simp only [Option.getD_none, Option.getD_some]
          rw [if_pos ⟨by omega, by rw [hsz]; omega, by omega⟩]
          have := x1p s (i + 1)
          rw [Int.toNat_natCast, Int.toNat_natCast, xf, this]
        rw [e1, e2]
        exact .inr ⟨_, rfl, .inr ⟨i, hlt, he, hq, rfl⟩⟩
      · rw [if_neg (fun e => he (UInt8.toNat_inj.1 (by omega))), wr_suc (by omega)]
        refine .inl ⟨_, rfl, rfl, by omega, fun j hj hji => ?_⟩
        by_cases e : j = i
        · subst e; exact he
        · exact hq j hj (by omega)
    · rw [if_neg (by omega)]
      refine .inr ⟨_, rfl, .inl ⟨rfl, fun hm => ?_⟩⟩
      obtain ⟨j, hj, e⟩ := List.getElem_of_mem hm
      exact hq j hj (by omega) e) big 0 0 ⟨rfl, by omega, fun j hj h => by omega⟩ (by rw [big_eq]; omega)
  rw [h1]
  simp only [Option.bind_some]
  rcases h2 with ⟨rfl, h2⟩ | ⟨i, hi, he, hq, rfl⟩
  · rw [xxh h2]; rfl
  · have hsp : s = s.take i ++ c :: s.drop (i + 1) := by
      have := List.drop_eq_getElem_cons hi
      rw [he] at this
      rw [← this]
      exact (List.take_append_drop i s).symm
    have hfree : c ∉ s.take i := by
      intro hm
      obtain ⟨j, hj, e⟩ := List.getElem_of_mem hm
      simp only [List.length_take] at hj
      rw [List.getElem_take] at e
      exact hq j (by omega) (by omega) e
    have := x1d (s.drop (i + 1)) hfree
    rw [← hsp] at this
    rw [this]
theorem x4q (w : List UInt8) : x7d (bB w) = some (numL w) := by
  unfold x7d
  obtain ⟨r, h1, h2⟩ := xkg (B := x3d (bB w)) (R := fun r => (r = .inl () ∧ ∀ n : Int, 1 ≤ n → n ≤ 23 → wordL n ≠ w) ∨ ∃ n : Int, 1 ≤ n ∧ n ≤ 23 ∧ wordL n = w ∧ r = .inr n)
    (fun i t => t = (i : Int) + 1 ∧ i ≤ 23 ∧ ∀ n : Int, 1 ≤ n → n ≤ (i : Int) → wordL n ≠ w) 23 (by
    rintro i t ⟨rfl, hi, hq⟩
    refine ⟨hi, ?_⟩
    simp only [x3d]
    by_cases hlt : i < 23
    · rw [if_pos (by omega), xok]
      simp only [Option.bind_some, bB_iff]
      by_cases he : wordL ((i : Int) + 1) = w
      · rw [if_pos he]
        exact .inr ⟨_, rfl, .inr ⟨_, by omega, by omega, he, rfl⟩⟩
      · rw [if_neg he]
        have hw : wr ((i : Int) + 1 + 1) = ((i + 1 : Nat) : Int) + 1 := by rw [wr_in (by omega) (by omega)]; omega
        rw [hw]
        refine .inl ⟨_, rfl, rfl, by omega, fun n h0 h1 => ?_⟩
        by_cases e : n = (i : Int) + 1
        · rw [e]; exact he
        · exact hq n h0 (by omega)
    · rw [if_neg (by omega)]
      exact .inr ⟨_, rfl, .inl ⟨rfl, fun n h0 h1 => hq n h0 (by omega)⟩⟩) big 0 1 ⟨rfl, by omega, fun n h0 h1 => by omega⟩ (by rw [big_eq]; omega)
  rw [h1]
  simp only [Option.bind_some]
  rcases h2 with ⟨rfl, h2⟩ | ⟨n, h3, h4, h5, rfl⟩
  · have : numL w = 0 := by
      by_cases h : numL w = 0
      · exact h
      · obtain ⟨a, b, c⟩ := x7i h
        exact absurd c (h2 _ a b)
    rw [this]
  · rw [← h5, xuh h3 h4]
def numR (s : List UInt8) : Int × Bool := match atoiAll s with
  | .ok v => if itoa v = s then (v, true) else (0, false)
  | _ => (0, false)
theorem xnh {v : Int} (h : i64 v) : numR (itoa v) = (v, true) := by
  unfold numR
  rw [xrh h.1 h.2]
  simp only [if_true]
theorem xri {s : List UInt8} (h : ∀ v, i64 v → itoa v ≠ s) : numR s = (0, false) := by
  unfold numR
  split
  · rename_i v hv
    rw [if_neg (h v (atoiAll_bounds hv))]
  · rfl
theorem x5r {s : List UInt8} (h : (numR s).2 = true) : i64 (numR s).1 ∧ itoa (numR s).1 = s := by
  by_cases hx : ∃ v, i64 v ∧ itoa v = s
  · obtain ⟨v, hv, rfl⟩ := hx
    rw [xnh hv]
    exact ⟨hv, rfl⟩
  · rw [xri (fun v hv e => hx ⟨v, hv, e⟩)] at h
    cases h
def valD (a : Nat) (l : List UInt8) : Nat := l.foldl (fun a c => a * 10 + (c.toNat - 48)) a
theorem x1i (a : Nat) (l r : List UInt8) : valD a (l ++ r) = valD (valD a l) r := by unfold valD; rw [List.foldl_append]
theorem x1r : ∀ (l : List UInt8) (a : Nat), a ≤ valD a l
  | [], a => Nat.le_refl _
  | c :: l, a => by
    have := x1r l (a * 10 + (c.toNat - 48))
    show a ≤ valD (a * 10 + (c.toNat - 48)) l
    omega
theorem xno (l : List UInt8) (i : Nat) : valD 0 (l.take i) ≤ valD 0 l := by
  conv => rhs; rw [← List.take_append_drop i l, x1i]
  exact x1r _ _
theorem xop : ∀ u : Nat, valD 0 (decDigits u) = u := by
  intro u
  induction u using Nat.strongRecOn with
  | _ u ih =>
    rw [decDigits]
    split
    · rename_i h
      show 0 * 10 + ((UInt8.ofNat (48 + u)).toNat - 48) = u
      rw [dgt h]
      omega
    · rename_i h
      rw [x1i, ih (u / 10) (by omega)]
      show u / 10 * 10 + ((UInt8.ofNat (48 + u % 10)).toNat - 48) = u
      rw [dgt (by omega)]
      omega
theorem xyp (c : UInt8) : wr (IntKind.i64.wrap (c.toNat : Int) - 48) = (c.toNat : Int) - 48 := by
  have h := c.toNat_lt
  have e1 : IntKind.i64.wrap (c.toNat : Int) = (c.toNat : Int) := wr_in (by omega) (by omega)
  rw [e1, wr_in (by omega) (by omega)]
theorem xcz {u : Nat} (hu : u ≤ 9223372036854775807) (hl : (decDigits u).length ≤ 20) : iter (xgb (bB (decDigits u))) big (0, 0) = some (.inl (u : Int)) := by
  have hd := xqd u
  have hv := xop u
  generalize decDigits u = l at hd hl hv ⊢
  have := xff (B := xgb (bB l)) (fun i (a : Nat) => ((a : Int), (i : Int))) l (fun a c => a * 10 + (c.toNat - 48)) (fun a => .inl (a : Int)) (fun i a => a = valD 0 (l.take i)) (by
    rintro i a hi rfl
    have hb := hd l[i] (List.getElem_mem hi)
    have ht : l.take (i + 1) = l.take i ++ [l[i]] := by rw [List.take_succ, List.getElem?_eq_getElem hi]; rfl
    have hn : valD 0 (l.take (i + 1)) = valD 0 (l.take i) * 10 + (l[i].toNat - 48) := by rw [ht, x1i]; rfl
    have hle := xno l (i + 1)
    refine ⟨?_, hn.symm⟩
    simp only [xgb]
    rw [if_pos (by rw [xf]; omega), if_pos (by omega), ixB_l hi]
    simp only [Option.bind_some]
    rw [xyp, if_neg (by omega), if_neg (by omega), wr_suc (by omega)]
    have w1 : wr ((valD 0 (l.take i) : Int) * 10) = (valD 0 (l.take i) : Int) * 10 := wr_in (by omega) (by omega)
    rw [w1, wr_in (by omega) (by omega)]
    congr 3
    omega) (by
    intro a _
    simp only [xgb]
    rw [if_neg (by rw [xf]; omega)]) (s0 := 0) rfl (fuel := big) (by rw [big_eq]; omega)
  have e0 : ((0 : Nat) : Int) = 0 := rfl
  rw [e0] at this
  rw [this.1]
  have : l.foldl (fun a c => a * 10 + (c.toNat - 48)) 0 = u := hv
  rw [this]
theorem xkz {u : Nat} (hu : u ≤ 9223372036854775808) (hl : (decDigits u).length ≤ 20) : iter (xfb (bB (45 :: decDigits u))) big (0, 1) = some (.inl (-(u : Int))) := by
  have hd := xqd u
  have hv := xop u
  generalize decDigits u = l at hd hl hv ⊢
  have := xff (B := xfb (bB (45 :: l))) (fun i (a : Nat) => (-(a : Int), ((i + 1 : Nat) : Int))) l (fun a c => a * 10 + (c.toNat - 48)) (fun a => .inl (-(a : Int))) (fun i a => a = valD 0 (l.take i)) (by
    rintro i a hi rfl
    have hb := hd l[i] (List.getElem_mem hi)
    have ht : l.take (i + 1) = l.take i ++ [l[i]] := by rw [List.take_succ, List.getElem?_eq_getElem hi]; rfl
    have hn : valD 0 (l.take (i + 1)) = valD 0 (l.take i) * 10 + (l[i].toNat - 48) := by rw [ht, x1i]; rfl
    have hle := xno l (i + 1)
    refine ⟨?_, hn.symm⟩
    simp only [xfb]
    have hi2 : i + 1 < (45 :: l).length := by simp; omega
    rw [if_pos (by rw [xf]; simp; omega), if_pos (by omega), ixB_l hi2]
    simp only [Option.bind_some, List.getElem_cons_succ]
    rw [xyp, if_neg (by omega), if_neg (by omega), wr_suc (by omega)]
    have w1 : wr (-(valD 0 (l.take i) : Int) * 10) = -(valD 0 (l.take i) : Int) * 10 := wr_in (by omega) (by omega)
    rw [w1, wr_in (by omega) (by omega)]
    congr 3
    omega) (by
    intro a _
    simp only [xfb]
    rw [if_neg (by rw [xf]; simp)]) (s0 := 0) rfl (fuel := big) (by rw [big_eq]; omega)
  have e0 : (-((0 : Nat) : Int), ((0 + 1 : Nat) : Int)) = (0, 1) := rfl
  rw [e0] at this
  rw [this.1]
  have : l.foldl (fun a c => a * 10 + (c.toNat - 48)) 0 = u := hv
  rw [this]
end Go.Proofs.YtjmnoaoeediodaaDoor.AL

/- Plain laws of chapter 37: the finding of a text, by the document. -/
set_option linter.all false
namespace Go.Proofs.YtjmnoaoeediodaaDoor.AL
open Go Go.Proofs Go.Lib
theorem wr_i64 (x : Int) : i64 (wr x) := by
  unfold wr
  simp only [IntKind.wrap, IntKind.signed, IntKind.bits]
  simp
  constructor <;> omega
theorem xsv {s : List UInt8} (hs : s.length ≤ 100000) : ∃ o, iter (xgb (bB s)) big (0, 0) = some o ∧ (o = .inr (0, false) ∨ ∃ n, i64 n ∧ o = .inl n) := by
  refine xkg (B := xgb (bB s)) (R := fun o => o = .inr (0, false) ∨ ∃ n, i64 n ∧ o = .inl n) (fun i t => t.2 = (i : Int) ∧ i ≤ s.length ∧ i64 t.1) s.length ?_ big 0 (0, 0) ⟨rfl, by omega, by decide⟩ (by rw [big_eq]; omega)
  rintro i ⟨n, q⟩ ⟨h1, h2, h3⟩
  simp only at h1 h3
  subst h1
  refine ⟨h2, ?_⟩
  simp only [xgb]
  by_cases hlt : i < s.length
  · rw [if_pos (by rw [xf]; omega)]
    by_cases h24 : (i : Int) < 24
    · rw [if_pos h24, ixB_l hlt]
      simp only [Option.bind_some]
      split
      · exact .inr ⟨_, rfl, .inl rfl⟩
      · split
        · exact .inr ⟨_, rfl, .inl rfl⟩
        · rw [wr_suc (by omega)]
          exact .inl ⟨_, rfl, rfl, by omega, wr_i64 _⟩
    · rw [if_neg h24]
      exact .inr ⟨_, rfl, .inr ⟨n, h3, rfl⟩⟩
  · rw [if_neg (by rw [xf]; omega)]
    exact .inr ⟨_, rfl, .inr ⟨n, h3, rfl⟩⟩
theorem xbw {s : List UInt8} (hs : s.length ≤ 100000) (h0 : 1 ≤ s.length) : ∃ o, iter (xfb (bB s)) big (0, 1) = some o ∧ (o = .inr (0, false) ∨ ∃ n, i64 n ∧ o = .inl n) := by
  refine xkg (B := xfb (bB s)) (R := fun o => o = .inr (0, false) ∨ ∃ n, i64 n ∧ o = .inl n) (fun i t => t.2 = ((i + 1 : Nat) : Int) ∧ i + 1 ≤ s.length ∧ i64 t.1) s.length ?_ big 0 (0, 1) ⟨rfl, by omega, by decide⟩ (by rw [big_eq]; omega)
  rintro i ⟨n, q⟩ ⟨h1, h2, h3⟩
  simp only at h1 h3
  subst h1
  refine ⟨by omega, ?_⟩
  simp only [xfb]
  by_cases hlt : i + 1 < s.length
  · rw [if_pos (by rw [xf]; omega)]
    by_cases h24 : ((i + 1 : Nat) : Int) < 24
    · rw [if_pos h24, ixB_l hlt]
      simp only [Option.bind_some]
      split
      · exact .inr ⟨_, rfl, .inl rfl⟩
      · split
        · exact .inr ⟨_, rfl, .inl rfl⟩
        · rw [wr_suc (by omega)]
          exact .inl ⟨_, rfl, rfl, by omega, wr_i64 _⟩
    · rw [if_neg h24]
      exact .inr ⟨_, rfl, .inr ⟨n, h3, rfl⟩⟩
  · rw [if_neg (by rw [xf]; omega)]
    exact .inr ⟨_, rfl, .inr ⟨n, h3, rfl⟩⟩
theorem dec_le {u : Nat} (h : u ≤ 9223372036854775808) : (decDigits u).length ≤ 20 := by
  rw [decDigits_length]
  have h1 := nDigits_pos u
  by_cases h0 : u = 0
  · subst h0; rw [nDigits_small (by decide)]; decide
  · rcases Nat.lt_or_ge 20 (nDigits u) with hc | hc
    · have := nDigits_unique 18 u
      by_cases hs : 10 ^ 18 ≤ u
      · have := this hs (by omega)
        omega
      · have hl : (itoa (u : Int)).length ≤ 21 := xtd ⟨by omega, by omega⟩
        have : nDigits u ≤ 18 := by
          rcases Nat.lt_or_ge 18 (nDigits u) with hq | hq
          · exfalso
            have key : ∀ (k v : Nat), v < 10 ^ k → 1 ≤ k → nDigits v ≤ k := by
              intro k
              induction k with
              | zero => intro v _ h; omega
              | succ k ih =>
                intro v hv _
                by_cases hv10 : v < 10
                · rw [nDigits_small hv10]; omega
                · rw [nDigits_big hv10]
                  rw [Nat.pow_succ] at hv
                  have hk : 1 ≤ k := by
                    rcases Nat.eq_zero_or_pos k with rfl | hk
                    · simp at hv; omega
                    · exact hk
                  have := ih (v / 10) (by omega) hk
                  omega
            have := key 18 u (by omega) (by decide)
            omega
          · exact hq
        omega
    · exact hc
theorem xck {s : List UInt8} (hs : s.length ≤ 100000) : x7c (bB s) = some (numR s) := by
  unfold x7c
  cases s with
  | nil =>
    rw [if_neg (by rw [xf]; simp)]
    obtain ⟨k, hk⟩ : ∃ k, big = k + 1 := ⟨big - 1, by rw [big_eq]⟩
    rw [hk, xp]
    simp only [x2e, Option.bind_some]
    rw [xee (by decide)]
    simp only [Option.bind_some, bB_iff]
    rw [if_neg (x6r 0), xri (fun v _ => x6r v)]
  | cons c r =>
    have hpos : 0 < (((bB (c :: r)).size : Nat) : Int) := by rw [xf]; simp
    have h0 : ixB (bB (c :: r)) 0 = some c := ixB_l (l := c :: r) (i := 0) (by simp)
    rw [if_pos hpos, h0]
    simp only [Option.bind_some]
    by_cases hx : ∃ v, i64 v ∧ itoa v = c :: r
    · obtain ⟨v, hv, he⟩ := hx
      have hr := xnh hv
      rw [he] at hr
      rw [hr]
      by_cases hn : v < 0
      · have hu : itoa v = 45 :: decDigits v.natAbs := by unfold itoa; rw [if_pos hn]
        have hb := hv.1
        have hl := xkz (u := v.natAbs) (by omega) (dec_le (by omega))
        rw [← hu, he] at hl
        have hc : c = 45 := by rw [hu] at he; injection he with h1 h2; exact h1.symm
        have ev : -((v.natAbs : Nat) : Int) = v := by omega
        rw [if_pos (by rw [hc]; rfl), hl]
        simp only [Option.bind_some]
        rw [ev, xee hv, he]
        simp only [Option.bind_some]
        rw [if_pos trivial]
      · have hu : itoa v = decDigits v.toNat := by unfold itoa; rw [if_neg hn]
        have hb := hv.2
        have hl := xcz (u := v.toNat) (by omega) (dec_le (by omega))
        rw [← hu, he] at hl
        have hc : ¬ ((c.toNat : Nat) : Int) = 45 := by
          have := xqd v.toNat c (by rw [← hu, he]; simp)
          omega
        have ev : ((v.toNat : Nat) : Int) = v := by omega
        rw [if_neg hc, hl]
        simp only [Option.bind_some]
        rw [ev, xee hv, he]
        simp only [Option.bind_some]
        rw [if_pos trivial]
    · have hx' : ∀ v, i64 v → itoa v ≠ c :: r := fun v hv e => hx ⟨v, hv, e⟩
      rw [xri hx']
      by_cases hc : ((c.toNat : Nat) : Int) = 45
      · rw [if_pos hc]
        obtain ⟨o, h1, h2⟩ := xbw hs (by simp)
        rw [h1]
        simp only [Option.bind_some]
        rcases h2 with rfl | ⟨n, hn, rfl⟩
        · rfl
        · simp only
          rw [xee hn]
          simp only [Option.bind_some, bB_iff]
          rw [if_neg (hx' n hn)]
      · rw [if_neg hc]
        obtain ⟨o, h1, h2⟩ := xsv hs
        rw [h1]
        simp only [Option.bind_some]
        rcases h2 with rfl | ⟨n, hn, rfl⟩
        · rfl
        · simp only
          rw [xee hn]
          simp only [Option.bind_some, bB_iff]
          rw [if_neg (hx' n hn)]
theorem xni (s : List UInt8) (c : UInt8) : (cutR s c).1.length ≤ s.length ∧ (cutR s c).2.1.length ≤ s.length := by
  unfold cutR
  split
  · exact cut_le s [c]
  · simp
end Go.Proofs.YtjmnoaoeediodaaDoor.AL

