/- A law of the given program is proved: part 36 of 51. -/
import Derived.Test.YtfkgckbdknpcnaaGreatDoorA35
set_option linter.all false
/- Models of functions, and that the functions are as their models: written by gen.py. -/
set_option linter.all false
set_option maxRecDepth 100000
namespace Go.Proofs.YtfkgckbdknpcnaaGreatDoor.AL
open Go Go.Proofs
def xue (a0 : Int) : Option (Bool) := if 97 ≤ a0 then if a0 ≤ 122 then some true
 else if 48 ≤ a0 then if a0 ≤ 57 then some true
 else if a0 = 46 then some true
 else if a0 = 95 then some true
 else if a0 = 45 then some true
 else some false
 else if a0 = 46 then some true
 else if a0 = 95 then some true
 else if a0 = 45 then some true
 else some false
 else if 48 ≤ a0 then if a0 ≤ 57 then some true
 else if a0 = 46 then some true
 else if a0 = 95 then some true
 else if a0 = 45 then some true
 else some false
 else if a0 = 46 then some true
 else if a0 = 95 then some true
 else if a0 = 45 then some true
 else some false
def xmb := @EV
set_option maxHeartbeats 2000000 in
theorem x7x (a0 : Int) (r : Bool) (hm0 : xue a0 = some r) : Ok Tryz.prog 84 [ik .u8 a0] (bool r) := by
 unfold xue at hm0
 refine okG xmx ?_
 unfold xdp
 rcases iteE hm0 with ⟨e2, hm0⟩ | ⟨e2, hm0⟩
 · rcases iteE hm0 with ⟨e4, hm0⟩ | ⟨e4, hm0⟩
   · obtain rfl := Option.some.inj hm0
     simp only [e2, e4, xmb, ↓EVd, isCall, sevalprocAttr]
     all_goals first | done | rfl
   rcases iteE hm0 with ⟨e6, hm0⟩ | ⟨e6, hm0⟩
   · rcases iteE hm0 with ⟨e8, hm0⟩ | ⟨e8, hm0⟩
     · obtain rfl := Option.some.inj hm0
       simp only [e2, e4, e6, e8, xmb, ↓EVd, isCall, sevalprocAttr]
       all_goals first | done | rfl
     rcases iteE hm0 with ⟨e10, hm0⟩ | ⟨e10, hm0⟩
     · obtain rfl := Option.some.inj hm0
       simp only [e2, e4, e6, e8, e10, xmb, ↓EVd, isCall, sevalprocAttr]
       all_goals first | done | rfl
     rcases iteE hm0 with ⟨e12, hm0⟩ | ⟨e12, hm0⟩
     · obtain rfl := Option.some.inj hm0
       simp only [e2, e4, e6, e8, e10, e12, xmb, ↓EVd, isCall, sevalprocAttr]
       all_goals first | done | rfl
     rcases iteE hm0 with ⟨e14, hm0⟩ | ⟨e14, hm0⟩
     · obtain rfl := Option.some.inj hm0
       simp only [e2, e4, e6, e8, e10, e12, e14, xmb, ↓EVd, isCall, sevalprocAttr]
       all_goals first | done | rfl
     obtain rfl := Option.some.inj hm0
     simp only [e2, e4, e6, e8, e10, e12, e14, xmb, ↓EVd, isCall, sevalprocAttr]
     all_goals first | done | rfl
   rcases iteE hm0 with ⟨e16, hm0⟩ | ⟨e16, hm0⟩
   · obtain rfl := Option.some.inj hm0
     simp only [e2, e4, e6, e16, xmb, ↓EVd, isCall, sevalprocAttr]
     all_goals first | done | rfl
   rcases iteE hm0 with ⟨e18, hm0⟩ | ⟨e18, hm0⟩
   · obtain rfl := Option.some.inj hm0
     simp only [e2, e4, e6, e16, e18, xmb, ↓EVd, isCall, sevalprocAttr]
     all_goals first | done | rfl
   rcases iteE hm0 with ⟨e20, hm0⟩ | ⟨e20, hm0⟩
   · obtain rfl := Option.some.inj hm0
     simp only [e2, e4, e6, e16, e18, e20, xmb, ↓EVd, isCall, sevalprocAttr]
     all_goals first | done | rfl
   obtain rfl := Option.some.inj hm0
   simp only [e2, e4, e6, e16, e18, e20, xmb, ↓EVd, isCall, sevalprocAttr]
   all_goals first | done | rfl
 rcases iteE hm0 with ⟨e22, hm0⟩ | ⟨e22, hm0⟩
 · rcases iteE hm0 with ⟨e24, hm0⟩ | ⟨e24, hm0⟩
   · obtain rfl := Option.some.inj hm0
     simp only [e2, e22, e24, xmb, ↓EVd, isCall, sevalprocAttr]
     all_goals first | done | rfl
   rcases iteE hm0 with ⟨e26, hm0⟩ | ⟨e26, hm0⟩
   · obtain rfl := Option.some.inj hm0
     simp only [e2, e22, e24, e26, xmb, ↓EVd, isCall, sevalprocAttr]
     all_goals first | done | rfl
   rcases iteE hm0 with ⟨e28, hm0⟩ | ⟨e28, hm0⟩
   · obtain rfl := Option.some.inj hm0
     simp only [e2, e22, e24, e26, e28, xmb, ↓EVd, isCall, sevalprocAttr]
     all_goals first | done | rfl
   rcases iteE hm0 with ⟨e30, hm0⟩ | ⟨e30, hm0⟩
   · obtain rfl := Option.some.inj hm0
     simp only [e2, e22, e24, e26, e28, e30, xmb, ↓EVd, isCall, sevalprocAttr]
     all_goals first | done | rfl
   obtain rfl := Option.some.inj hm0
   simp only [e2, e22, e24, e26, e28, e30, xmb, ↓EVd, isCall, sevalprocAttr]
   all_goals first | done | rfl
 rcases iteE hm0 with ⟨e32, hm0⟩ | ⟨e32, hm0⟩
 · obtain rfl := Option.some.inj hm0
   simp only [e2, e22, e32, xmb, ↓EVd, isCall, sevalprocAttr]
   all_goals first | done | rfl
 rcases iteE hm0 with ⟨e34, hm0⟩ | ⟨e34, hm0⟩
 · obtain rfl := Option.some.inj hm0
   simp only [e2, e22, e32, e34, xmb, ↓EVd, isCall, sevalprocAttr]
   all_goals first | done | rfl
 rcases iteE hm0 with ⟨e36, hm0⟩ | ⟨e36, hm0⟩
 · obtain rfl := Option.some.inj hm0
   simp only [e2, e22, e32, e34, e36, xmb, ↓EVd, isCall, sevalprocAttr]
   all_goals first | done | rfl
 obtain rfl := Option.some.inj hm0
 simp only [e2, e22, e32, e34, e36, xmb, ↓EVd, isCall, sevalprocAttr]
 all_goals first | done | rfl
def xte (a0 : ByteArray) : Int → Option (St (Int) ((Unit) ⊕ (Bool)))
 | v10 => if v10 < (a0.size : Int) then (ixB a0 v10).bind fun v14 => (xue (v14.toNat : Int)).bind fun v17 => if (!v17) = true then some (.out (.inr false))
 else some (.nx (wr (v10 + 1)))
 else some (.out (.inl ()))
def x0c (a0 : ByteArray) : Option (Bool) := if (a0.size : Int) < 1 then some false
 else if 12 < (a0.size : Int) then some false
 else if a0 = (ByteArray.mk #[46]) then some false
 else if a0 = (ByteArray.mk #[46, 46]) then some false
 else (iter (xte a0) big 0).bind fun o => (match o with
 | (.inl _) => some true
 | (.inr r) => some r)
def xnc := aI (@EV) (aI (@R3) (@R9))
set_option maxHeartbeats 2000000 in
theorem xwj (a0 : ByteArray) (r : Bool) (hm0 : x0c a0 = some r) : Ok Tryz.prog 55 [str a0] (bool r) := by
 unfold x0c at hm0
 refine okG xaz ?_
 unfold xvr
 rcases iteE hm0 with ⟨e2, hm0⟩ | ⟨e2, hm0⟩
 · obtain rfl := Option.some.inj hm0
   simp only [e2, xnc, ↓EVd, isCall, sevalprocAttr]
   all_goals first | done | rfl
 rcases iteE hm0 with ⟨e4, hm0⟩ | ⟨e4, hm0⟩
 · obtain rfl := Option.some.inj hm0
   simp only [e2, e4, xnc, ↓EVd, isCall, sevalprocAttr]
   all_goals first | done | rfl
 rcases iteE hm0 with ⟨e6, hm0⟩ | ⟨e6, hm0⟩
 · obtain rfl := Option.some.inj hm0
   simp only [e2, e4, e6, xnc, ↓EVd, isCall, sevalprocAttr]
   all_goals first | done | rfl
 rcases iteE hm0 with ⟨e8, hm0⟩ | ⟨e8, hm0⟩
 · obtain rfl := Option.some.inj hm0
   simp only [e2, e4, e6, e8, xnc, ↓EVd, isCall, sevalprocAttr]
   all_goals first | done | rfl
 obtain ⟨o0, ho0, hm0⟩ := bsE hm0
 simp only [e2, e4, e6, e8, xnc, ↓EVd, isCall, sevalprocAttr]
 refine cwp_cx 0 (fun s => (.inl ()) = o0) ?_ fun J0_0 hJ0_0 => ?_
 · rintro T0 H0 x11 rfl
   try dsimp only at hm0
   obtain rfl := Option.some.inj hm0
   simp only [e2, e4, e6, e8, xnc, ↓EVd, isCall, sevalprocAttr]
   all_goals first | done | rfl
 refine cwp_lp ho0 (fun v10 s => s.T 0 = str a0 ∧ s.T 3 = int v10) ?_ ?_
 · refine TI.here ⟨?_, ?_⟩
   all_goals try simp only [e2, e4, e6, e8, xnc, ↓EVd, isCall, sevalprocAttr]
   all_goals first | omega | exact lq (by omega) | exact nq (by omega) | rfl | (congr 1; omega)
 rintro I0 v10 T0 H0 x9 st0 kk0 hm1 hI0 hO0
 dsimp only [Lq, Nq] at kk0
 simp only [xte] at hm1
 rcases iteE hm1 with ⟨e13, hm1⟩ | ⟨e13, hm1⟩
 · obtain ⟨v14, e16, hm1⟩ := ixBE hm1
   obtain ⟨v17, h18, hm1⟩ := bsE hm1
   simp only [kk0, e2, e4, e6, e8, e13, e16, xnc, ↓EVd, isCall, sevalprocAttr]
   refine qc (x7x _ _ h18) rfl ?_
   rcases itbE hm1 with ⟨e20, hm1⟩ | ⟨e20, hm1⟩
   · obtain rfl := Option.some.inj hm1
     obtain rfl := hO0 _ rfl
     try dsimp only at hm0
     obtain rfl := Option.some.inj hm0
     simp only [kk0, e2, e4, e6, e8, e13, e16, e20, xnc, ↓EVd, isCall, sevalprocAttr]
     all_goals first | done | rfl
   obtain rfl := Option.some.inj hm1
   simp only [kk0, e2, e4, e6, e8, e13, e16, e20, xnc, ↓EVd, isCall, sevalprocAttr]
   refine TI.here (hI0 _ rfl _ ⟨?_, ?_⟩)
   all_goals try simp only [kk0, e2, e4, e6, e8, e13, e16, e20, xnc, ↓EVd, isCall, sevalprocAttr]
   all_goals first | omega | exact lq (by omega) | exact nq (by omega) | rfl | (congr 1; omega)
 obtain rfl := Option.some.inj hm1
 simp only [kk0, e2, e4, e6, e8, e13, xnc, ↓EVd, isCall, sevalprocAttr]
 refine TI.here (hJ0_0 _ (hO0 _ rfl))
def xjk (a0 : Int) : Option (Bool) := if 97 ≤ a0 then if a0 ≤ 122 then some true
 else if 48 ≤ a0 then if a0 ≤ 57 then some true
 else if a0 = 46 then some true
 else if a0 = 95 then some true
 else if a0 = 45 then some true
 else some false
 else if a0 = 46 then some true
 else if a0 = 95 then some true
 else if a0 = 45 then some true
 else some false
 else if 48 ≤ a0 then if a0 ≤ 57 then some true
 else if a0 = 46 then some true
 else if a0 = 95 then some true
 else if a0 = 45 then some true
 else some false
 else if a0 = 46 then some true
 else if a0 = 95 then some true
 else if a0 = 45 then some true
 else some false
def xrb := @EV
set_option maxHeartbeats 2000000 in
theorem xrz (a0 : Int) (r : Bool) (hm0 : xjk a0 = some r) : Ok Tryz.prog 82 [ik .i32 a0] (bool r) := by
 unfold xjk at hm0
 refine okG xsz ?_
 unfold xer
 rcases iteE hm0 with ⟨e2, hm0⟩ | ⟨e2, hm0⟩
 · rcases iteE hm0 with ⟨e4, hm0⟩ | ⟨e4, hm0⟩
   · obtain rfl := Option.some.inj hm0
     simp only [e2, e4, xrb, ↓EVd, isCall, sevalprocAttr]
     all_goals first | done | rfl
   rcases iteE hm0 with ⟨e6, hm0⟩ | ⟨e6, hm0⟩
   · rcases iteE hm0 with ⟨e8, hm0⟩ | ⟨e8, hm0⟩
     · obtain rfl := Option.some.inj hm0
       simp only [e2, e4, e6, e8, xrb, ↓EVd, isCall, sevalprocAttr]
       all_goals first | done | rfl
     rcases iteE hm0 with ⟨e10, hm0⟩ | ⟨e10, hm0⟩
     · obtain rfl := Option.some.inj hm0
       simp only [e2, e4, e6, e8, e10, xrb, ↓EVd, isCall, sevalprocAttr]
       all_goals first | done | rfl
     rcases iteE hm0 with ⟨e12, hm0⟩ | ⟨e12, hm0⟩
     · obtain rfl := Option.some.inj hm0
       simp only [e2, e4, e6, e8, e10, e12, xrb, ↓EVd, isCall, sevalprocAttr]
       all_goals first | done | rfl
     rcases iteE hm0 with ⟨e14, hm0⟩ | ⟨e14, hm0⟩
     · obtain rfl := Option.some.inj hm0
       simp only [e2, e4, e6, e8, e10, e12, e14, xrb, ↓EVd, isCall, sevalprocAttr]
       all_goals first | done | rfl
     obtain rfl := Option.some.inj hm0
     simp only [e2, e4, e6, e8, e10, e12, e14, xrb, ↓EVd, isCall, sevalprocAttr]
     all_goals first | done | rfl
   rcases iteE hm0 with ⟨e16, hm0⟩ | ⟨e16, hm0⟩
   · obtain rfl := Option.some.inj hm0
     simp only [e2, e4, e6, e16, xrb, ↓EVd, isCall, sevalprocAttr]
     all_goals first | done | rfl
   rcases iteE hm0 with ⟨e18, hm0⟩ | ⟨e18, hm0⟩
   · obtain rfl := Option.some.inj hm0
     simp only [e2, e4, e6, e16, e18, xrb, ↓EVd, isCall, sevalprocAttr]
     all_goals first | done | rfl
   rcases iteE hm0 with ⟨e20, hm0⟩ | ⟨e20, hm0⟩
   · obtain rfl := Option.some.inj hm0
     simp only [e2, e4, e6, e16, e18, e20, xrb, ↓EVd, isCall, sevalprocAttr]
     all_goals first | done | rfl
   obtain rfl := Option.some.inj hm0
   simp only [e2, e4, e6, e16, e18, e20, xrb, ↓EVd, isCall, sevalprocAttr]
   all_goals first | done | rfl
 rcases iteE hm0 with ⟨e22, hm0⟩ | ⟨e22, hm0⟩
 · rcases iteE hm0 with ⟨e24, hm0⟩ | ⟨e24, hm0⟩
   · obtain rfl := Option.some.inj hm0
     simp only [e2, e22, e24, xrb, ↓EVd, isCall, sevalprocAttr]
     all_goals first | done | rfl
   rcases iteE hm0 with ⟨e26, hm0⟩ | ⟨e26, hm0⟩
   · obtain rfl := Option.some.inj hm0
     simp only [e2, e22, e24, e26, xrb, ↓EVd, isCall, sevalprocAttr]
     all_goals first | done | rfl
   rcases iteE hm0 with ⟨e28, hm0⟩ | ⟨e28, hm0⟩
   · obtain rfl := Option.some.inj hm0
     simp only [e2, e22, e24, e26, e28, xrb, ↓EVd, isCall, sevalprocAttr]
     all_goals first | done | rfl
   rcases iteE hm0 with ⟨e30, hm0⟩ | ⟨e30, hm0⟩
   · obtain rfl := Option.some.inj hm0
     simp only [e2, e22, e24, e26, e28, e30, xrb, ↓EVd, isCall, sevalprocAttr]
     all_goals first | done | rfl
   obtain rfl := Option.some.inj hm0
   simp only [e2, e22, e24, e26, e28, e30, xrb, ↓EVd, isCall, sevalprocAttr]
   all_goals first | done | rfl
 rcases iteE hm0 with ⟨e32, hm0⟩ | ⟨e32, hm0⟩
 · obtain rfl := Option.some.inj hm0
   simp only [e2, e22, e32, xrb, ↓EVd, isCall, sevalprocAttr]
   all_goals first | done | rfl
 rcases iteE hm0 with ⟨e34, hm0⟩ | ⟨e34, hm0⟩
 · obtain rfl := Option.some.inj hm0
   simp only [e2, e22, e32, e34, xrb, ↓EVd, isCall, sevalprocAttr]
   all_goals first | done | rfl
 rcases iteE hm0 with ⟨e36, hm0⟩ | ⟨e36, hm0⟩
 · obtain rfl := Option.some.inj hm0
   simp only [e2, e22, e32, e34, e36, xrb, ↓EVd, isCall, sevalprocAttr]
   all_goals first | done | rfl
 obtain rfl := Option.some.inj hm0
 simp only [e2, e22, e32, e34, e36, xrb, ↓EVd, isCall, sevalprocAttr]
 all_goals first | done | rfl
def xye (a0 : Int) : Option (Bool) := (xjk a0).bind fun v1 => some (!v1)
def xtp := @EV
set_option maxHeartbeats 2000000 in
theorem xex (a0 : Int) (r : Bool) (hm0 : xye a0 = some r) : Ok Tryz.prog 81 [ik .i32 a0] (bool r) := by
 unfold xye at hm0
 refine okG xcx ?_
 unfold xwp
 obtain ⟨v1, h2, hm0⟩ := bsE hm0
 simp only [xtp, ↓EVd, isCall, sevalprocAttr]
 refine qc (xrz _ _ h2) rfl ?_
 obtain rfl := Option.some.inj hm0
 simp only [xtp, ↓EVd, isCall, sevalprocAttr]
 all_goals first | done | rfl
def xnh (a0 : ByteArray) : Option (Bool) := if (a0.size : Int) = 0 then some false
 else if 12 < (a0.size : Int) then some false
 else if a0 = (ByteArray.mk #[46]) then some false
 else if a0 = (ByteArray.mk #[46, 46]) then some false
 else (idxFM (fun z => xye z) a0).bind fun v9 => if v9 < 0 then some true
 else some false
def xlg := aI (@EV) (aI (@R3) (@R9))
set_option maxHeartbeats 2000000 in
theorem x4q (a0 : ByteArray) (r : Bool) (hm0 : xnh a0 = some r) : Ok Tryz.prog 53 [str a0] (bool r) := by
 unfold xnh at hm0
 refine okG x01 ?_
 unfold xit
 rcases iteE hm0 with ⟨e2, hm0⟩ | ⟨e2, hm0⟩
 · obtain rfl := Option.some.inj hm0
   simp only [e2, xlg, ↓EVd, isCall, sevalprocAttr]
   all_goals first | done | rfl
 rcases iteE hm0 with ⟨e4, hm0⟩ | ⟨e4, hm0⟩
 · obtain rfl := Option.some.inj hm0
   simp only [e2, e4, xlg, ↓EVd, isCall, sevalprocAttr]
   all_goals first | done | rfl
 rcases iteE hm0 with ⟨e6, hm0⟩ | ⟨e6, hm0⟩
 · obtain rfl := Option.some.inj hm0
   simp only [e2, e4, e6, xlg, ↓EVd, isCall, sevalprocAttr]
   all_goals first | done | rfl
 rcases iteE hm0 with ⟨e8, hm0⟩ | ⟨e8, hm0⟩
 · obtain rfl := Option.some.inj hm0
   simp only [e2, e4, e6, e8, xlg, ↓EVd, isCall, sevalprocAttr]
   all_goals first | done | rfl
 obtain ⟨v9, h10, hm0⟩ := bsE hm0
 simp only [e2, e4, e6, e8, xlg, ↓EVd, isCall, sevalprocAttr]
 refine qc (xpq (fun z => xye z) _ _ h10 (by kernel_rfl) (fun z b hz => xex z b hz)) rfl ?_
 rcases iteE hm0 with ⟨e12, hm0⟩ | ⟨e12, hm0⟩
 · obtain rfl := Option.some.inj hm0
   simp only [e2, e4, e6, e8, e12, xlg, ↓EVd, isCall, sevalprocAttr]
   all_goals first | done | rfl
 obtain rfl := Option.some.inj hm0
 simp only [e2, e4, e6, e8, e12, xlg, ↓EVd, isCall, sevalprocAttr]
 all_goals first | done | rfl
def xfg (a0 : ByteArray) : (List ByteArray × Int) → Option (St (List ByteArray × Int) (List ByteArray))
 | (v3, v4) => if v4 < (a0.size : Int) then (ixB a0 v4).bind fun v10 => if (v10.toNat : Int) = 47 then (ap 16 v3 ([xk] : List ByteArray)).bind fun _ => some (.nx ((v3 ++ ([xk] : List ByteArray)), (wr (v4 + 1))))
 else (ix v3 (wr ((v3.length : Int) - 1))).bind fun v19 => (strM a0 (some v4) (some (wr (v4 + 1)))).bind fun v22 => (ck (v19.size + v22.size ≤ 9223372036854775807)).bind fun _ => some (.nx ((v3.set ((wr ((v3.length : Int) - 1))).toNat (v19 ++ v22)), (wr (v4 + 1))))
 else some (.out v3)
def xgi (a0 : ByteArray) : Option (List ByteArray) := (iter (xfg a0) big (([xk] : List ByteArray), 1)).bind fun o => (match o with
 | v7 => some v7)
def xdd := aI (aI (@EV) (@R3)) (aI (@R9) (aI (@R30) (@mixed)))
set_option maxHeartbeats 2000000 in
theorem xzy (a0 : ByteArray) (r : List ByteArray) (hm0 : xgi a0 = some r) : Ok Tryz.prog 83 [str a0] (.sl 1 (r.map str)) := by
 unfold xgi at hm0
 refine okG xty ?_
 unfold xtr
 obtain ⟨o0, ho0, hm0⟩ := bsE hm0
 simp only [xdd, ↓EVd, isCall, sevalprocAttr]
 refine cwp_cx 0 (fun s => ∃ v7 : List ByteArray, ∃ l6 : Nat, (s.T 3 = .msl l6 v7.length ∧ s.H l6 = some (.row 9 1 (v7.map str)) ∧ Lq l6 s.nx) ∧ v7 = o0) ?_ fun J0_0 hJ0_0 => ?_
 · rintro T0 H0 x5 ⟨v7, l6, kk0_0, rfl⟩
   dsimp only [Lq, Nq] at kk0_0
   try dsimp only at hm0
   obtain rfl := Option.some.inj hm0
   simp only [kk0_0, xdd, ↓EVd, isCall, sevalprocAttr]
   all_goals first | done | rfl | exact frzR_e (by simp only [kk0_0, FZ, CLO, xdd, ↓EVd, isCall, sevalprocAttr])
 refine cwp_lp ho0 (fun (v3, v4) s => ∃ l2 : Nat, s.T 0 = str a0 ∧ s.T 3 = .msl l2 v3.length ∧ s.T 4 = int v4 ∧ s.H l2 = some (.row 9 1 (v3.map str)) ∧ Lq l2 s.nx) ?_ ?_
 · refine TI.here ⟨1, ?_, ?_, ?_, ?_, ?_⟩
   all_goals try simp only [xdd, ↓EVd, isCall, sevalprocAttr]
   all_goals first | omega | exact lq (by omega) | exact nq (by omega) | rfl | (congr 1; omega)
 rintro I0 ⟨v3, v4⟩ T0 H0 x1 st0 ⟨l2, kk0⟩ hm1 hI0 hO0
 dsimp only [Lq, Nq] at kk0
 simp only [xfg] at hm1
 rcases iteE hm1 with ⟨e9, hm1⟩ | ⟨e9, hm1⟩
 · obtain ⟨v10, e12, hm1⟩ := ixBE hm1
   rcases iteE hm1 with ⟨e14, hm1⟩ | ⟨e14, hm1⟩
   · obtain ⟨e17, hm1⟩ := apE hm1
     try simp only [ZL] at e17
     obtain rfl := Option.some.inj hm1
     simp only [kk0, e9, e12, e14, e17, xdd, ↓EVd, isCall, sevalprocAttr]
     refine TI.here (hI0 _ rfl _ ⟨(x1 + 10), ?_, ?_, ?_, ?_, ?_⟩)
     all_goals try simp only [kk0, e9, e12, e14, e17, xdd, ↓EVd, isCall, sevalprocAttr]
     all_goals first | omega | exact lq (by omega) | exact nq (by omega) | rfl | (congr 1; omega)
   obtain ⟨v19, e21, hm1⟩ := ixE str hm1
   obtain ⟨v22, h23, hm1⟩ := bsE hm1
   have e24 := show x1d Tryz.prog 9 (str a0) (some (int v4)) (some (int (wr (v4 + 1)))) none = some (str v22) from x9db (by kernel_rfl) h23
   obtain ⟨e26, hm1⟩ := ckE hm1
   obtain rfl := Option.some.inj hm1
   simp only [kk0, e9, e12, e14, e21, e24, e26, xdd, ↓EVd, isCall, sevalprocAttr]
   refine TI.here (hI0 _ rfl _ ⟨l2, ?_, ?_, ?_, ?_, ?_⟩)
   all_goals try simp only [kk0, e9, e12, e14, e21, e24, e26, xdd, ↓EVd, isCall, sevalprocAttr]
   all_goals first | omega | exact lq (by omega) | exact nq (by omega) | rfl | (congr 1; omega)
 obtain rfl := Option.some.inj hm1
 simp only [kk0, e9, xdd, ↓EVd, isCall, sevalprocAttr]
 refine TI.here (hJ0_0 _ ⟨v3, l2, ⟨?_, ?_, ?_⟩, hO0 _ rfl⟩)
 all_goals try simp only [kk0, e9, xdd, ↓EVd, isCall, sevalprocAttr]
 all_goals first | omega | exact lq (by omega) | exact nq (by omega) | rfl | (congr 1; omega)
def x3h (v10 : List ByteArray) : Int → Option (St (Int) ((Unit) ⊕ (List ByteArray × Bool)))
 | v13 => if v13 < (v10.length : Int) then (ix v10 v13).bind fun v17 => (x0c v17).bind fun v20 => if (!v20) = true then some (.out (.inr ([], false)))
 else some (.nx (wr (v13 + 1)))
 else some (.out (.inl ()))
def xei (a0 : ByteArray) : Option (List ByteArray × Bool) := if a0 = (ByteArray.mk #[47]) then some ([], true)
 else if (a0.size : Int) = 0 then some ([], false)
 else (ixB a0 0).bind fun v5 => if (v5.toNat : Int) = 47 then (xgi a0).bind fun v10 => (iter (x3h v10) big 0).bind fun o => (match o with
 | (.inl _) => some (v10, true)
 | (.inr r) => some r)
 else some ([], false)
def xhc := aI (aI (@EV) (@R3)) (aI (@R9) (@R30))
set_option maxHeartbeats 2000000 in
theorem x9y (a0 : ByteArray) (r : List ByteArray × Bool) (hm0 : xei a0 = some r) : Ok Tryz.prog 54 [str a0] (.tup [.sl 1 (r.1.map str), bool r.2]) := by
 unfold xei at hm0
 refine okG xqy ?_
 unfold xgr
 rcases iteE hm0 with ⟨e2, hm0⟩ | ⟨e2, hm0⟩
 · obtain rfl := Option.some.inj hm0
   simp only [e2, xhc, ↓EVd, isCall, sevalprocAttr]
   all_goals first | done | rfl | exact xd (by simp only [CLO]) | exact xn (by simp only [CLO]) (Sub.tup (Subs.cons (Sub.nilS _) (Subs.cons (Sub.refl _) (Subs.nil))))
 rcases iteE hm0 with ⟨e4, hm0⟩ | ⟨e4, hm0⟩
 · obtain rfl := Option.some.inj hm0
   simp only [e2, e4, xhc, ↓EVd, isCall, sevalprocAttr]
   all_goals first | done | rfl | exact xd (by simp only [CLO]) | exact xn (by simp only [CLO]) (Sub.tup (Subs.cons (Sub.nilS _) (Subs.cons (Sub.refl _) (Subs.nil))))
 obtain ⟨v5, e7, hm0⟩ := ixBE hm0
 try simp only [sevalprocAttr, eq_self, true_and] at e7
 rcases iteE hm0 with ⟨e9, hm0⟩ | ⟨e9, hm0⟩
 · obtain ⟨v10, h11, hm0⟩ := bsE hm0
   simp only [e2, e4, e7, e9, xhc, ↓EVd, isCall, sevalprocAttr]
   refine qc (xzy _ _ h11) rfl ?_
   obtain ⟨o0, ho0, hm0⟩ := bsE hm0
   simp only [e2, e4, e7, e9, xhc, ↓EVd, isCall, sevalprocAttr]
   refine cwp_cx 0 (fun s => (s.T 4 = .sl 1 (v10.map str)) ∧ (.inl ()) = o0) ?_ fun J0_0 hJ0_0 => ?_
   · rintro T0 H0 x14 ⟨kk0_0, rfl⟩
     dsimp only [Lq, Nq] at kk0_0
     try dsimp only at hm0
     obtain rfl := Option.some.inj hm0
     simp only [kk0_0, e2, e4, e7, e9, xhc, ↓EVd, isCall, sevalprocAttr]
     all_goals first | done | rfl | exact xd (by simp only [CLO]) | exact xn (by simp only [CLO]) (Sub.tup (Subs.cons (Sub.refl _) (Subs.cons (Sub.refl _) (Subs.nil))))
   refine cwp_lp ho0 (fun v13 s => s.T 4 = .sl 1 (v10.map str) ∧ s.T 5 = int v13) ?_ ?_
   · refine TI.here ⟨?_, ?_⟩
     all_goals try simp only [e2, e4, e7, e9, xhc, ↓EVd, isCall, sevalprocAttr]
     all_goals first | omega | exact lq (by omega) | exact nq (by omega) | rfl | (congr 1; omega)
   rintro I0 v13 T0 H0 x12 st0 kk0 hm1 hI0 hO0
   dsimp only [Lq, Nq] at kk0
   simp only [x3h] at hm1
   rcases iteE hm1 with ⟨e16, hm1⟩ | ⟨e16, hm1⟩
   · obtain ⟨v17, e19, hm1⟩ := ixE str hm1
     obtain ⟨v20, h21, hm1⟩ := bsE hm1
     simp only [kk0, e2, e4, e7, e9, e16, e19, xhc, ↓EVd, isCall, sevalprocAttr]
     refine qc (xwj _ _ h21) rfl ?_
     rcases itbE hm1 with ⟨e23, hm1⟩ | ⟨e23, hm1⟩
     · obtain rfl := Option.some.inj hm1
       obtain rfl := hO0 _ rfl
       try dsimp only at hm0
       obtain rfl := Option.some.inj hm0
       simp only [kk0, e2, e4, e7, e9, e16, e19, e23, xhc, ↓EVd, isCall, sevalprocAttr]
       all_goals first | done | rfl | exact xd (by simp only [CLO]) | exact xn (by simp only [CLO]) (Sub.tup (Subs.cons (Sub.nilS _) (Subs.cons (Sub.refl _) (Subs.nil))))
     obtain rfl := Option.some.inj hm1
     simp only [kk0, e2, e4, e7, e9, e16, e19, e23, xhc, ↓EVd, isCall, sevalprocAttr]
     refine TI.here (hI0 _ rfl _ ⟨?_, ?_⟩)
     all_goals try simp only [kk0, e2, e4, e7, e9, e16, e19, e23, xhc, ↓EVd, isCall, sevalprocAttr]
     all_goals first | omega | exact lq (by omega) | exact nq (by omega) | rfl | (congr 1; omega)
   obtain rfl := Option.some.inj hm1
   simp only [kk0, e2, e4, e7, e9, e16, xhc, ↓EVd, isCall, sevalprocAttr]
   refine TI.here (hJ0_0 _ ⟨?_, hO0 _ rfl⟩)
   all_goals try simp only [kk0, e2, e4, e7, e9, e16, xhc, ↓EVd, isCall, sevalprocAttr]
   all_goals first | omega | exact lq (by omega) | exact nq (by omega) | rfl | (congr 1; omega)
 obtain rfl := Option.some.inj hm0
 simp only [e2, e4, e7, e9, xhc, ↓EVd, isCall, sevalprocAttr]
 all_goals first | done | rfl | exact xd (by simp only [CLO]) | exact xn (by simp only [CLO]) (Sub.tup (Subs.cons (Sub.nilS _) (Subs.cons (Sub.refl _) (Subs.nil))))
def xkc (a0 : ByteArray) : Option (List ByteArray × Bool × Bool) := if 24 < (a0.size : Int) then some ([], false, false)
 else if 0 < (a0.size : Int) then (ixB a0 0).bind fun v5 => if (v5.toNat : Int) = 47 then (xei a0).bind fun v10 => some (v10.1, v10.2, v10.2)
 else (x0c a0).bind fun v12 => if v12 = true then some (([a0] : List ByteArray), false, true)
 else some ([], false, false)
 else (x0c a0).bind fun v16 => if v16 = true then some (([a0] : List ByteArray), false, true)
 else some ([], false, false)
def xbc := aI (aI (@EV) (@R3)) (aI (@R9) (@R30))
set_option maxHeartbeats 2000000 in
theorem x4j (a0 : ByteArray) (r : List ByteArray × Bool × Bool) (hm0 : xkc a0 = some r) : Ok Tryz.prog 33 [str a0] (.tup [.sl 1 (r.1.map str), bool r.2.1, bool r.2.2]) := by
 unfold xkc at hm0
 refine okG x0u ?_
 unfold xen
 rcases iteE hm0 with ⟨e2, hm0⟩ | ⟨e2, hm0⟩
 · obtain rfl := Option.some.inj hm0
   simp only [e2, xbc, ↓EVd, isCall, sevalprocAttr]
   all_goals first | done | rfl | exact xd (by simp only [CLO]) | exact xn (by simp only [CLO]) (Sub.tup (Subs.cons (Sub.nilS _) (Subs.cons (Sub.refl _) (Subs.cons (Sub.refl _) (Subs.nil)))))
 rcases iteE hm0 with ⟨e4, hm0⟩ | ⟨e4, hm0⟩
 · obtain ⟨v5, e7, hm0⟩ := ixBE hm0
   try simp only [sevalprocAttr, eq_self, true_and] at e7
   rcases iteE hm0 with ⟨e9, hm0⟩ | ⟨e9, hm0⟩
   · obtain ⟨v10, h11, hm0⟩ := bsE hm0
     simp only [e2, e4, e7, e9, xbc, ↓EVd, isCall, sevalprocAttr]
     refine qc (x9y _ _ h11) rfl ?_
     obtain rfl := Option.some.inj hm0
     simp only [e2, e4, e7, e9, xbc, ↓EVd, isCall, sevalprocAttr]
     all_goals first | done | rfl | exact xd (by simp only [CLO]) | exact xn (by simp only [CLO]) (Sub.tup (Subs.cons (Sub.refl _) (Subs.cons (Sub.refl _) (Subs.cons (Sub.refl _) (Subs.nil)))))
   obtain ⟨v12, h13, hm0⟩ := bsE hm0
   simp only [e2, e4, e7, e9, xbc, ↓EVd, isCall, sevalprocAttr]
   refine qc (xwj _ _ h13) rfl ?_
   rcases itbE hm0 with ⟨e15, hm0⟩ | ⟨e15, hm0⟩
   · obtain rfl := Option.some.inj hm0
     simp only [e2, e4, e7, e9, e15, xbc, ↓EVd, isCall, sevalprocAttr]
     all_goals first | done | rfl | exact xve 9 (by simp only [e2, e4, e7, e9, e15, FZ, CLO, xbc, ↓EVd, isCall, sevalprocAttr]) (Sub.tup (Subs.cons (Sub.refl _) (Subs.cons (Sub.refl _) (Subs.cons (Sub.refl _) (Subs.nil)))))
   obtain rfl := Option.some.inj hm0
   simp only [e2, e4, e7, e9, e15, xbc, ↓EVd, isCall, sevalprocAttr]
   all_goals first | done | rfl | exact xd (by simp only [CLO]) | exact xn (by simp only [CLO]) (Sub.tup (Subs.cons (Sub.nilS _) (Subs.cons (Sub.refl _) (Subs.cons (Sub.refl _) (Subs.nil)))))
 obtain ⟨v16, h17, hm0⟩ := bsE hm0
 simp only [e2, e4, xbc, ↓EVd, isCall, sevalprocAttr]
 refine qc (xwj _ _ h17) rfl ?_
 rcases itbE hm0 with ⟨e19, hm0⟩ | ⟨e19, hm0⟩
 · obtain rfl := Option.some.inj hm0
   simp only [e2, e4, e19, xbc, ↓EVd, isCall, sevalprocAttr]
   all_goals first | done | rfl | exact xve 9 (by simp only [e2, e4, e19, FZ, CLO, xbc, ↓EVd, isCall, sevalprocAttr]) (Sub.tup (Subs.cons (Sub.refl _) (Subs.cons (Sub.refl _) (Subs.cons (Sub.refl _) (Subs.nil)))))
 obtain rfl := Option.some.inj hm0
 simp only [e2, e4, e19, xbc, ↓EVd, isCall, sevalprocAttr]
 all_goals first | done | rfl | exact xd (by simp only [CLO]) | exact xn (by simp only [CLO]) (Sub.tup (Subs.cons (Sub.nilS _) (Subs.cons (Sub.refl _) (Subs.cons (Sub.refl _) (Subs.nil)))))
def x7g (a0 : List ByteArray) (a1 : List ByteArray) : Int → Option (St (Int) ((Unit) ⊕ (Bool)))
 | v4 => if v4 < (a0.length : Int) then (ix a0 v4).bind fun v8 => (ix a1 v4).bind fun v11 => if v8 = v11 then some (.nx (wr (v4 + 1)))
 else some (.out (.inr false))
 else some (.out (.inl ()))
def xjh (a0 : List ByteArray) (a1 : List ByteArray) : Option (Bool) := if (a1.length : Int) < (a0.length : Int) then some false
 else (iter (x7g a0 a1) big 0).bind fun o => (match o with
 | (.inl _) => some true
 | (.inr r) => some r)
def x7d := aI (aI (@EV) (@R3)) (aI (@R9) (aI (@R30) (@mixed)))
set_option maxHeartbeats 2000000 in
theorem xzx (a0 : List ByteArray) (a1 : List ByteArray) (r : Bool) (hm0 : xjh a0 a1 = some r) : Ok Tryz.prog 34 [.sl 1 (a0.map str), .sl 1 (a1.map str)] (bool r) := by
 unfold xjh at hm0
 refine okG xjx ?_
 unfold xjp
 rcases iteE hm0 with ⟨e2, hm0⟩ | ⟨e2, hm0⟩
 · obtain rfl := Option.some.inj hm0
   simp only [e2, x7d, ↓EVd, isCall, sevalprocAttr]
   all_goals first | done | rfl
 obtain ⟨o0, ho0, hm0⟩ := bsE hm0
 simp only [e2, x7d, ↓EVd, isCall, sevalprocAttr]
 refine cwp_cx 0 (fun s => (.inl ()) = o0) ?_ fun J0_0 hJ0_0 => ?_
 · rintro T0 H0 x5 rfl
   try dsimp only at hm0
   obtain rfl := Option.some.inj hm0
   simp only [e2, x7d, ↓EVd, isCall, sevalprocAttr]
   all_goals first | done | rfl
 refine cwp_lp ho0 (fun v4 s => s.T 0 = .sl 1 (a0.map str) ∧ s.T 1 = .sl 1 (a1.map str) ∧ s.T 5 = int v4) ?_ ?_
 · refine TI.here ⟨?_, ?_, ?_⟩
   all_goals try simp only [e2, x7d, ↓EVd, isCall, sevalprocAttr]
   all_goals first | omega | exact lq (by omega) | exact nq (by omega) | rfl | (congr 1; omega)
 rintro I0 v4 T0 H0 x3 st0 kk0 hm1 hI0 hO0
 dsimp only [Lq, Nq] at kk0
 simp only [x7g] at hm1
 rcases iteE hm1 with ⟨e7, hm1⟩ | ⟨e7, hm1⟩
 · obtain ⟨v8, e10, hm1⟩ := ixE str hm1
   obtain ⟨v11, e13, hm1⟩ := ixE str hm1
   rcases iteE hm1 with ⟨e15, hm1⟩ | ⟨e15, hm1⟩
   · obtain rfl := Option.some.inj hm1
     simp only [kk0, e2, e7, e10, e13, e15, x7d, ↓EVd, isCall, sevalprocAttr]
     refine TI.here (hI0 _ rfl _ ⟨?_, ?_, ?_⟩)
     all_goals try simp only [kk0, e2, e7, e10, e13, e15, x7d, ↓EVd, isCall, sevalprocAttr]
     all_goals first | omega | exact lq (by omega) | exact nq (by omega) | rfl | (congr 1; omega)
   obtain rfl := Option.some.inj hm1
   obtain rfl := hO0 _ rfl
   try dsimp only at hm0
   obtain rfl := Option.some.inj hm0
   simp only [kk0, e2, e7, e10, e13, e15, x7d, ↓EVd, isCall, sevalprocAttr]
   all_goals first | done | rfl
 obtain rfl := Option.some.inj hm1
 simp only [kk0, e2, e7, x7d, ↓EVd, isCall, sevalprocAttr]
 refine TI.here (hJ0_0 _ (hO0 _ rfl))
def x4i (a0 : ByteArray) : Option (List ByteArray × Bool) := (xqg a0 (ByteArray.mk #[47])).bind fun v1 => if (!v1.2) = true then some ([], false)
 else (xsi v1.1 (ByteArray.mk #[47])).bind fun v5 => some (v5, true)
def x8k := aI (@EV) (@R9)
set_option maxHeartbeats 2000000 in
theorem xi1 (a0 : ByteArray) (r : List ByteArray × Bool) (hm0 : x4i a0 = some r) : Ok Tryz.prog 77 [str a0] (.tup [.sl 1 (r.1.map str), bool r.2]) := by
 unfold x4i at hm0
 refine okG xe2 ?_
 unfold xzs
 obtain ⟨v1, h2, hm0⟩ := bsE hm0
 simp only [x8k, ↓EVd, isCall, sevalprocAttr]
 refine qc (xmq _ _ _ h2) rfl ?_
 rcases itbE hm0 with ⟨e4, hm0⟩ | ⟨e4, hm0⟩
 · obtain rfl := Option.some.inj hm0
   simp only [e4, x8k, ↓EVd, isCall, sevalprocAttr]
   all_goals first | done | rfl | exact xd (by simp only [CLO]) | exact xn (by simp only [CLO]) (Sub.tup (Subs.cons (Sub.nilS _) (Subs.cons (Sub.refl _) (Subs.nil))))
 obtain ⟨v5, h6, hm0⟩ := bsE hm0
 simp only [e4, x8k, ↓EVd, isCall, sevalprocAttr]
 refine qc (x8v _ _ _ h6) rfl ?_
 obtain rfl := Option.some.inj hm0
 simp only [e4, x8k, ↓EVd, isCall, sevalprocAttr]
 all_goals first | done | rfl | exact xd (by simp only [CLO]) | exact xn (by simp only [CLO]) (Sub.tup (Subs.cons (Sub.refl _) (Subs.cons (Sub.refl _) (Subs.nil))))
def xbh (a0 : ByteArray) : Option (Bool) := (xnh a0).bind fun v1 => some (!v1)
def xkp := aI (@EV) (@R9)
set_option maxHeartbeats 2000000 in
theorem xtx (a0 : ByteArray) (r : Bool) (hm0 : xbh a0 = some r) : Ok Tryz.prog 79 [str a0] (bool r) := by
 unfold xbh at hm0
 refine okG xrx ?_
 unfold xip
 obtain ⟨v1, h2, hm0⟩ := bsE hm0
 simp only [xkp, ↓EVd, isCall, sevalprocAttr]
 refine qc (x4q _ _ h2) rfl ?_
 obtain rfl := Option.some.inj hm0
 simp only [xkp, ↓EVd, isCall, sevalprocAttr]
 all_goals first | done | rfl
def xxi (a0 : ByteArray) : Option (List ByteArray × Bool) := (x4i a0).bind fun v1 => if a0 = (ByteArray.mk #[47]) then some ([], true)
 else if (!v1.2) = true then some ([], false)
 else (x0h (fun z => xbh z ) v1.1).bind fun v7 => if v7 = true then some ([], false)
 else some (v1.1, true)
def xhg := aI (@EV) (aI (@R9) (@R30))
set_option maxHeartbeats 2000000 in
theorem xg1 (a0 : ByteArray) (r : List ByteArray × Bool) (hm0 : xxi a0 = some r) : Ok Tryz.prog 52 [str a0] (.tup [.sl 1 (r.1.map str), bool r.2]) := by
 unfold xxi at hm0
 refine okG x41 ?_
 unfold xkt
 obtain ⟨v1, h2, hm0⟩ := bsE hm0
 simp only [xhg, ↓EVd, isCall, sevalprocAttr]
 refine qc (xi1 _ _ h2) rfl ?_
 rcases iteE hm0 with ⟨e4, hm0⟩ | ⟨e4, hm0⟩
 · obtain rfl := Option.some.inj hm0
   simp only [e4, xhg, ↓EVd, isCall, sevalprocAttr]
   all_goals first | done | rfl | exact xd (by simp only [CLO]) | exact xn (by simp only [CLO]) (Sub.tup (Subs.cons (Sub.nilS _) (Subs.cons (Sub.refl _) (Subs.nil))))
 rcases itbE hm0 with ⟨e6, hm0⟩ | ⟨e6, hm0⟩
 · obtain rfl := Option.some.inj hm0
   simp only [e4, e6, xhg, ↓EVd, isCall, sevalprocAttr]
   all_goals first | done | rfl | exact xd (by simp only [CLO]) | exact xn (by simp only [CLO]) (Sub.tup (Subs.cons (Sub.nilS _) (Subs.cons (Sub.refl _) (Subs.nil))))
 obtain ⟨v7, h8, hm0⟩ := bsE hm0
 simp only [e4, e6, xhg, ↓EVd, isCall, sevalprocAttr]
 refine qc (xhl x0i x9j xbe aggN_9 (fi := []) (ca := []) str v1.1 (fun z => xbh z ) _ h8 (fun z b hz => xtx z  b hz) (fun z => by simp only [CLO]) rfl (by simp only [CLO]) (fun z => by simp only [xhg, ↓EVd, isCall, sevalprocAttr])) rfl ?_
 rcases itbE hm0 with ⟨e10, hm0⟩ | ⟨e10, hm0⟩
 · obtain rfl := Option.some.inj hm0
   simp only [e4, e6, e10, xhg, ↓EVd, isCall, sevalprocAttr]
   all_goals first | done | rfl | exact xd (by simp only [CLO]) | exact xn (by simp only [CLO]) (Sub.tup (Subs.cons (Sub.nilS _) (Subs.cons (Sub.refl _) (Subs.nil))))
 obtain rfl := Option.some.inj hm0
 simp only [e4, e6, e10, xhg, ↓EVd, isCall, sevalprocAttr]
 all_goals first | done | rfl | exact xd (by simp only [CLO]) | exact xn (by simp only [CLO]) (Sub.tup (Subs.cons (Sub.refl _) (Subs.cons (Sub.refl _) (Subs.nil))))
def xsc (a0 : ByteArray) : Option (List ByteArray × Bool × Bool) := if 24 < (a0.size : Int) then some ([], false, false)
 else (xpg a0 (ByteArray.mk #[47])).bind fun v3 => if v3 = true then (xxi a0).bind fun v7 => some (v7.1, v7.2, v7.2)
 else (xnh a0).bind fun v9 => if v9 = true then some (([a0] : List ByteArray), false, true)
 else some ([], false, false)
def xld := aI (aI (@EV) (@R3)) (aI (@R9) (@R30))
set_option maxHeartbeats 2000000 in
theorem xpk (a0 : ByteArray) (r : List ByteArray × Bool × Bool) (hm0 : xsc a0 = some r) : Ok Tryz.prog 30 [str a0] (.tup [.sl 1 (r.1.map str), bool r.2.1, bool r.2.2]) := by
 unfold xsc at hm0
 refine okG x7v ?_
 unfold xwo
 rcases iteE hm0 with ⟨e2, hm0⟩ | ⟨e2, hm0⟩
 · obtain rfl := Option.some.inj hm0
   simp only [e2, xld, ↓EVd, isCall, sevalprocAttr]
   all_goals first | done | rfl | exact xd (by simp only [CLO]) | exact xn (by simp only [CLO]) (Sub.tup (Subs.cons (Sub.nilS _) (Subs.cons (Sub.refl _) (Subs.cons (Sub.refl _) (Subs.nil)))))
 obtain ⟨v3, h4, hm0⟩ := bsE hm0
 simp only [e2, xld, ↓EVd, isCall, sevalprocAttr]
 refine qc (xxq _ _ _ h4) rfl ?_
 rcases itbE hm0 with ⟨e6, hm0⟩ | ⟨e6, hm0⟩
 · obtain ⟨v7, h8, hm0⟩ := bsE hm0
   simp only [e2, e6, xld, ↓EVd, isCall, sevalprocAttr]
   refine qc (xg1 _ _ h8) rfl ?_
   obtain rfl := Option.some.inj hm0
   simp only [e2, e6, xld, ↓EVd, isCall, sevalprocAttr]
   all_goals first | done | rfl | exact xd (by simp only [CLO]) | exact xn (by simp only [CLO]) (Sub.tup (Subs.cons (Sub.refl _) (Subs.cons (Sub.refl _) (Subs.cons (Sub.refl _) (Subs.nil)))))
 obtain ⟨v9, h10, hm0⟩ := bsE hm0
 simp only [e2, e6, xld, ↓EVd, isCall, sevalprocAttr]
 refine qc (x4q _ _ h10) rfl ?_
 rcases itbE hm0 with ⟨e12, hm0⟩ | ⟨e12, hm0⟩
 · obtain rfl := Option.some.inj hm0
   simp only [e2, e6, e12, xld, ↓EVd, isCall, sevalprocAttr]
   all_goals first | done | rfl | exact xve 9 (by simp only [e2, e6, e12, FZ, CLO, xld, ↓EVd, isCall, sevalprocAttr]) (Sub.tup (Subs.cons (Sub.refl _) (Subs.cons (Sub.refl _) (Subs.cons (Sub.refl _) (Subs.nil)))))
 obtain rfl := Option.some.inj hm0
 simp only [e2, e6, e12, xld, ↓EVd, isCall, sevalprocAttr]
 all_goals first | done | rfl | exact xd (by simp only [CLO]) | exact xn (by simp only [CLO]) (Sub.tup (Subs.cons (Sub.nilS _) (Subs.cons (Sub.refl _) (Subs.cons (Sub.refl _) (Subs.nil)))))
def x1c (a0 : List ByteArray) (a1 : List ByteArray) : Int → Option (St (Int) ((Unit) ⊕ (Bool)))
 | v4 => if v4 < (a0.length : Int) then (ix a0 v4).bind fun v8 => (ix a1 v4).bind fun v11 => if v8 = v11 then some (.nx (wr (v4 + 1)))
 else some (.out (.inr false))
 else some (.out (.inl ()))
def x9b (a0 : List ByteArray) (a1 : List ByteArray) : Option (Bool) := if (a0.length : Int) = (a1.length : Int) then (iter (x1c a0 a1) big 0).bind fun o => (match o with
 | (.inl _) => some true
 | (.inr r) => some r)
 else some false
def xtb := aI (aI (@EV) (@R3)) (aI (@R9) (aI (@R30) (@mixed)))
set_option maxHeartbeats 2000000 in
theorem x5g (a0 : List ByteArray) (a1 : List ByteArray) (r : Bool) (hm0 : x9b a0 a1 = some r) : Ok Tryz.prog 32 [.sl 1 (a0.map str), .sl 1 (a1.map str)] (bool r) := by
 unfold x9b at hm0
 refine okG xwl ?_
 unfold xeh
 rcases iteE hm0 with ⟨e2, hm0⟩ | ⟨e2, hm0⟩
 · obtain ⟨o0, ho0, hm0⟩ := bsE hm0
   simp only [e2, xtb, ↓EVd, isCall, sevalprocAttr]
   refine cwp_cx 0 (fun s => (.inl ()) = o0) ?_ fun J0_0 hJ0_0 => ?_
   · rintro T0 H0 x5 rfl
     try dsimp only at hm0
     obtain rfl := Option.some.inj hm0
     simp only [e2, xtb, ↓EVd, isCall, sevalprocAttr]
     all_goals first | done | rfl
   refine cwp_lp ho0 (fun v4 s => s.T 0 = .sl 1 (a0.map str) ∧ s.T 1 = .sl 1 (a1.map str) ∧ s.T 12 = int (a0.length : Int) ∧ s.T 13 = int v4) ?_ ?_
   · refine TI.here ⟨?_, ?_, ?_, ?_⟩
     all_goals try simp only [e2, xtb, ↓EVd, isCall, sevalprocAttr]
     all_goals first | omega | exact lq (by omega) | exact nq (by omega) | rfl | (congr 1; omega)
   rintro I0 v4 T0 H0 x3 st0 kk0 hm1 hI0 hO0
   dsimp only [Lq, Nq] at kk0
   simp only [x1c] at hm1
   rcases iteE hm1 with ⟨e7, hm1⟩ | ⟨e7, hm1⟩
   · obtain ⟨v8, e10, hm1⟩ := ixE str hm1
     obtain ⟨v11, e13, hm1⟩ := ixE str hm1
     rcases iteE hm1 with ⟨e15, hm1⟩ | ⟨e15, hm1⟩
     · obtain rfl := Option.some.inj hm1
       simp only [kk0, e2, e7, e10, e13, e15, xtb, ↓EVd, isCall, sevalprocAttr]
       refine TI.here (hI0 _ rfl _ ⟨?_, ?_, ?_, ?_⟩)
       all_goals try simp only [kk0, e2, e7, e10, e13, e15, xtb, ↓EVd, isCall, sevalprocAttr]
       all_goals first | omega | exact lq (by omega) | exact nq (by omega) | rfl | (congr 1; omega)
     obtain rfl := Option.some.inj hm1
     obtain rfl := hO0 _ rfl
     try dsimp only at hm0
     obtain rfl := Option.some.inj hm0
     simp only [kk0, e2, e7, e10, e13, e15, xtb, ↓EVd, isCall, sevalprocAttr]
     all_goals first | done | rfl
   obtain rfl := Option.some.inj hm1
   simp only [kk0, e2, e7, xtb, ↓EVd, isCall, sevalprocAttr]
   refine TI.here (hJ0_0 _ (hO0 _ rfl))
 obtain rfl := Option.some.inj hm0
 simp only [e2, xtb, ↓EVd, isCall, sevalprocAttr]
 all_goals first | done | rfl
def xci (a0 : List ByteArray) (a1 : List ByteArray) : Option (Bool) := if (a0.length : Int) ≤ (a1.length : Int) then (slM a1 none (some (a0.length : Int))).bind fun v3 => (x9b a0 v3).bind fun v6 => some v6
 else some false
def xnm := aI (aI (@EV) (@R3)) (aI (@R9) (@R30))
set_option maxHeartbeats 2000000 in
theorem xwy (a0 : List ByteArray) (a1 : List ByteArray) (r : Bool) (hm0 : xci a0 a1 = some r) : Ok Tryz.prog 31 [.sl 1 (a0.map str), .sl 1 (a1.map str)] (bool r) := by
 unfold xci at hm0
 refine okG xoz ?_
 unfold x7q
 rcases iteE hm0 with ⟨e2, hm0⟩ | ⟨e2, hm0⟩
 · obtain ⟨v3, h4, hm0⟩ := bsE hm0
   have e5 := show x1d Tryz.prog 30 (.sl 1 (a1.map str)) none (some (int (a0.length : Int))) none = some (.sl 1 (v3.map str)) from x0w xbe aggN_9 str h4
   obtain ⟨v6, h7, hm0⟩ := bsE hm0
   simp only [e2, e5, xnm, ↓EVd, isCall, sevalprocAttr]
   refine qc (x5g _ _ _ h7) rfl ?_
   obtain rfl := Option.some.inj hm0
   simp only [e2, e5, xnm, ↓EVd, isCall, sevalprocAttr]
   all_goals first | done | rfl
 obtain rfl := Option.some.inj hm0
 simp only [e2, xnm, ↓EVd, isCall, sevalprocAttr]
 all_goals first | done | rfl
end Go.Proofs.YtfkgckbdknpcnaaGreatDoor.AL

