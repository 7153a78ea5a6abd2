/- What any node of any stack should say of copies, and which say otherwise, is what the document says: part 37 of 52. -/
import Derived.Test.YtapdjibjnfeipaaGreatDoorA36
set_option linter.all false
/- Models of functions, and that the functions are as their models: written by gen.py. -/
set_option linter.all false
set_option maxRecDepth 100000
namespace Go.Proofs.YtapdjibjnfeipaaGreatDoor.AL
open Go Go.Proofs
def x4d (a0 : Int) : Option (Bool) := if 97 ≤ a0 then if a0 ≤ 122 then some true
 else if 48 ≤ a0 then if a0 ≤ 57 then some true
 else if a0 = 46 then some true
 else if a0 = 95 then some true
 else if a0 = 45 then some true
 else some false
 else if a0 = 46 then some true
 else if a0 = 95 then some true
 else if a0 = 45 then some true
 else some false
 else if 48 ≤ a0 then if a0 ≤ 57 then some true
 else if a0 = 46 then some true
 else if a0 = 95 then some true
 else if a0 = 45 then some true
 else some false
 else if a0 = 46 then some true
 else if a0 = 95 then some true
 else if a0 = 45 then some true
 else some false
def xgb := @EV
set_option maxHeartbeats 2000000 in
theorem xsx (a0 : Int) (r : Bool) (hm0 : x4d a0 = some r) : Ok Tryz.prog 105 [ik .u8 a0] (bool r) := by
 unfold x4d at hm0
 refine okG xcx ?_
 unfold x6q
 rcases iteE hm0 with ⟨e2, hm0⟩ | ⟨e2, hm0⟩
 · rcases iteE hm0 with ⟨e4, hm0⟩ | ⟨e4, hm0⟩
   · obtain rfl := Option.some.inj hm0
     simp only [e2, e4, xgb, ↓EVd, isCall, sevalprocAttr]
     all_goals first | done | rfl
   rcases iteE hm0 with ⟨e6, hm0⟩ | ⟨e6, hm0⟩
   · rcases iteE hm0 with ⟨e8, hm0⟩ | ⟨e8, hm0⟩
     · obtain rfl := Option.some.inj hm0
       simp only [e2, e4, e6, e8, xgb, ↓EVd, isCall, sevalprocAttr]
       all_goals first | done | rfl
     rcases iteE hm0 with ⟨e10, hm0⟩ | ⟨e10, hm0⟩
     · obtain rfl := Option.some.inj hm0
       simp only [e2, e4, e6, e8, e10, xgb, ↓EVd, isCall, sevalprocAttr]
       all_goals first | done | rfl
     rcases iteE hm0 with ⟨e12, hm0⟩ | ⟨e12, hm0⟩
     · obtain rfl := Option.some.inj hm0
       simp only [e2, e4, e6, e8, e10, e12, xgb, ↓EVd, isCall, sevalprocAttr]
       all_goals first | done | rfl
     rcases iteE hm0 with ⟨e14, hm0⟩ | ⟨e14, hm0⟩
     · obtain rfl := Option.some.inj hm0
       simp only [e2, e4, e6, e8, e10, e12, e14, xgb, ↓EVd, isCall, sevalprocAttr]
       all_goals first | done | rfl
     obtain rfl := Option.some.inj hm0
     simp only [e2, e4, e6, e8, e10, e12, e14, xgb, ↓EVd, isCall, sevalprocAttr]
     all_goals first | done | rfl
   rcases iteE hm0 with ⟨e16, hm0⟩ | ⟨e16, hm0⟩
   · obtain rfl := Option.some.inj hm0
     simp only [e2, e4, e6, e16, xgb, ↓EVd, isCall, sevalprocAttr]
     all_goals first | done | rfl
   rcases iteE hm0 with ⟨e18, hm0⟩ | ⟨e18, hm0⟩
   · obtain rfl := Option.some.inj hm0
     simp only [e2, e4, e6, e16, e18, xgb, ↓EVd, isCall, sevalprocAttr]
     all_goals first | done | rfl
   rcases iteE hm0 with ⟨e20, hm0⟩ | ⟨e20, hm0⟩
   · obtain rfl := Option.some.inj hm0
     simp only [e2, e4, e6, e16, e18, e20, xgb, ↓EVd, isCall, sevalprocAttr]
     all_goals first | done | rfl
   obtain rfl := Option.some.inj hm0
   simp only [e2, e4, e6, e16, e18, e20, xgb, ↓EVd, isCall, sevalprocAttr]
   all_goals first | done | rfl
 rcases iteE hm0 with ⟨e22, hm0⟩ | ⟨e22, hm0⟩
 · rcases iteE hm0 with ⟨e24, hm0⟩ | ⟨e24, hm0⟩
   · obtain rfl := Option.some.inj hm0
     simp only [e2, e22, e24, xgb, ↓EVd, isCall, sevalprocAttr]
     all_goals first | done | rfl
   rcases iteE hm0 with ⟨e26, hm0⟩ | ⟨e26, hm0⟩
   · obtain rfl := Option.some.inj hm0
     simp only [e2, e22, e24, e26, xgb, ↓EVd, isCall, sevalprocAttr]
     all_goals first | done | rfl
   rcases iteE hm0 with ⟨e28, hm0⟩ | ⟨e28, hm0⟩
   · obtain rfl := Option.some.inj hm0
     simp only [e2, e22, e24, e26, e28, xgb, ↓EVd, isCall, sevalprocAttr]
     all_goals first | done | rfl
   rcases iteE hm0 with ⟨e30, hm0⟩ | ⟨e30, hm0⟩
   · obtain rfl := Option.some.inj hm0
     simp only [e2, e22, e24, e26, e28, e30, xgb, ↓EVd, isCall, sevalprocAttr]
     all_goals first | done | rfl
   obtain rfl := Option.some.inj hm0
   simp only [e2, e22, e24, e26, e28, e30, xgb, ↓EVd, isCall, sevalprocAttr]
   all_goals first | done | rfl
 rcases iteE hm0 with ⟨e32, hm0⟩ | ⟨e32, hm0⟩
 · obtain rfl := Option.some.inj hm0
   simp only [e2, e22, e32, xgb, ↓EVd, isCall, sevalprocAttr]
   all_goals first | done | rfl
 rcases iteE hm0 with ⟨e34, hm0⟩ | ⟨e34, hm0⟩
 · obtain rfl := Option.some.inj hm0
   simp only [e2, e22, e32, e34, xgb, ↓EVd, isCall, sevalprocAttr]
   all_goals first | done | rfl
 rcases iteE hm0 with ⟨e36, hm0⟩ | ⟨e36, hm0⟩
 · obtain rfl := Option.some.inj hm0
   simp only [e2, e22, e32, e34, e36, xgb, ↓EVd, isCall, sevalprocAttr]
   all_goals first | done | rfl
 obtain rfl := Option.some.inj hm0
 simp only [e2, e22, e32, e34, e36, xgb, ↓EVd, isCall, sevalprocAttr]
 all_goals first | done | rfl
def xbe (a0 : ByteArray) : Int → Option (St (Int) ((Unit) ⊕ (Bool)))
 | v10 => if v10 < (a0.size : Int) then (ixB a0 v10).bind fun v14 => (x4d (v14.toNat : Int)).bind fun v17 => if (!v17) = true then some (.out (.inr false))
 else some (.nx (wr (v10 + 1)))
 else some (.out (.inl ()))
def xmc (a0 : ByteArray) : Option (Bool) := if (a0.size : Int) < 1 then some false
 else if 12 < (a0.size : Int) then some false
 else if a0 = (ByteArray.mk #[46]) then some false
 else if a0 = (ByteArray.mk #[46, 46]) then some false
 else (iter (xbe a0) big 0).bind fun o => (match o with
 | (.inl _) => some true
 | (.inr r) => some r)
def xgc := aI (@EV) (aI (@R3) (@R9))
set_option maxHeartbeats 2000000 in
theorem xyi (a0 : ByteArray) (r : Bool) (hm0 : xmc a0 = some r) : Ok Tryz.prog 89 [str a0] (bool r) := by
 unfold xmc at hm0
 refine okG xty ?_
 unfold xgs
 rcases iteE hm0 with ⟨e2, hm0⟩ | ⟨e2, hm0⟩
 · obtain rfl := Option.some.inj hm0
   simp only [e2, xgc, ↓EVd, isCall, sevalprocAttr]
   all_goals first | done | rfl
 rcases iteE hm0 with ⟨e4, hm0⟩ | ⟨e4, hm0⟩
 · obtain rfl := Option.some.inj hm0
   simp only [e2, e4, xgc, ↓EVd, isCall, sevalprocAttr]
   all_goals first | done | rfl
 rcases iteE hm0 with ⟨e6, hm0⟩ | ⟨e6, hm0⟩
 · obtain rfl := Option.some.inj hm0
   simp only [e2, e4, e6, xgc, ↓EVd, isCall, sevalprocAttr]
   all_goals first | done | rfl
 rcases iteE hm0 with ⟨e8, hm0⟩ | ⟨e8, hm0⟩
 · obtain rfl := Option.some.inj hm0
   simp only [e2, e4, e6, e8, xgc, ↓EVd, isCall, sevalprocAttr]
   all_goals first | done | rfl
 obtain ⟨o0, ho0, hm0⟩ := bsE hm0
 simp only [e2, e4, e6, e8, xgc, ↓EVd, isCall, sevalprocAttr]
 refine cwp_cx 0 (fun s => (.inl ()) = o0) ?_ fun J0_0 hJ0_0 => ?_
 · rintro T0 H0 x11 rfl
   try dsimp only at hm0
   obtain rfl := Option.some.inj hm0
   simp only [e2, e4, e6, e8, xgc, ↓EVd, isCall, sevalprocAttr]
   all_goals first | done | rfl
 refine cwp_lp ho0 (fun v10 s => s.T 0 = str a0 ∧ s.T 3 = int v10) ?_ ?_
 · refine TI.here ⟨?_, ?_⟩
   all_goals try simp only [e2, e4, e6, e8, xgc, ↓EVd, isCall, sevalprocAttr]
   all_goals first | omega | exact lq (by omega) | exact nq (by omega) | rfl | (congr 1; omega)
 rintro I0 v10 T0 H0 x9 st0 kk0 hm1 hI0 hO0
 dsimp only [Lq, Nq] at kk0
 simp only [xbe] at hm1
 rcases iteE hm1 with ⟨e13, hm1⟩ | ⟨e13, hm1⟩
 · obtain ⟨v14, e16, hm1⟩ := ixBE hm1
   obtain ⟨v17, h18, hm1⟩ := bsE hm1
   simp only [kk0, e2, e4, e6, e8, e13, e16, xgc, ↓EVd, isCall, sevalprocAttr]
   refine qc (xsx _ _ h18) rfl ?_
   rcases itbE hm1 with ⟨e20, hm1⟩ | ⟨e20, hm1⟩
   · obtain rfl := Option.some.inj hm1
     obtain rfl := hO0 _ rfl
     try dsimp only at hm0
     obtain rfl := Option.some.inj hm0
     simp only [kk0, e2, e4, e6, e8, e13, e16, e20, xgc, ↓EVd, isCall, sevalprocAttr]
     all_goals first | done | rfl
   obtain rfl := Option.some.inj hm1
   simp only [kk0, e2, e4, e6, e8, e13, e16, e20, xgc, ↓EVd, isCall, sevalprocAttr]
   refine TI.here (hI0 _ rfl _ ⟨?_, ?_⟩)
   all_goals try simp only [kk0, e2, e4, e6, e8, e13, e16, e20, xgc, ↓EVd, isCall, sevalprocAttr]
   all_goals first | omega | exact lq (by omega) | exact nq (by omega) | rfl | (congr 1; omega)
 obtain rfl := Option.some.inj hm1
 simp only [kk0, e2, e4, e6, e8, e13, xgc, ↓EVd, isCall, sevalprocAttr]
 refine TI.here (hJ0_0 _ (hO0 _ rfl))
def xxj (a0 : Int) : Option (Bool) := if 97 ≤ a0 then if a0 ≤ 122 then some true
 else if 48 ≤ a0 then if a0 ≤ 57 then some true
 else if a0 = 46 then some true
 else if a0 = 95 then some true
 else if a0 = 45 then some true
 else some false
 else if a0 = 46 then some true
 else if a0 = 95 then some true
 else if a0 = 45 then some true
 else some false
 else if 48 ≤ a0 then if a0 ≤ 57 then some true
 else if a0 = 46 then some true
 else if a0 = 95 then some true
 else if a0 = 45 then some true
 else some false
 else if a0 = 46 then some true
 else if a0 = 95 then some true
 else if a0 = 45 then some true
 else some false
def xkb := @EV
set_option maxHeartbeats 2000000 in
theorem xfz (a0 : Int) (r : Bool) (hm0 : xxj a0 = some r) : Ok Tryz.prog 124 [ik .i32 a0] (bool r) := by
 unfold xxj at hm0
 refine okG xoz ?_
 unfold xfs
 rcases iteE hm0 with ⟨e2, hm0⟩ | ⟨e2, hm0⟩
 · rcases iteE hm0 with ⟨e4, hm0⟩ | ⟨e4, hm0⟩
   · obtain rfl := Option.some.inj hm0
     simp only [e2, e4, xkb, ↓EVd, isCall, sevalprocAttr]
     all_goals first | done | rfl
   rcases iteE hm0 with ⟨e6, hm0⟩ | ⟨e6, hm0⟩
   · rcases iteE hm0 with ⟨e8, hm0⟩ | ⟨e8, hm0⟩
     · obtain rfl := Option.some.inj hm0
       simp only [e2, e4, e6, e8, xkb, ↓EVd, isCall, sevalprocAttr]
       all_goals first | done | rfl
     rcases iteE hm0 with ⟨e10, hm0⟩ | ⟨e10, hm0⟩
     · obtain rfl := Option.some.inj hm0
       simp only [e2, e4, e6, e8, e10, xkb, ↓EVd, isCall, sevalprocAttr]
       all_goals first | done | rfl
     rcases iteE hm0 with ⟨e12, hm0⟩ | ⟨e12, hm0⟩
     · obtain rfl := Option.some.inj hm0
       simp only [e2, e4, e6, e8, e10, e12, xkb, ↓EVd, isCall, sevalprocAttr]
       all_goals first | done | rfl
     rcases iteE hm0 with ⟨e14, hm0⟩ | ⟨e14, hm0⟩
     · obtain rfl := Option.some.inj hm0
       simp only [e2, e4, e6, e8, e10, e12, e14, xkb, ↓EVd, isCall, sevalprocAttr]
       all_goals first | done | rfl
     obtain rfl := Option.some.inj hm0
     simp only [e2, e4, e6, e8, e10, e12, e14, xkb, ↓EVd, isCall, sevalprocAttr]
     all_goals first | done | rfl
   rcases iteE hm0 with ⟨e16, hm0⟩ | ⟨e16, hm0⟩
   · obtain rfl := Option.some.inj hm0
     simp only [e2, e4, e6, e16, xkb, ↓EVd, isCall, sevalprocAttr]
     all_goals first | done | rfl
   rcases iteE hm0 with ⟨e18, hm0⟩ | ⟨e18, hm0⟩
   · obtain rfl := Option.some.inj hm0
     simp only [e2, e4, e6, e16, e18, xkb, ↓EVd, isCall, sevalprocAttr]
     all_goals first | done | rfl
   rcases iteE hm0 with ⟨e20, hm0⟩ | ⟨e20, hm0⟩
   · obtain rfl := Option.some.inj hm0
     simp only [e2, e4, e6, e16, e18, e20, xkb, ↓EVd, isCall, sevalprocAttr]
     all_goals first | done | rfl
   obtain rfl := Option.some.inj hm0
   simp only [e2, e4, e6, e16, e18, e20, xkb, ↓EVd, isCall, sevalprocAttr]
   all_goals first | done | rfl
 rcases iteE hm0 with ⟨e22, hm0⟩ | ⟨e22, hm0⟩
 · rcases iteE hm0 with ⟨e24, hm0⟩ | ⟨e24, hm0⟩
   · obtain rfl := Option.some.inj hm0
     simp only [e2, e22, e24, xkb, ↓EVd, isCall, sevalprocAttr]
     all_goals first | done | rfl
   rcases iteE hm0 with ⟨e26, hm0⟩ | ⟨e26, hm0⟩
   · obtain rfl := Option.some.inj hm0
     simp only [e2, e22, e24, e26, xkb, ↓EVd, isCall, sevalprocAttr]
     all_goals first | done | rfl
   rcases iteE hm0 with ⟨e28, hm0⟩ | ⟨e28, hm0⟩
   · obtain rfl := Option.some.inj hm0
     simp only [e2, e22, e24, e26, e28, xkb, ↓EVd, isCall, sevalprocAttr]
     all_goals first | done | rfl
   rcases iteE hm0 with ⟨e30, hm0⟩ | ⟨e30, hm0⟩
   · obtain rfl := Option.some.inj hm0
     simp only [e2, e22, e24, e26, e28, e30, xkb, ↓EVd, isCall, sevalprocAttr]
     all_goals first | done | rfl
   obtain rfl := Option.some.inj hm0
   simp only [e2, e22, e24, e26, e28, e30, xkb, ↓EVd, isCall, sevalprocAttr]
   all_goals first | done | rfl
 rcases iteE hm0 with ⟨e32, hm0⟩ | ⟨e32, hm0⟩
 · obtain rfl := Option.some.inj hm0
   simp only [e2, e22, e32, xkb, ↓EVd, isCall, sevalprocAttr]
   all_goals first | done | rfl
 rcases iteE hm0 with ⟨e34, hm0⟩ | ⟨e34, hm0⟩
 · obtain rfl := Option.some.inj hm0
   simp only [e2, e22, e32, e34, xkb, ↓EVd, isCall, sevalprocAttr]
   all_goals first | done | rfl
 rcases iteE hm0 with ⟨e36, hm0⟩ | ⟨e36, hm0⟩
 · obtain rfl := Option.some.inj hm0
   simp only [e2, e22, e32, e34, e36, xkb, ↓EVd, isCall, sevalprocAttr]
   all_goals first | done | rfl
 obtain rfl := Option.some.inj hm0
 simp only [e2, e22, e32, e34, e36, xkb, ↓EVd, isCall, sevalprocAttr]
 all_goals first | done | rfl
def x9d (a0 : Int) : Option (Bool) := (xxj a0).bind fun v1 => some (!v1)
def xwq := @EV
set_option maxHeartbeats 2000000 in
theorem xfy (a0 : Int) (r : Bool) (hm0 : x9d a0 = some r) : Ok Tryz.prog 123 [ik .i32 a0] (bool r) := by
 unfold x9d at hm0
 refine okG x8x ?_
 unfold xmr
 obtain ⟨v1, h2, hm0⟩ := bsE hm0
 simp only [xwq, ↓EVd, isCall, sevalprocAttr]
 refine qc (xfz _ _ h2) rfl ?_
 obtain rfl := Option.some.inj hm0
 simp only [xwq, ↓EVd, isCall, sevalprocAttr]
 all_goals first | done | rfl
def xjg (a0 : ByteArray) : Option (Bool) := if (a0.size : Int) = 0 then some false
 else if 12 < (a0.size : Int) then some false
 else if a0 = (ByteArray.mk #[46]) then some false
 else if a0 = (ByteArray.mk #[46, 46]) then some false
 else (idxFM (fun z => x9d z) a0).bind fun v9 => if v9 < 0 then some true
 else some false
def xlf := aI (@EV) (aI (@R3) (@R9))
set_option maxHeartbeats 2000000 in
theorem xss (a0 : ByteArray) (r : Bool) (hm0 : xjg a0 = some r) : Ok Tryz.prog 102 [str a0] (bool r) := by
 unfold xjg at hm0
 refine okG xr1 ?_
 unfold xyu
 rcases iteE hm0 with ⟨e2, hm0⟩ | ⟨e2, hm0⟩
 · obtain rfl := Option.some.inj hm0
   simp only [e2, xlf, ↓EVd, isCall, sevalprocAttr]
   all_goals first | done | rfl
 rcases iteE hm0 with ⟨e4, hm0⟩ | ⟨e4, hm0⟩
 · obtain rfl := Option.some.inj hm0
   simp only [e2, e4, xlf, ↓EVd, isCall, sevalprocAttr]
   all_goals first | done | rfl
 rcases iteE hm0 with ⟨e6, hm0⟩ | ⟨e6, hm0⟩
 · obtain rfl := Option.some.inj hm0
   simp only [e2, e4, e6, xlf, ↓EVd, isCall, sevalprocAttr]
   all_goals first | done | rfl
 rcases iteE hm0 with ⟨e8, hm0⟩ | ⟨e8, hm0⟩
 · obtain rfl := Option.some.inj hm0
   simp only [e2, e4, e6, e8, xlf, ↓EVd, isCall, sevalprocAttr]
   all_goals first | done | rfl
 obtain ⟨v9, h10, hm0⟩ := bsE hm0
 simp only [e2, e4, e6, e8, xlf, ↓EVd, isCall, sevalprocAttr]
 refine qc (x0r (fun z => x9d z) _ _ h10 (by kernel_rfl) (fun z b hz => xfy z b hz)) rfl ?_
 rcases iteE hm0 with ⟨e12, hm0⟩ | ⟨e12, hm0⟩
 · obtain rfl := Option.some.inj hm0
   simp only [e2, e4, e6, e8, e12, xlf, ↓EVd, isCall, sevalprocAttr]
   all_goals first | done | rfl
 obtain rfl := Option.some.inj hm0
 simp only [e2, e4, e6, e8, e12, xlf, ↓EVd, isCall, sevalprocAttr]
 all_goals first | done | rfl
def xff (a0 : ByteArray) : (List ByteArray × Int) → Option (St (List ByteArray × Int) (List ByteArray))
 | (v3, v4) => if v4 < (a0.size : Int) then (ixB a0 v4).bind fun v10 => if (v10.toNat : Int) = 47 then (ap 16 v3 ([xo] : List ByteArray)).bind fun _ => some (.nx ((v3 ++ ([xo] : List ByteArray)), (wr (v4 + 1))))
 else (ix v3 (wr ((v3.length : Int) - 1))).bind fun v19 => (strM a0 (some v4) (some (wr (v4 + 1)))).bind fun v22 => (ck (v19.size + v22.size ≤ 9223372036854775807)).bind fun _ => some (.nx ((v3.set ((wr ((v3.length : Int) - 1))).toNat (v19 ++ v22)), (wr (v4 + 1))))
 else some (.out v3)
def xgh (a0 : ByteArray) : Option (List ByteArray) := (iter (xff a0) big (([xo] : List ByteArray), 1)).bind fun o => (match o with
 | v7 => some v7)
def x0c := aI (aI (@EV) (@R3)) (aI (@R9) (aI (@R42) (@mixed)))
set_option maxHeartbeats 2000000 in
theorem xaz (a0 : ByteArray) (r : List ByteArray) (hm0 : xgh a0 = some r) : Ok Tryz.prog 104 [str a0] (.sl 1 (r.map str)) := by
 unfold xgh at hm0
 refine okG xyy ?_
 unfold x0s
 obtain ⟨o0, ho0, hm0⟩ := bsE hm0
 simp only [x0c, ↓EVd, isCall, sevalprocAttr]
 refine cwp_cx 0 (fun s => ∃ v7 : List ByteArray, ∃ l6 : Nat, (s.T 3 = .msl l6 v7.length ∧ s.H l6 = some (.row 9 1 (v7.map str)) ∧ Lq l6 s.nx) ∧ v7 = o0) ?_ fun J0_0 hJ0_0 => ?_
 · rintro T0 H0 x5 ⟨v7, l6, kk0_0, rfl⟩
   dsimp only [Lq, Nq] at kk0_0
   try dsimp only at hm0
   obtain rfl := Option.some.inj hm0
   simp only [kk0_0, x0c, ↓EVd, isCall, sevalprocAttr]
   all_goals first | done | rfl | exact frzR_e (by simp only [kk0_0, FZ, CLO, x0c, ↓EVd, isCall, sevalprocAttr])
 refine cwp_lp ho0 (fun (v3, v4) s => ∃ l2 : Nat, s.T 0 = str a0 ∧ s.T 3 = .msl l2 v3.length ∧ s.T 4 = int v4 ∧ s.H l2 = some (.row 9 1 (v3.map str)) ∧ Lq l2 s.nx) ?_ ?_
 · refine TI.here ⟨1, ?_, ?_, ?_, ?_, ?_⟩
   all_goals try simp only [x0c, ↓EVd, isCall, sevalprocAttr]
   all_goals first | omega | exact lq (by omega) | exact nq (by omega) | rfl | (congr 1; omega)
 rintro I0 ⟨v3, v4⟩ T0 H0 x1 st0 ⟨l2, kk0⟩ hm1 hI0 hO0
 dsimp only [Lq, Nq] at kk0
 simp only [xff] at hm1
 rcases iteE hm1 with ⟨e9, hm1⟩ | ⟨e9, hm1⟩
 · obtain ⟨v10, e12, hm1⟩ := ixBE hm1
   rcases iteE hm1 with ⟨e14, hm1⟩ | ⟨e14, hm1⟩
   · obtain ⟨e17, hm1⟩ := apE hm1
     try simp only [ZL] at e17
     obtain rfl := Option.some.inj hm1
     simp only [kk0, e9, e12, e14, e17, x0c, ↓EVd, isCall, sevalprocAttr]
     refine TI.here (hI0 _ rfl _ ⟨(x1 + 10), ?_, ?_, ?_, ?_, ?_⟩)
     all_goals try simp only [kk0, e9, e12, e14, e17, x0c, ↓EVd, isCall, sevalprocAttr]
     all_goals first | omega | exact lq (by omega) | exact nq (by omega) | rfl | (congr 1; omega)
   obtain ⟨v19, e21, hm1⟩ := ixE str hm1
   obtain ⟨v22, h23, hm1⟩ := bsE hm1
   have e24 := show xec Tryz.prog 9 (str a0) (some (int v4)) (some (int (wr (v4 + 1)))) none = some (str v22) from xt9 (by kernel_rfl) h23
   obtain ⟨e26, hm1⟩ := ckE hm1
   obtain rfl := Option.some.inj hm1
   simp only [kk0, e9, e12, e14, e21, e24, e26, x0c, ↓EVd, isCall, sevalprocAttr]
   refine TI.here (hI0 _ rfl _ ⟨l2, ?_, ?_, ?_, ?_, ?_⟩)
   all_goals try simp only [kk0, e9, e12, e14, e21, e24, e26, x0c, ↓EVd, isCall, sevalprocAttr]
   all_goals first | omega | exact lq (by omega) | exact nq (by omega) | rfl | (congr 1; omega)
 obtain rfl := Option.some.inj hm1
 simp only [kk0, e9, x0c, ↓EVd, isCall, sevalprocAttr]
 refine TI.here (hJ0_0 _ ⟨v3, l2, ⟨?_, ?_, ?_⟩, hO0 _ rfl⟩)
 all_goals try simp only [kk0, e9, x0c, ↓EVd, isCall, sevalprocAttr]
 all_goals first | omega | exact lq (by omega) | exact nq (by omega) | rfl | (congr 1; omega)
def x7g (v10 : List ByteArray) : Int → Option (St (Int) ((Unit) ⊕ (List ByteArray × Bool)))
 | v13 => if v13 < (v10.length : Int) then (ix v10 v13).bind fun v17 => (xmc v17).bind fun v20 => if (!v20) = true then some (.out (.inr ([], false)))
 else some (.nx (wr (v13 + 1)))
 else some (.out (.inl ()))
def xjh (a0 : ByteArray) : Option (List ByteArray × Bool) := if a0 = (ByteArray.mk #[47]) then some ([], true)
 else if (a0.size : Int) = 0 then some ([], false)
 else (ixB a0 0).bind fun v5 => if (v5.toNat : Int) = 47 then (xgh a0).bind fun v10 => (iter (x7g v10) big 0).bind fun o => (match o with
 | (.inl _) => some (v10, true)
 | (.inr r) => some r)
 else some ([], false)
def xbc := aI (aI (@EV) (@R3)) (aI (@R9) (@R42))
set_option maxHeartbeats 2000000 in
theorem x2y (a0 : ByteArray) (r : List ByteArray × Bool) (hm0 : xjh a0 = some r) : Ok Tryz.prog 88 [str a0] (.tup [.sl 1 (r.1.map str), bool r.2]) := by
 unfold xjh at hm0
 refine okG xbz ?_
 unfold xzs
 rcases iteE hm0 with ⟨e2, hm0⟩ | ⟨e2, hm0⟩
 · obtain rfl := Option.some.inj hm0
   simp only [e2, xbc, ↓EVd, isCall, sevalprocAttr]
   all_goals first | done | rfl | exact xd (by simp only [CLO]) | exact xi (by simp only [CLO]) (Sub.tup (Subs.cons (Sub.nilS _) (Subs.cons (Sub.refl _) (Subs.nil))))
 rcases iteE hm0 with ⟨e4, hm0⟩ | ⟨e4, hm0⟩
 · obtain rfl := Option.some.inj hm0
   simp only [e2, e4, xbc, ↓EVd, isCall, sevalprocAttr]
   all_goals first | done | rfl | exact xd (by simp only [CLO]) | exact xi (by simp only [CLO]) (Sub.tup (Subs.cons (Sub.nilS _) (Subs.cons (Sub.refl _) (Subs.nil))))
 obtain ⟨v5, e7, hm0⟩ := ixBE hm0
 try simp only [sevalprocAttr, eq_self, true_and] at e7
 rcases iteE hm0 with ⟨e9, hm0⟩ | ⟨e9, hm0⟩
 · obtain ⟨v10, h11, hm0⟩ := bsE hm0
   simp only [e2, e4, e7, e9, xbc, ↓EVd, isCall, sevalprocAttr]
   refine qc (xaz _ _ h11) rfl ?_
   obtain ⟨o0, ho0, hm0⟩ := bsE hm0
   simp only [e2, e4, e7, e9, xbc, ↓EVd, isCall, sevalprocAttr]
   refine cwp_cx 0 (fun s => (s.T 4 = .sl 1 (v10.map str)) ∧ (.inl ()) = o0) ?_ fun J0_0 hJ0_0 => ?_
   · rintro T0 H0 x14 ⟨kk0_0, rfl⟩
     dsimp only [Lq, Nq] at kk0_0
     try dsimp only at hm0
     obtain rfl := Option.some.inj hm0
     simp only [kk0_0, e2, e4, e7, e9, xbc, ↓EVd, isCall, sevalprocAttr]
     all_goals first | done | rfl | exact xd (by simp only [CLO]) | exact xi (by simp only [CLO]) (Sub.tup (Subs.cons (Sub.refl _) (Subs.cons (Sub.refl _) (Subs.nil))))
   refine cwp_lp ho0 (fun v13 s => s.T 4 = .sl 1 (v10.map str) ∧ s.T 5 = int v13) ?_ ?_
   · refine TI.here ⟨?_, ?_⟩
     all_goals try simp only [e2, e4, e7, e9, xbc, ↓EVd, isCall, sevalprocAttr]
     all_goals first | omega | exact lq (by omega) | exact nq (by omega) | rfl | (congr 1; omega)
   rintro I0 v13 T0 H0 x12 st0 kk0 hm1 hI0 hO0
   dsimp only [Lq, Nq] at kk0
   simp only [x7g] at hm1
   rcases iteE hm1 with ⟨e16, hm1⟩ | ⟨e16, hm1⟩
   · obtain ⟨v17, e19, hm1⟩ := ixE str hm1
     obtain ⟨v20, h21, hm1⟩ := bsE hm1
     simp only [kk0, e2, e4, e7, e9, e16, e19, xbc, ↓EVd, isCall, sevalprocAttr]
     refine qc (xyi _ _ h21) rfl ?_
     rcases itbE hm1 with ⟨e23, hm1⟩ | ⟨e23, hm1⟩
     · obtain rfl := Option.some.inj hm1
       obtain rfl := hO0 _ rfl
       try dsimp only at hm0
       obtain rfl := Option.some.inj hm0
       simp only [kk0, e2, e4, e7, e9, e16, e19, e23, xbc, ↓EVd, isCall, sevalprocAttr]
       all_goals first | done | rfl | exact xd (by simp only [CLO]) | exact xi (by simp only [CLO]) (Sub.tup (Subs.cons (Sub.nilS _) (Subs.cons (Sub.refl _) (Subs.nil))))
     obtain rfl := Option.some.inj hm1
     simp only [kk0, e2, e4, e7, e9, e16, e19, e23, xbc, ↓EVd, isCall, sevalprocAttr]
     refine TI.here (hI0 _ rfl _ ⟨?_, ?_⟩)
     all_goals try simp only [kk0, e2, e4, e7, e9, e16, e19, e23, xbc, ↓EVd, isCall, sevalprocAttr]
     all_goals first | omega | exact lq (by omega) | exact nq (by omega) | rfl | (congr 1; omega)
   obtain rfl := Option.some.inj hm1
   simp only [kk0, e2, e4, e7, e9, e16, xbc, ↓EVd, isCall, sevalprocAttr]
   refine TI.here (hJ0_0 _ ⟨?_, hO0 _ rfl⟩)
   all_goals try simp only [kk0, e2, e4, e7, e9, e16, xbc, ↓EVd, isCall, sevalprocAttr]
   all_goals first | omega | exact lq (by omega) | exact nq (by omega) | rfl | (congr 1; omega)
 obtain rfl := Option.some.inj hm0
 simp only [e2, e4, e7, e9, xbc, ↓EVd, isCall, sevalprocAttr]
 all_goals first | done | rfl | exact xd (by simp only [CLO]) | exact xi (by simp only [CLO]) (Sub.tup (Subs.cons (Sub.nilS _) (Subs.cons (Sub.refl _) (Subs.nil))))
def xld (a0 : ByteArray) : Option (List ByteArray × Bool × Bool) := if 24 < (a0.size : Int) then some ([], false, false)
 else if 0 < (a0.size : Int) then (ixB a0 0).bind fun v5 => if (v5.toNat : Int) = 47 then (xjh a0).bind fun v10 => some (v10.1, v10.2, v10.2)
 else (xmc a0).bind fun v12 => if v12 = true then some (([a0] : List ByteArray), false, true)
 else some ([], false, false)
 else (xmc a0).bind fun v16 => if v16 = true then some (([a0] : List ByteArray), false, true)
 else some ([], false, false)
def x3b := aI (aI (@EV) (@R3)) (aI (@R9) (@R42))
set_option maxHeartbeats 2000000 in
theorem xrv (a0 : ByteArray) (r : List ByteArray × Bool × Bool) (hm0 : xld a0 = some r) : Ok Tryz.prog 59 [str a0] (.tup [.sl 1 (r.1.map str), bool r.2.1, bool r.2.2]) := by
 unfold xld at hm0
 refine okG xov ?_
 unfold xop
 rcases iteE hm0 with ⟨e2, hm0⟩ | ⟨e2, hm0⟩
 · obtain rfl := Option.some.inj hm0
   simp only [e2, x3b, ↓EVd, isCall, sevalprocAttr]
   all_goals first | done | rfl | exact xd (by simp only [CLO]) | exact xi (by simp only [CLO]) (Sub.tup (Subs.cons (Sub.nilS _) (Subs.cons (Sub.refl _) (Subs.cons (Sub.refl _) (Subs.nil)))))
 rcases iteE hm0 with ⟨e4, hm0⟩ | ⟨e4, hm0⟩
 · obtain ⟨v5, e7, hm0⟩ := ixBE hm0
   try simp only [sevalprocAttr, eq_self, true_and] at e7
   rcases iteE hm0 with ⟨e9, hm0⟩ | ⟨e9, hm0⟩
   · obtain ⟨v10, h11, hm0⟩ := bsE hm0
     simp only [e2, e4, e7, e9, x3b, ↓EVd, isCall, sevalprocAttr]
     refine qc (x2y _ _ h11) rfl ?_
     obtain rfl := Option.some.inj hm0
     simp only [e2, e4, e7, e9, x3b, ↓EVd, isCall, sevalprocAttr]
     all_goals first | done | rfl | exact xd (by simp only [CLO]) | exact xi (by simp only [CLO]) (Sub.tup (Subs.cons (Sub.refl _) (Subs.cons (Sub.refl _) (Subs.cons (Sub.refl _) (Subs.nil)))))
   obtain ⟨v12, h13, hm0⟩ := bsE hm0
   simp only [e2, e4, e7, e9, x3b, ↓EVd, isCall, sevalprocAttr]
   refine qc (xyi _ _ h13) rfl ?_
   rcases itbE hm0 with ⟨e15, hm0⟩ | ⟨e15, hm0⟩
   · obtain rfl := Option.some.inj hm0
     simp only [e2, e4, e7, e9, e15, x3b, ↓EVd, isCall, sevalprocAttr]
     all_goals first | done | rfl | exact x9e 9 (by simp only [e2, e4, e7, e9, e15, FZ, CLO, x3b, ↓EVd, isCall, sevalprocAttr]) (Sub.tup (Subs.cons (Sub.refl _) (Subs.cons (Sub.refl _) (Subs.cons (Sub.refl _) (Subs.nil)))))
   obtain rfl := Option.some.inj hm0
   simp only [e2, e4, e7, e9, e15, x3b, ↓EVd, isCall, sevalprocAttr]
   all_goals first | done | rfl | exact xd (by simp only [CLO]) | exact xi (by simp only [CLO]) (Sub.tup (Subs.cons (Sub.nilS _) (Subs.cons (Sub.refl _) (Subs.cons (Sub.refl _) (Subs.nil)))))
 obtain ⟨v16, h17, hm0⟩ := bsE hm0
 simp only [e2, e4, x3b, ↓EVd, isCall, sevalprocAttr]
 refine qc (xyi _ _ h17) rfl ?_
 rcases itbE hm0 with ⟨e19, hm0⟩ | ⟨e19, hm0⟩
 · obtain rfl := Option.some.inj hm0
   simp only [e2, e4, e19, x3b, ↓EVd, isCall, sevalprocAttr]
   all_goals first | done | rfl | exact x9e 9 (by simp only [e2, e4, e19, FZ, CLO, x3b, ↓EVd, isCall, sevalprocAttr]) (Sub.tup (Subs.cons (Sub.refl _) (Subs.cons (Sub.refl _) (Subs.cons (Sub.refl _) (Subs.nil)))))
 obtain rfl := Option.some.inj hm0
 simp only [e2, e4, e19, x3b, ↓EVd, isCall, sevalprocAttr]
 all_goals first | done | rfl | exact xd (by simp only [CLO]) | exact xi (by simp only [CLO]) (Sub.tup (Subs.cons (Sub.nilS _) (Subs.cons (Sub.refl _) (Subs.cons (Sub.refl _) (Subs.nil)))))
def x5h (a0 : ByteArray) : Option (List ByteArray × Bool) := (xnf a0 (ByteArray.mk #[47])).bind fun v1 => if (!v1.2) = true then some ([], false)
 else (xxh v1.1 (ByteArray.mk #[47])).bind fun v5 => some (v5, true)
def xyk := aI (@EV) (@R9)
set_option maxHeartbeats 2000000 in
theorem x20 (a0 : ByteArray) (r : List ByteArray × Bool) (hm0 : x5h a0 = some r) : Ok Tryz.prog 119 [str a0] (.tup [.sl 1 (r.1.map str), bool r.2]) := by
 unfold x5h at hm0
 refine okG xp0 ?_
 unfold x8t
 obtain ⟨v1, h2, hm0⟩ := bsE hm0
 simp only [xyk, ↓EVd, isCall, sevalprocAttr]
 refine qc (x9r _ _ _ h2) rfl ?_
 rcases itbE hm0 with ⟨e4, hm0⟩ | ⟨e4, hm0⟩
 · obtain rfl := Option.some.inj hm0
   simp only [e4, xyk, ↓EVd, isCall, sevalprocAttr]
   all_goals first | done | rfl | exact xd (by simp only [CLO]) | exact xi (by simp only [CLO]) (Sub.tup (Subs.cons (Sub.nilS _) (Subs.cons (Sub.refl _) (Subs.nil))))
 obtain ⟨v5, h6, hm0⟩ := bsE hm0
 simp only [e4, xyk, ↓EVd, isCall, sevalprocAttr]
 refine qc (xax _ _ _ h6) rfl ?_
 obtain rfl := Option.some.inj hm0
 simp only [e4, xyk, ↓EVd, isCall, sevalprocAttr]
 all_goals first | done | rfl | exact xd (by simp only [CLO]) | exact xi (by simp only [CLO]) (Sub.tup (Subs.cons (Sub.refl _) (Subs.cons (Sub.refl _) (Subs.nil))))
def xqg (a0 : ByteArray) : Option (Bool) := (xjg a0).bind fun v1 => some (!v1)
def xuq := aI (@EV) (@R9)
set_option maxHeartbeats 2000000 in
theorem x5x (a0 : ByteArray) (r : Bool) (hm0 : xqg a0 = some r) : Ok Tryz.prog 121 [str a0] (bool r) := by
 unfold xqg at hm0
 refine okG xgy ?_
 unfold xsq
 obtain ⟨v1, h2, hm0⟩ := bsE hm0
 simp only [xuq, ↓EVd, isCall, sevalprocAttr]
 refine qc (xss _ _ h2) rfl ?_
 obtain rfl := Option.some.inj hm0
 simp only [xuq, ↓EVd, isCall, sevalprocAttr]
 all_goals first | done | rfl
def x6h (a0 : ByteArray) : Option (List ByteArray × Bool) := (x5h a0).bind fun v1 => if a0 = (ByteArray.mk #[47]) then some ([], true)
 else if (!v1.2) = true then some ([], false)
 else (xyg (fun z => xqg z ) v1.1).bind fun v7 => if v7 = true then some ([], false)
 else some (v1.1, true)
def xmf := aI (@EV) (aI (@R9) (@R42))
set_option maxHeartbeats 2000000 in
theorem x70 (a0 : ByteArray) (r : List ByteArray × Bool) (hm0 : x6h a0 = some r) : Ok Tryz.prog 101 [str a0] (.tup [.sl 1 (r.1.map str), bool r.2]) := by
 unfold x6h at hm0
 refine okG xv0 ?_
 unfold xhu
 obtain ⟨v1, h2, hm0⟩ := bsE hm0
 simp only [xmf, ↓EVd, isCall, sevalprocAttr]
 refine qc (x20 _ _ h2) rfl ?_
 rcases iteE hm0 with ⟨e4, hm0⟩ | ⟨e4, hm0⟩
 · obtain rfl := Option.some.inj hm0
   simp only [e4, xmf, ↓EVd, isCall, sevalprocAttr]
   all_goals first | done | rfl | exact xd (by simp only [CLO]) | exact xi (by simp only [CLO]) (Sub.tup (Subs.cons (Sub.nilS _) (Subs.cons (Sub.refl _) (Subs.nil))))
 rcases itbE hm0 with ⟨e6, hm0⟩ | ⟨e6, hm0⟩
 · obtain rfl := Option.some.inj hm0
   simp only [e4, e6, xmf, ↓EVd, isCall, sevalprocAttr]
   all_goals first | done | rfl | exact xd (by simp only [CLO]) | exact xi (by simp only [CLO]) (Sub.tup (Subs.cons (Sub.nilS _) (Subs.cons (Sub.refl _) (Subs.nil))))
 obtain ⟨v7, h8, hm0⟩ := bsE hm0
 simp only [e4, e6, xmf, ↓EVd, isCall, sevalprocAttr]
 refine qc (xml xci xic x0d aggN_9 (fi := []) (ca := []) str v1.1 (fun z => xqg z ) _ h8 (fun z b hz => x5x z  b hz) (fun z => by simp only [CLO]) rfl (by simp only [CLO]) (fun z => by simp only [xmf, ↓EVd, isCall, sevalprocAttr])) rfl ?_
 rcases itbE hm0 with ⟨e10, hm0⟩ | ⟨e10, hm0⟩
 · obtain rfl := Option.some.inj hm0
   simp only [e4, e6, e10, xmf, ↓EVd, isCall, sevalprocAttr]
   all_goals first | done | rfl | exact xd (by simp only [CLO]) | exact xi (by simp only [CLO]) (Sub.tup (Subs.cons (Sub.nilS _) (Subs.cons (Sub.refl _) (Subs.nil))))
 obtain rfl := Option.some.inj hm0
 simp only [e4, e6, e10, xmf, ↓EVd, isCall, sevalprocAttr]
 all_goals first | done | rfl | exact xd (by simp only [CLO]) | exact xi (by simp only [CLO]) (Sub.tup (Subs.cons (Sub.refl _) (Subs.cons (Sub.refl _) (Subs.nil))))
def xvd (a0 : ByteArray) : Option (List ByteArray × Bool × Bool) := if 24 < (a0.size : Int) then some ([], false, false)
 else (xof a0 (ByteArray.mk #[47])).bind fun v3 => if v3 = true then (x6h a0).bind fun v7 => some (v7.1, v7.2, v7.2)
 else (xjg a0).bind fun v9 => if v9 = true then some (([a0] : List ByteArray), false, true)
 else some ([], false, false)
def xbd := aI (aI (@EV) (@R3)) (aI (@R9) (@R42))
set_option maxHeartbeats 2000000 in
theorem xrw (a0 : ByteArray) (r : List ByteArray × Bool × Bool) (hm0 : xvd a0 = some r) : Ok Tryz.prog 84 [str a0] (.tup [.sl 1 (r.1.map str), bool r.2.1, bool r.2.2]) := by
 unfold xvd at hm0
 refine okG x6w ?_
 unfold x1p
 rcases iteE hm0 with ⟨e2, hm0⟩ | ⟨e2, hm0⟩
 · obtain rfl := Option.some.inj hm0
   simp only [e2, xbd, ↓EVd, isCall, sevalprocAttr]
   all_goals first | done | rfl | exact xd (by simp only [CLO]) | exact xi (by simp only [CLO]) (Sub.tup (Subs.cons (Sub.nilS _) (Subs.cons (Sub.refl _) (Subs.cons (Sub.refl _) (Subs.nil)))))
 obtain ⟨v3, h4, hm0⟩ := bsE hm0
 simp only [e2, xbd, ↓EVd, isCall, sevalprocAttr]
 refine qc (xrr _ _ _ h4) rfl ?_
 rcases itbE hm0 with ⟨e6, hm0⟩ | ⟨e6, hm0⟩
 · obtain ⟨v7, h8, hm0⟩ := bsE hm0
   simp only [e2, e6, xbd, ↓EVd, isCall, sevalprocAttr]
   refine qc (x70 _ _ h8) rfl ?_
   obtain rfl := Option.some.inj hm0
   simp only [e2, e6, xbd, ↓EVd, isCall, sevalprocAttr]
   all_goals first | done | rfl | exact xd (by simp only [CLO]) | exact xi (by simp only [CLO]) (Sub.tup (Subs.cons (Sub.refl _) (Subs.cons (Sub.refl _) (Subs.cons (Sub.refl _) (Subs.nil)))))
 obtain ⟨v9, h10, hm0⟩ := bsE hm0
 simp only [e2, e6, xbd, ↓EVd, isCall, sevalprocAttr]
 refine qc (xss _ _ h10) rfl ?_
 rcases itbE hm0 with ⟨e12, hm0⟩ | ⟨e12, hm0⟩
 · obtain rfl := Option.some.inj hm0
   simp only [e2, e6, e12, xbd, ↓EVd, isCall, sevalprocAttr]
   all_goals first | done | rfl | exact x9e 9 (by simp only [e2, e6, e12, FZ, CLO, xbd, ↓EVd, isCall, sevalprocAttr]) (Sub.tup (Subs.cons (Sub.refl _) (Subs.cons (Sub.refl _) (Subs.cons (Sub.refl _) (Subs.nil)))))
 obtain rfl := Option.some.inj hm0
 simp only [e2, e6, e12, xbd, ↓EVd, isCall, sevalprocAttr]
 all_goals first | done | rfl | exact xd (by simp only [CLO]) | exact xi (by simp only [CLO]) (Sub.tup (Subs.cons (Sub.nilS _) (Subs.cons (Sub.refl _) (Subs.cons (Sub.refl _) (Subs.nil)))))
end Go.Proofs.YtapdjibjnfeipaaGreatDoor.AL

