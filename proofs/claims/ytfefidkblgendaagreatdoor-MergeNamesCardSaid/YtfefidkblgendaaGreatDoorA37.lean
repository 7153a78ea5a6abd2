/- What any node of any stack should say of copies, and which say otherwise, is what the document says: part 37 of 51. -/
import Derived.Test.YtfefidkblgendaaGreatDoorA36
set_option linter.all false
/- Models of functions, and that the functions are as their models: written by gen.py. -/
set_option linter.all false
set_option maxRecDepth 100000
namespace Go.Proofs.YtfefidkblgendaaGreatDoor.AL
open Go Go.Proofs
def x0d (a0 : Int) : Option (Bool) := if 97 ≤ a0 then if a0 ≤ 122 then some true
 else if 48 ≤ a0 then if a0 ≤ 57 then some true
 else if a0 = 46 then some true
 else if a0 = 95 then some true
 else if a0 = 45 then some true
 else some false
 else if a0 = 46 then some true
 else if a0 = 95 then some true
 else if a0 = 45 then some true
 else some false
 else if 48 ≤ a0 then if a0 ≤ 57 then some true
 else if a0 = 46 then some true
 else if a0 = 95 then some true
 else if a0 = 45 then some true
 else some false
 else if a0 = 46 then some true
 else if a0 = 95 then some true
 else if a0 = 45 then some true
 else some false
def xkb := aI (@EV) (@R5)
set_option maxHeartbeats 2000000 in
theorem xjy (a0 : Int) (r : Bool) (hm0 : x0d a0 = some r) : Ok Tryz.prog 88 [ik .u8 a0] (bool r) := by
 unfold x0d at hm0
 refine okG xfz ?_
 unfold xhr
 rcases iteE hm0 with ⟨e2, hm0⟩ | ⟨e2, hm0⟩
 · rcases iteE hm0 with ⟨e4, hm0⟩ | ⟨e4, hm0⟩
   · obtain rfl := Option.some.inj hm0
     simp only [e2, e4, xkb, ↓EVd, isCall, sevalprocAttr]
     all_goals first | done | rfl
   rcases iteE hm0 with ⟨e6, hm0⟩ | ⟨e6, hm0⟩
   · rcases iteE hm0 with ⟨e8, hm0⟩ | ⟨e8, hm0⟩
     · obtain rfl := Option.some.inj hm0
       simp only [e2, e4, e6, e8, xkb, ↓EVd, isCall, sevalprocAttr]
       all_goals first | done | rfl
     rcases iteE hm0 with ⟨e10, hm0⟩ | ⟨e10, hm0⟩
     · obtain rfl := Option.some.inj hm0
       simp only [e2, e4, e6, e8, e10, xkb, ↓EVd, isCall, sevalprocAttr]
       all_goals first | done | rfl
     rcases iteE hm0 with ⟨e12, hm0⟩ | ⟨e12, hm0⟩
     · obtain rfl := Option.some.inj hm0
       simp only [e2, e4, e6, e8, e10, e12, xkb, ↓EVd, isCall, sevalprocAttr]
       all_goals first | done | rfl
     rcases iteE hm0 with ⟨e14, hm0⟩ | ⟨e14, hm0⟩
     · obtain rfl := Option.some.inj hm0
       simp only [e2, e4, e6, e8, e10, e12, e14, xkb, ↓EVd, isCall, sevalprocAttr]
       all_goals first | done | rfl
     obtain rfl := Option.some.inj hm0
     simp only [e2, e4, e6, e8, e10, e12, e14, xkb, ↓EVd, isCall, sevalprocAttr]
     all_goals first | done | rfl
   rcases iteE hm0 with ⟨e16, hm0⟩ | ⟨e16, hm0⟩
   · obtain rfl := Option.some.inj hm0
     simp only [e2, e4, e6, e16, xkb, ↓EVd, isCall, sevalprocAttr]
     all_goals first | done | rfl
   rcases iteE hm0 with ⟨e18, hm0⟩ | ⟨e18, hm0⟩
   · obtain rfl := Option.some.inj hm0
     simp only [e2, e4, e6, e16, e18, xkb, ↓EVd, isCall, sevalprocAttr]
     all_goals first | done | rfl
   rcases iteE hm0 with ⟨e20, hm0⟩ | ⟨e20, hm0⟩
   · obtain rfl := Option.some.inj hm0
     simp only [e2, e4, e6, e16, e18, e20, xkb, ↓EVd, isCall, sevalprocAttr]
     all_goals first | done | rfl
   obtain rfl := Option.some.inj hm0
   simp only [e2, e4, e6, e16, e18, e20, xkb, ↓EVd, isCall, sevalprocAttr]
   all_goals first | done | rfl
 rcases iteE hm0 with ⟨e22, hm0⟩ | ⟨e22, hm0⟩
 · rcases iteE hm0 with ⟨e24, hm0⟩ | ⟨e24, hm0⟩
   · obtain rfl := Option.some.inj hm0
     simp only [e2, e22, e24, xkb, ↓EVd, isCall, sevalprocAttr]
     all_goals first | done | rfl
   rcases iteE hm0 with ⟨e26, hm0⟩ | ⟨e26, hm0⟩
   · obtain rfl := Option.some.inj hm0
     simp only [e2, e22, e24, e26, xkb, ↓EVd, isCall, sevalprocAttr]
     all_goals first | done | rfl
   rcases iteE hm0 with ⟨e28, hm0⟩ | ⟨e28, hm0⟩
   · obtain rfl := Option.some.inj hm0
     simp only [e2, e22, e24, e26, e28, xkb, ↓EVd, isCall, sevalprocAttr]
     all_goals first | done | rfl
   rcases iteE hm0 with ⟨e30, hm0⟩ | ⟨e30, hm0⟩
   · obtain rfl := Option.some.inj hm0
     simp only [e2, e22, e24, e26, e28, e30, xkb, ↓EVd, isCall, sevalprocAttr]
     all_goals first | done | rfl
   obtain rfl := Option.some.inj hm0
   simp only [e2, e22, e24, e26, e28, e30, xkb, ↓EVd, isCall, sevalprocAttr]
   all_goals first | done | rfl
 rcases iteE hm0 with ⟨e32, hm0⟩ | ⟨e32, hm0⟩
 · obtain rfl := Option.some.inj hm0
   simp only [e2, e22, e32, xkb, ↓EVd, isCall, sevalprocAttr]
   all_goals first | done | rfl
 rcases iteE hm0 with ⟨e34, hm0⟩ | ⟨e34, hm0⟩
 · obtain rfl := Option.some.inj hm0
   simp only [e2, e22, e32, e34, xkb, ↓EVd, isCall, sevalprocAttr]
   all_goals first | done | rfl
 rcases iteE hm0 with ⟨e36, hm0⟩ | ⟨e36, hm0⟩
 · obtain rfl := Option.some.inj hm0
   simp only [e2, e22, e32, e34, e36, xkb, ↓EVd, isCall, sevalprocAttr]
   all_goals first | done | rfl
 obtain rfl := Option.some.inj hm0
 simp only [e2, e22, e32, e34, e36, xkb, ↓EVd, isCall, sevalprocAttr]
 all_goals first | done | rfl
def x8d (a0 : ByteArray) : Int → Option (St (Int) ((Unit) ⊕ (Bool)))
 | v10 => if v10 < (a0.size : Int) then (ixB a0 v10).bind fun v14 => (x0d (v14.toNat : Int)).bind fun v17 => if (!v17) = true then some (.out (.inr false))
 else some (.nx (wr (v10 + 1)))
 else some (.out (.inl ()))
def xoc (a0 : ByteArray) : Option (Bool) := if (a0.size : Int) < 1 then some false
 else if 12 < (a0.size : Int) then some false
 else if a0 = (ByteArray.mk #[46]) then some false
 else if a0 = (ByteArray.mk #[46, 46]) then some false
 else (iter (x8d a0) big 0).bind fun o => (match o with
 | (.inl _) => some true
 | (.inr r) => some r)
def xfc := aI (aI (@EV) (@R3)) (aI (@R5) (@R9))
set_option maxHeartbeats 2000000 in
theorem x6i (a0 : ByteArray) (r : Bool) (hm0 : xoc a0 = some r) : Ok Tryz.prog 56 [str a0] (bool r) := by
 unfold xoc at hm0
 refine okG xj0 ?_
 unfold x9s
 rcases iteE hm0 with ⟨e2, hm0⟩ | ⟨e2, hm0⟩
 · obtain rfl := Option.some.inj hm0
   simp only [e2, xfc, ↓EVd, isCall, sevalprocAttr]
   all_goals first | done | rfl
 rcases iteE hm0 with ⟨e4, hm0⟩ | ⟨e4, hm0⟩
 · obtain rfl := Option.some.inj hm0
   simp only [e2, e4, xfc, ↓EVd, isCall, sevalprocAttr]
   all_goals first | done | rfl
 rcases iteE hm0 with ⟨e6, hm0⟩ | ⟨e6, hm0⟩
 · obtain rfl := Option.some.inj hm0
   simp only [e2, e4, e6, xfc, ↓EVd, isCall, sevalprocAttr]
   all_goals first | done | rfl
 rcases iteE hm0 with ⟨e8, hm0⟩ | ⟨e8, hm0⟩
 · obtain rfl := Option.some.inj hm0
   simp only [e2, e4, e6, e8, xfc, ↓EVd, isCall, sevalprocAttr]
   all_goals first | done | rfl
 obtain ⟨o0, ho0, hm0⟩ := bsE hm0
 simp only [e2, e4, e6, e8, xfc, ↓EVd, isCall, sevalprocAttr]
 refine cwp_cx 0 (fun s => (.inl ()) = o0) ?_ fun J0_0 hJ0_0 => ?_
 · rintro T0 H0 x11 rfl
   try dsimp only at hm0
   obtain rfl := Option.some.inj hm0
   simp only [e2, e4, e6, e8, xfc, ↓EVd, isCall, sevalprocAttr]
   all_goals first | done | rfl
 refine cwp_lp ho0 (fun v10 s => s.T 0 = str a0 ∧ s.T 3 = int v10) ?_ ?_
 · refine TI.here ⟨?_, ?_⟩
   all_goals try simp only [e2, e4, e6, e8, xfc, ↓EVd, isCall, sevalprocAttr]
   all_goals first | omega | exact lq (by omega) | exact nq (by omega) | rfl | (congr 1; omega)
 rintro I0 v10 T0 H0 x9 st0 kk0 hm1 hI0 hO0
 dsimp only [Lq, Nq] at kk0
 simp only [x8d] at hm1
 rcases iteE hm1 with ⟨e13, hm1⟩ | ⟨e13, hm1⟩
 · obtain ⟨v14, e16, hm1⟩ := ixBE hm1
   obtain ⟨v17, h18, hm1⟩ := bsE hm1
   simp only [kk0, e2, e4, e6, e8, e13, e16, xfc, ↓EVd, isCall, sevalprocAttr]
   refine qc (xjy _ _ h18) rfl ?_
   rcases itbE hm1 with ⟨e20, hm1⟩ | ⟨e20, hm1⟩
   · obtain rfl := Option.some.inj hm1
     obtain rfl := hO0 _ rfl
     try dsimp only at hm0
     obtain rfl := Option.some.inj hm0
     simp only [kk0, e2, e4, e6, e8, e13, e16, e20, xfc, ↓EVd, isCall, sevalprocAttr]
     all_goals first | done | rfl
   obtain rfl := Option.some.inj hm1
   simp only [kk0, e2, e4, e6, e8, e13, e16, e20, xfc, ↓EVd, isCall, sevalprocAttr]
   refine TI.here (hI0 _ rfl _ ⟨?_, ?_⟩)
   all_goals try simp only [kk0, e2, e4, e6, e8, e13, e16, e20, xfc, ↓EVd, isCall, sevalprocAttr]
   all_goals first | omega | exact lq (by omega) | exact nq (by omega) | rfl | (congr 1; omega)
 obtain rfl := Option.some.inj hm1
 simp only [kk0, e2, e4, e6, e8, e13, xfc, ↓EVd, isCall, sevalprocAttr]
 refine TI.here (hJ0_0 _ (hO0 _ rfl))
def xak (a0 : Int) : Option (Bool) := if 97 ≤ a0 then if a0 ≤ 122 then some true
 else if 48 ≤ a0 then if a0 ≤ 57 then some true
 else if a0 = 46 then some true
 else if a0 = 95 then some true
 else if a0 = 45 then some true
 else some false
 else if a0 = 46 then some true
 else if a0 = 95 then some true
 else if a0 = 45 then some true
 else some false
 else if 48 ≤ a0 then if a0 ≤ 57 then some true
 else if a0 = 46 then some true
 else if a0 = 95 then some true
 else if a0 = 45 then some true
 else some false
 else if a0 = 46 then some true
 else if a0 = 95 then some true
 else if a0 = 45 then some true
 else some false
def xmb := @EV
set_option maxHeartbeats 2000000 in
theorem xl0 (a0 : Int) (r : Bool) (hm0 : xak a0 = some r) : Ok Tryz.prog 87 [ik .i32 a0] (bool r) := by
 unfold xak at hm0
 refine okG xd0 ?_
 unfold x8s
 rcases iteE hm0 with ⟨e2, hm0⟩ | ⟨e2, hm0⟩
 · rcases iteE hm0 with ⟨e4, hm0⟩ | ⟨e4, hm0⟩
   · obtain rfl := Option.some.inj hm0
     simp only [e2, e4, xmb, ↓EVd, isCall, sevalprocAttr]
     all_goals first | done | rfl
   rcases iteE hm0 with ⟨e6, hm0⟩ | ⟨e6, hm0⟩
   · rcases iteE hm0 with ⟨e8, hm0⟩ | ⟨e8, hm0⟩
     · obtain rfl := Option.some.inj hm0
       simp only [e2, e4, e6, e8, xmb, ↓EVd, isCall, sevalprocAttr]
       all_goals first | done | rfl
     rcases iteE hm0 with ⟨e10, hm0⟩ | ⟨e10, hm0⟩
     · obtain rfl := Option.some.inj hm0
       simp only [e2, e4, e6, e8, e10, xmb, ↓EVd, isCall, sevalprocAttr]
       all_goals first | done | rfl
     rcases iteE hm0 with ⟨e12, hm0⟩ | ⟨e12, hm0⟩
     · obtain rfl := Option.some.inj hm0
       simp only [e2, e4, e6, e8, e10, e12, xmb, ↓EVd, isCall, sevalprocAttr]
       all_goals first | done | rfl
     rcases iteE hm0 with ⟨e14, hm0⟩ | ⟨e14, hm0⟩
     · obtain rfl := Option.some.inj hm0
       simp only [e2, e4, e6, e8, e10, e12, e14, xmb, ↓EVd, isCall, sevalprocAttr]
       all_goals first | done | rfl
     obtain rfl := Option.some.inj hm0
     simp only [e2, e4, e6, e8, e10, e12, e14, xmb, ↓EVd, isCall, sevalprocAttr]
     all_goals first | done | rfl
   rcases iteE hm0 with ⟨e16, hm0⟩ | ⟨e16, hm0⟩
   · obtain rfl := Option.some.inj hm0
     simp only [e2, e4, e6, e16, xmb, ↓EVd, isCall, sevalprocAttr]
     all_goals first | done | rfl
   rcases iteE hm0 with ⟨e18, hm0⟩ | ⟨e18, hm0⟩
   · obtain rfl := Option.some.inj hm0
     simp only [e2, e4, e6, e16, e18, xmb, ↓EVd, isCall, sevalprocAttr]
     all_goals first | done | rfl
   rcases iteE hm0 with ⟨e20, hm0⟩ | ⟨e20, hm0⟩
   · obtain rfl := Option.some.inj hm0
     simp only [e2, e4, e6, e16, e18, e20, xmb, ↓EVd, isCall, sevalprocAttr]
     all_goals first | done | rfl
   obtain rfl := Option.some.inj hm0
   simp only [e2, e4, e6, e16, e18, e20, xmb, ↓EVd, isCall, sevalprocAttr]
   all_goals first | done | rfl
 rcases iteE hm0 with ⟨e22, hm0⟩ | ⟨e22, hm0⟩
 · rcases iteE hm0 with ⟨e24, hm0⟩ | ⟨e24, hm0⟩
   · obtain rfl := Option.some.inj hm0
     simp only [e2, e22, e24, xmb, ↓EVd, isCall, sevalprocAttr]
     all_goals first | done | rfl
   rcases iteE hm0 with ⟨e26, hm0⟩ | ⟨e26, hm0⟩
   · obtain rfl := Option.some.inj hm0
     simp only [e2, e22, e24, e26, xmb, ↓EVd, isCall, sevalprocAttr]
     all_goals first | done | rfl
   rcases iteE hm0 with ⟨e28, hm0⟩ | ⟨e28, hm0⟩
   · obtain rfl := Option.some.inj hm0
     simp only [e2, e22, e24, e26, e28, xmb, ↓EVd, isCall, sevalprocAttr]
     all_goals first | done | rfl
   rcases iteE hm0 with ⟨e30, hm0⟩ | ⟨e30, hm0⟩
   · obtain rfl := Option.some.inj hm0
     simp only [e2, e22, e24, e26, e28, e30, xmb, ↓EVd, isCall, sevalprocAttr]
     all_goals first | done | rfl
   obtain rfl := Option.some.inj hm0
   simp only [e2, e22, e24, e26, e28, e30, xmb, ↓EVd, isCall, sevalprocAttr]
   all_goals first | done | rfl
 rcases iteE hm0 with ⟨e32, hm0⟩ | ⟨e32, hm0⟩
 · obtain rfl := Option.some.inj hm0
   simp only [e2, e22, e32, xmb, ↓EVd, isCall, sevalprocAttr]
   all_goals first | done | rfl
 rcases iteE hm0 with ⟨e34, hm0⟩ | ⟨e34, hm0⟩
 · obtain rfl := Option.some.inj hm0
   simp only [e2, e22, e32, e34, xmb, ↓EVd, isCall, sevalprocAttr]
   all_goals first | done | rfl
 rcases iteE hm0 with ⟨e36, hm0⟩ | ⟨e36, hm0⟩
 · obtain rfl := Option.some.inj hm0
   simp only [e2, e22, e32, e34, e36, xmb, ↓EVd, isCall, sevalprocAttr]
   all_goals first | done | rfl
 obtain rfl := Option.some.inj hm0
 simp only [e2, e22, e32, e34, e36, xmb, ↓EVd, isCall, sevalprocAttr]
 all_goals first | done | rfl
def x7d (a0 : Int) : Option (Bool) := (xak a0).bind fun v1 => some (!v1)
def xqr := @EV
set_option maxHeartbeats 2000000 in
theorem x9x (a0 : Int) (r : Bool) (hm0 : x7d a0 = some r) : Ok Tryz.prog 86 [ik .i32 a0] (bool r) := by
 unfold x7d at hm0
 refine okG xvy ?_
 unfold x4q
 obtain ⟨v1, h2, hm0⟩ := bsE hm0
 simp only [xqr, ↓EVd, isCall, sevalprocAttr]
 refine qc (xl0 _ _ h2) rfl ?_
 obtain rfl := Option.some.inj hm0
 simp only [xqr, ↓EVd, isCall, sevalprocAttr]
 all_goals first | done | rfl
def xig (a0 : ByteArray) : Option (Bool) := if (a0.size : Int) = 0 then some false
 else if 12 < (a0.size : Int) then some false
 else if a0 = (ByteArray.mk #[46]) then some false
 else if a0 = (ByteArray.mk #[46, 46]) then some false
 else (idxFM (fun z => x7d z) a0).bind fun v9 => if v9 < 0 then some true
 else some false
def xdf := aI (@EV) (aI (@R3) (@R9))
set_option maxHeartbeats 2000000 in
theorem x1s (a0 : ByteArray) (r : Bool) (hm0 : xig a0 = some r) : Ok Tryz.prog 54 [str a0] (bool r) := by
 unfold xig at hm0
 refine okG xt2 ?_
 unfold x3u
 rcases iteE hm0 with ⟨e2, hm0⟩ | ⟨e2, hm0⟩
 · obtain rfl := Option.some.inj hm0
   simp only [e2, xdf, ↓EVd, isCall, sevalprocAttr]
   all_goals first | done | rfl
 rcases iteE hm0 with ⟨e4, hm0⟩ | ⟨e4, hm0⟩
 · obtain rfl := Option.some.inj hm0
   simp only [e2, e4, xdf, ↓EVd, isCall, sevalprocAttr]
   all_goals first | done | rfl
 rcases iteE hm0 with ⟨e6, hm0⟩ | ⟨e6, hm0⟩
 · obtain rfl := Option.some.inj hm0
   simp only [e2, e4, e6, xdf, ↓EVd, isCall, sevalprocAttr]
   all_goals first | done | rfl
 rcases iteE hm0 with ⟨e8, hm0⟩ | ⟨e8, hm0⟩
 · obtain rfl := Option.some.inj hm0
   simp only [e2, e4, e6, e8, xdf, ↓EVd, isCall, sevalprocAttr]
   all_goals first | done | rfl
 obtain ⟨v9, h10, hm0⟩ := bsE hm0
 simp only [e2, e4, e6, e8, xdf, ↓EVd, isCall, sevalprocAttr]
 refine qc (x3r (fun z => x7d z) _ _ h10 (by kernel_rfl) (fun z b hz => x9x z b hz)) rfl ?_
 rcases iteE hm0 with ⟨e12, hm0⟩ | ⟨e12, hm0⟩
 · obtain rfl := Option.some.inj hm0
   simp only [e2, e4, e6, e8, e12, xdf, ↓EVd, isCall, sevalprocAttr]
   all_goals first | done | rfl
 obtain rfl := Option.some.inj hm0
 simp only [e2, e4, e6, e8, e12, xdf, ↓EVd, isCall, sevalprocAttr]
 all_goals first | done | rfl
def xhf (a0 : ByteArray) : (List ByteArray × Int) → Option (St (List ByteArray × Int) (List ByteArray))
 | (v3, v4) => if v4 < (a0.size : Int) then (ixB a0 v4).bind fun v10 => if (v10.toNat : Int) = 47 then (ap 16 v3 ([xl] : List ByteArray)).bind fun _ => some (.nx ((v3 ++ ([xl] : List ByteArray)), (wr (v4 + 1))))
 else (ix v3 (wr ((v3.length : Int) - 1))).bind fun v19 => (strM a0 (some v4) (some (wr (v4 + 1)))).bind fun v22 => (ck (v19.size + v22.size ≤ 9223372036854775807)).bind fun _ => some (.nx ((v3.set ((wr ((v3.length : Int) - 1))).toNat (v19 ++ v22)), (wr (v4 + 1))))
 else some (.out v3)
def xbh (a0 : ByteArray) : Option (List ByteArray) := (iter (xhf a0) big (([xl] : List ByteArray), 1)).bind fun o => (match o with
 | v7 => some v7)
def xzc := aI (aI (@EV) (aI (@R3) (@R5))) (aI (@R9) (aI (@R31) (@mixed)))
set_option maxHeartbeats 2000000 in
theorem x4z (a0 : ByteArray) (r : List ByteArray) (hm0 : xbh a0 = some r) : Ok Tryz.prog 55 [str a0] (.sl 1 (r.map str)) := by
 unfold xbh at hm0
 refine okG xc1 ?_
 unfold x3s
 obtain ⟨o0, ho0, hm0⟩ := bsE hm0
 simp only [xzc, ↓EVd, isCall, sevalprocAttr]
 refine cwp_cx 0 (fun s => ∃ v7 : List ByteArray, ∃ l6 : Nat, (s.T 3 = .msl l6 v7.length ∧ s.H l6 = some (.row 9 1 (v7.map str)) ∧ Lq l6 s.nx) ∧ v7 = o0) ?_ fun J0_0 hJ0_0 => ?_
 · rintro T0 H0 x5 ⟨v7, l6, kk0_0, rfl⟩
   dsimp only [Lq, Nq] at kk0_0
   try dsimp only at hm0
   obtain rfl := Option.some.inj hm0
   simp only [kk0_0, xzc, ↓EVd, isCall, sevalprocAttr]
   all_goals first | done | rfl | exact frzR_e (by simp only [kk0_0, FZ, CLO, xzc, ↓EVd, isCall, sevalprocAttr])
 refine cwp_lp ho0 (fun (v3, v4) s => ∃ l2 : Nat, s.T 0 = str a0 ∧ s.T 3 = .msl l2 v3.length ∧ s.T 4 = int v4 ∧ s.H l2 = some (.row 9 1 (v3.map str)) ∧ Lq l2 s.nx) ?_ ?_
 · refine TI.here ⟨1, ?_, ?_, ?_, ?_, ?_⟩
   all_goals try simp only [xzc, ↓EVd, isCall, sevalprocAttr]
   all_goals first | omega | exact lq (by omega) | exact nq (by omega) | rfl | (congr 1; omega)
 rintro I0 ⟨v3, v4⟩ T0 H0 x1 st0 ⟨l2, kk0⟩ hm1 hI0 hO0
 dsimp only [Lq, Nq] at kk0
 simp only [xhf] at hm1
 rcases iteE hm1 with ⟨e9, hm1⟩ | ⟨e9, hm1⟩
 · obtain ⟨v10, e12, hm1⟩ := ixBE hm1
   rcases iteE hm1 with ⟨e14, hm1⟩ | ⟨e14, hm1⟩
   · obtain ⟨e17, hm1⟩ := apE hm1
     try simp only [ZL] at e17
     obtain rfl := Option.some.inj hm1
     simp only [kk0, e9, e12, e14, e17, xzc, ↓EVd, isCall, sevalprocAttr]
     refine TI.here (hI0 _ rfl _ ⟨(x1 + 10), ?_, ?_, ?_, ?_, ?_⟩)
     all_goals try simp only [kk0, e9, e12, e14, e17, xzc, ↓EVd, isCall, sevalprocAttr]
     all_goals first | omega | exact lq (by omega) | exact nq (by omega) | rfl | (congr 1; omega)
   obtain ⟨v19, e21, hm1⟩ := ixE str hm1
   obtain ⟨v22, h23, hm1⟩ := bsE hm1
   have e24 := show xbc Tryz.prog 9 (str a0) (some (int v4)) (some (int (wr (v4 + 1)))) none = some (str v22) from x4cb (by kernel_rfl) h23
   obtain ⟨e26, hm1⟩ := ckE hm1
   obtain rfl := Option.some.inj hm1
   simp only [kk0, e9, e12, e14, e21, e24, e26, xzc, ↓EVd, isCall, sevalprocAttr]
   refine TI.here (hI0 _ rfl _ ⟨l2, ?_, ?_, ?_, ?_, ?_⟩)
   all_goals try simp only [kk0, e9, e12, e14, e21, e24, e26, xzc, ↓EVd, isCall, sevalprocAttr]
   all_goals first | omega | exact lq (by omega) | exact nq (by omega) | rfl | (congr 1; omega)
 obtain rfl := Option.some.inj hm1
 simp only [kk0, e9, xzc, ↓EVd, isCall, sevalprocAttr]
 refine TI.here (hJ0_0 _ ⟨v3, l2, ⟨?_, ?_, ?_⟩, hO0 _ rfl⟩)
 all_goals try simp only [kk0, e9, xzc, ↓EVd, isCall, sevalprocAttr]
 all_goals first | omega | exact lq (by omega) | exact nq (by omega) | rfl | (congr 1; omega)
def x2g (v10 : List ByteArray) : Int → Option (St (Int) ((Unit) ⊕ (List ByteArray × Bool)))
 | v13 => if v13 < (v10.length : Int) then (ix v10 v13).bind fun v17 => (xoc v17).bind fun v20 => if (!v20) = true then some (.out (.inr ([], false)))
 else some (.nx (wr (v13 + 1)))
 else some (.out (.inl ()))
def xrf (a0 : ByteArray) : Option (List ByteArray × Bool) := if a0 = (ByteArray.mk #[47]) then some ([], true)
 else if (a0.size : Int) = 0 then some ([], false)
 else (ixB a0 0).bind fun v5 => if (v5.toNat : Int) = 47 then (xbh a0).bind fun v10 => (iter (x2g v10) big 0).bind fun o => (match o with
 | (.inl _) => some (v10, true)
 | (.inr r) => some r)
 else some ([], false)
def x9b := aI (aI (@EV) (@R3)) (aI (@R5) (aI (@R9) (@R31)))
set_option maxHeartbeats 2000000 in
theorem xxq (a0 : ByteArray) (r : List ByteArray × Bool) (hm0 : xrf a0 = some r) : Ok Tryz.prog 24 [str a0] (.tup [.sl 1 (r.1.map str), bool r.2]) := by
 unfold xrf at hm0
 refine okG xuz ?_
 unfold xjs
 rcases iteE hm0 with ⟨e2, hm0⟩ | ⟨e2, hm0⟩
 · obtain rfl := Option.some.inj hm0
   simp only [e2, x9b, ↓EVd, isCall, sevalprocAttr]
   all_goals first | done | rfl | exact xb (by simp only [CLO]) | exact xe (by simp only [CLO]) (Sub.tup (Subs.cons (Sub.nilS _) (Subs.cons (Sub.refl _) (Subs.nil))))
 rcases iteE hm0 with ⟨e4, hm0⟩ | ⟨e4, hm0⟩
 · obtain rfl := Option.some.inj hm0
   simp only [e2, e4, x9b, ↓EVd, isCall, sevalprocAttr]
   all_goals first | done | rfl | exact xb (by simp only [CLO]) | exact xe (by simp only [CLO]) (Sub.tup (Subs.cons (Sub.nilS _) (Subs.cons (Sub.refl _) (Subs.nil))))
 obtain ⟨v5, e7, hm0⟩ := ixBE hm0
 try simp only [sevalprocAttr, eq_self, true_and] at e7
 rcases iteE hm0 with ⟨e9, hm0⟩ | ⟨e9, hm0⟩
 · obtain ⟨v10, h11, hm0⟩ := bsE hm0
   simp only [e2, e4, e7, e9, x9b, ↓EVd, isCall, sevalprocAttr]
   refine qc (x4z _ _ h11) rfl ?_
   obtain ⟨o0, ho0, hm0⟩ := bsE hm0
   simp only [e2, e4, e7, e9, x9b, ↓EVd, isCall, sevalprocAttr]
   refine cwp_cx 0 (fun s => (s.T 4 = .sl 1 (v10.map str)) ∧ (.inl ()) = o0) ?_ fun J0_0 hJ0_0 => ?_
   · rintro T0 H0 x14 ⟨kk0_0, rfl⟩
     dsimp only [Lq, Nq] at kk0_0
     try dsimp only at hm0
     obtain rfl := Option.some.inj hm0
     simp only [kk0_0, e2, e4, e7, e9, x9b, ↓EVd, isCall, sevalprocAttr]
     all_goals first | done | rfl | exact xb (by simp only [CLO]) | exact xe (by simp only [CLO]) (Sub.tup (Subs.cons (Sub.refl _) (Subs.cons (Sub.refl _) (Subs.nil))))
   refine cwp_lp ho0 (fun v13 s => s.T 4 = .sl 1 (v10.map str) ∧ s.T 5 = int v13) ?_ ?_
   · refine TI.here ⟨?_, ?_⟩
     all_goals try simp only [e2, e4, e7, e9, x9b, ↓EVd, isCall, sevalprocAttr]
     all_goals first | omega | exact lq (by omega) | exact nq (by omega) | rfl | (congr 1; omega)
   rintro I0 v13 T0 H0 x12 st0 kk0 hm1 hI0 hO0
   dsimp only [Lq, Nq] at kk0
   simp only [x2g] at hm1
   rcases iteE hm1 with ⟨e16, hm1⟩ | ⟨e16, hm1⟩
   · obtain ⟨v17, e19, hm1⟩ := ixE str hm1
     obtain ⟨v20, h21, hm1⟩ := bsE hm1
     simp only [kk0, e2, e4, e7, e9, e16, e19, x9b, ↓EVd, isCall, sevalprocAttr]
     refine qc (x6i _ _ h21) rfl ?_
     rcases itbE hm1 with ⟨e23, hm1⟩ | ⟨e23, hm1⟩
     · obtain rfl := Option.some.inj hm1
       obtain rfl := hO0 _ rfl
       try dsimp only at hm0
       obtain rfl := Option.some.inj hm0
       simp only [kk0, e2, e4, e7, e9, e16, e19, e23, x9b, ↓EVd, isCall, sevalprocAttr]
       all_goals first | done | rfl | exact xb (by simp only [CLO]) | exact xe (by simp only [CLO]) (Sub.tup (Subs.cons (Sub.nilS _) (Subs.cons (Sub.refl _) (Subs.nil))))
     obtain rfl := Option.some.inj hm1
     simp only [kk0, e2, e4, e7, e9, e16, e19, e23, x9b, ↓EVd, isCall, sevalprocAttr]
     refine TI.here (hI0 _ rfl _ ⟨?_, ?_⟩)
     all_goals try simp only [kk0, e2, e4, e7, e9, e16, e19, e23, x9b, ↓EVd, isCall, sevalprocAttr]
     all_goals first | omega | exact lq (by omega) | exact nq (by omega) | rfl | (congr 1; omega)
   obtain rfl := Option.some.inj hm1
   simp only [kk0, e2, e4, e7, e9, e16, x9b, ↓EVd, isCall, sevalprocAttr]
   refine TI.here (hJ0_0 _ ⟨?_, hO0 _ rfl⟩)
   all_goals try simp only [kk0, e2, e4, e7, e9, e16, x9b, ↓EVd, isCall, sevalprocAttr]
   all_goals first | omega | exact lq (by omega) | exact nq (by omega) | rfl | (congr 1; omega)
 obtain rfl := Option.some.inj hm0
 simp only [e2, e4, e7, e9, x9b, ↓EVd, isCall, sevalprocAttr]
 all_goals first | done | rfl | exact xb (by simp only [CLO]) | exact xe (by simp only [CLO]) (Sub.tup (Subs.cons (Sub.nilS _) (Subs.cons (Sub.refl _) (Subs.nil))))
def xdd (a0 : ByteArray) : Option (List ByteArray × Bool × Bool) := if 24 < (a0.size : Int) then some ([], false, false)
 else if 0 < (a0.size : Int) then (ixB a0 0).bind fun v5 => if (v5.toNat : Int) = 47 then (xrf a0).bind fun v10 => some (v10.1, v10.2, v10.2)
 else (xoc a0).bind fun v12 => if v12 = true then some (([a0] : List ByteArray), false, true)
 else some ([], false, false)
 else (xoc a0).bind fun v16 => if v16 = true then some (([a0] : List ByteArray), false, true)
 else some ([], false, false)
def x5b := aI (aI (@EV) (@R3)) (aI (@R5) (aI (@R9) (@R31)))
set_option maxHeartbeats 2000000 in
theorem xjw (a0 : ByteArray) (r : List ByteArray × Bool × Bool) (hm0 : xdd a0 = some r) : Ok Tryz.prog 101 [str a0] (.tup [.sl 1 (r.1.map str), bool r.2.1, bool r.2.2]) := by
 unfold xdd at hm0
 refine okG xiw ?_
 unfold x6p
 rcases iteE hm0 with ⟨e2, hm0⟩ | ⟨e2, hm0⟩
 · obtain rfl := Option.some.inj hm0
   simp only [e2, x5b, ↓EVd, isCall, sevalprocAttr]
   all_goals first | done | rfl | exact xb (by simp only [CLO]) | exact xe (by simp only [CLO]) (Sub.tup (Subs.cons (Sub.nilS _) (Subs.cons (Sub.refl _) (Subs.cons (Sub.refl _) (Subs.nil)))))
 rcases iteE hm0 with ⟨e4, hm0⟩ | ⟨e4, hm0⟩
 · obtain ⟨v5, e7, hm0⟩ := ixBE hm0
   try simp only [sevalprocAttr, eq_self, true_and] at e7
   rcases iteE hm0 with ⟨e9, hm0⟩ | ⟨e9, hm0⟩
   · obtain ⟨v10, h11, hm0⟩ := bsE hm0
     simp only [e2, e4, e7, e9, x5b, ↓EVd, isCall, sevalprocAttr]
     refine qc (xxq _ _ h11) rfl ?_
     obtain rfl := Option.some.inj hm0
     simp only [e2, e4, e7, e9, x5b, ↓EVd, isCall, sevalprocAttr]
     all_goals first | done | rfl | exact xb (by simp only [CLO]) | exact xe (by simp only [CLO]) (Sub.tup (Subs.cons (Sub.refl _) (Subs.cons (Sub.refl _) (Subs.cons (Sub.refl _) (Subs.nil)))))
   obtain ⟨v12, h13, hm0⟩ := bsE hm0
   simp only [e2, e4, e7, e9, x5b, ↓EVd, isCall, sevalprocAttr]
   refine qc (x6i _ _ h13) rfl ?_
   rcases itbE hm0 with ⟨e15, hm0⟩ | ⟨e15, hm0⟩
   · obtain rfl := Option.some.inj hm0
     simp only [e2, e4, e7, e9, e15, x5b, ↓EVd, isCall, sevalprocAttr]
     all_goals first | done | rfl | exact xuf 9 (by simp only [e2, e4, e7, e9, e15, FZ, CLO, x5b, ↓EVd, isCall, sevalprocAttr]) (Sub.tup (Subs.cons (Sub.refl _) (Subs.cons (Sub.refl _) (Subs.cons (Sub.refl _) (Subs.nil)))))
   obtain rfl := Option.some.inj hm0
   simp only [e2, e4, e7, e9, e15, x5b, ↓EVd, isCall, sevalprocAttr]
   all_goals first | done | rfl | exact xb (by simp only [CLO]) | exact xe (by simp only [CLO]) (Sub.tup (Subs.cons (Sub.nilS _) (Subs.cons (Sub.refl _) (Subs.cons (Sub.refl _) (Subs.nil)))))
 obtain ⟨v16, h17, hm0⟩ := bsE hm0
 simp only [e2, e4, x5b, ↓EVd, isCall, sevalprocAttr]
 refine qc (x6i _ _ h17) rfl ?_
 rcases itbE hm0 with ⟨e19, hm0⟩ | ⟨e19, hm0⟩
 · obtain rfl := Option.some.inj hm0
   simp only [e2, e4, e19, x5b, ↓EVd, isCall, sevalprocAttr]
   all_goals first | done | rfl | exact xuf 9 (by simp only [e2, e4, e19, FZ, CLO, x5b, ↓EVd, isCall, sevalprocAttr]) (Sub.tup (Subs.cons (Sub.refl _) (Subs.cons (Sub.refl _) (Subs.cons (Sub.refl _) (Subs.nil)))))
 obtain rfl := Option.some.inj hm0
 simp only [e2, e4, e19, x5b, ↓EVd, isCall, sevalprocAttr]
 all_goals first | done | rfl | exact xb (by simp only [CLO]) | exact xe (by simp only [CLO]) (Sub.tup (Subs.cons (Sub.nilS _) (Subs.cons (Sub.refl _) (Subs.cons (Sub.refl _) (Subs.nil)))))
def xxh (a0 : List ByteArray) : Option (ByteArray) := (xsg a0 (ByteArray.mk #[47])).bind fun v1 => (ck ((ByteArray.mk #[47]).size + v1.size ≤ 9223372036854775807)).bind fun _ => some ((ByteArray.mk #[47]) ++ v1)
def x2w := aI (@EV) (aI (@R9) (@R31))
set_option maxHeartbeats 2000000 in
theorem xzu (a0 : List ByteArray) (r : ByteArray) (hm0 : xxh a0 = some r) : Ok Tryz.prog 18 [.sl 1 (a0.map str)] (str r) := by
 unfold xxh at hm0
 refine okG xk4 ?_
 unfold xvw
 obtain ⟨v1, h2, hm0⟩ := bsE hm0
 simp only [x2w, ↓EVd, isCall, sevalprocAttr]
 refine qc (xfy _ _ _ h2) rfl ?_
 obtain ⟨e4, hm0⟩ := ckE hm0
 obtain rfl := Option.some.inj hm0
 simp only [e4, x2w, ↓EVd, isCall, sevalprocAttr]
 all_goals first | done | rfl
def xmi (a0 : ByteArray) : Option (List ByteArray × Bool) := (xnf a0 (ByteArray.mk #[47])).bind fun v1 => if (!v1.2) = true then some ([], false)
 else (x1h v1.1 (ByteArray.mk #[47])).bind fun v5 => some (v5, true)
def xdl := aI (@EV) (@R9)
set_option maxHeartbeats 2000000 in
theorem x22 (a0 : ByteArray) (r : List ByteArray × Bool) (hm0 : xmi a0 = some r) : Ok Tryz.prog 51 [str a0] (.tup [.sl 1 (r.1.map str), bool r.2]) := by
 unfold xmi at hm0
 refine okG xa3 ?_
 unfold xvu
 obtain ⟨v1, h2, hm0⟩ := bsE hm0
 simp only [xdl, ↓EVd, isCall, sevalprocAttr]
 refine qc (xbs _ _ _ h2) rfl ?_
 rcases itbE hm0 with ⟨e4, hm0⟩ | ⟨e4, hm0⟩
 · obtain rfl := Option.some.inj hm0
   simp only [e4, xdl, ↓EVd, isCall, sevalprocAttr]
   all_goals first | done | rfl | exact xb (by simp only [CLO]) | exact xe (by simp only [CLO]) (Sub.tup (Subs.cons (Sub.nilS _) (Subs.cons (Sub.refl _) (Subs.nil))))
 obtain ⟨v5, h6, hm0⟩ := bsE hm0
 simp only [e4, xdl, ↓EVd, isCall, sevalprocAttr]
 refine qc (xmx _ _ _ h6) rfl ?_
 obtain rfl := Option.some.inj hm0
 simp only [e4, xdl, ↓EVd, isCall, sevalprocAttr]
 all_goals first | done | rfl | exact xb (by simp only [CLO]) | exact xe (by simp only [CLO]) (Sub.tup (Subs.cons (Sub.refl _) (Subs.cons (Sub.refl _) (Subs.nil))))
def xng (a0 : ByteArray) : Option (Bool) := (xig a0).bind fun v1 => some (!v1)
def xnr := aI (@EV) (@R9)
set_option maxHeartbeats 2000000 in
theorem xhz (a0 : ByteArray) (r : Bool) (hm0 : xng a0 = some r) : Ok Tryz.prog 53 [str a0] (bool r) := by
 unfold xng at hm0
 refine okG xzy ?_
 unfold xrr
 obtain ⟨v1, h2, hm0⟩ := bsE hm0
 simp only [xnr, ↓EVd, isCall, sevalprocAttr]
 refine qc (x1s _ _ h2) rfl ?_
 obtain rfl := Option.some.inj hm0
 simp only [xnr, ↓EVd, isCall, sevalprocAttr]
 all_goals first | done | rfl
def xhg (a0 : ByteArray) : Option (List ByteArray × Bool) := (xmi a0).bind fun v1 => if a0 = (ByteArray.mk #[47]) then some ([], true)
 else if (!v1.2) = true then some ([], false)
 else (xzg (fun z => xng z ) v1.1).bind fun v7 => if v7 = true then some ([], false)
 else some (v1.1, true)
def xgf := aI (@EV) (aI (@R9) (@R31))
set_option maxHeartbeats 2000000 in
theorem xvs (a0 : ByteArray) (r : List ByteArray × Bool) (hm0 : xhg a0 = some r) : Ok Tryz.prog 23 [str a0] (.tup [.sl 1 (r.1.map str), bool r.2]) := by
 unfold xhg at hm0
 refine okG xb3 ?_
 unfold xsv
 obtain ⟨v1, h2, hm0⟩ := bsE hm0
 simp only [xgf, ↓EVd, isCall, sevalprocAttr]
 refine qc (x22 _ _ h2) rfl ?_
 rcases iteE hm0 with ⟨e4, hm0⟩ | ⟨e4, hm0⟩
 · obtain rfl := Option.some.inj hm0
   simp only [e4, xgf, ↓EVd, isCall, sevalprocAttr]
   all_goals first | done | rfl | exact xb (by simp only [CLO]) | exact xe (by simp only [CLO]) (Sub.tup (Subs.cons (Sub.nilS _) (Subs.cons (Sub.refl _) (Subs.nil))))
 rcases itbE hm0 with ⟨e6, hm0⟩ | ⟨e6, hm0⟩
 · obtain rfl := Option.some.inj hm0
   simp only [e4, e6, xgf, ↓EVd, isCall, sevalprocAttr]
   all_goals first | done | rfl | exact xb (by simp only [CLO]) | exact xe (by simp only [CLO]) (Sub.tup (Subs.cons (Sub.nilS _) (Subs.cons (Sub.refl _) (Subs.nil))))
 obtain ⟨v7, h8, hm0⟩ := bsE hm0
 simp only [e4, e6, xgf, ↓EVd, isCall, sevalprocAttr]
 refine qc (xll x7h xjc xsc aggN_9 (fi := []) (ca := []) str v1.1 (fun z => xng z ) _ h8 (fun z b hz => xhz z  b hz) (fun z => by simp only [CLO]) rfl (by simp only [CLO]) (fun z => by simp only [xgf, ↓EVd, isCall, sevalprocAttr])) rfl ?_
 rcases itbE hm0 with ⟨e10, hm0⟩ | ⟨e10, hm0⟩
 · obtain rfl := Option.some.inj hm0
   simp only [e4, e6, e10, xgf, ↓EVd, isCall, sevalprocAttr]
   all_goals first | done | rfl | exact xb (by simp only [CLO]) | exact xe (by simp only [CLO]) (Sub.tup (Subs.cons (Sub.nilS _) (Subs.cons (Sub.refl _) (Subs.nil))))
 obtain rfl := Option.some.inj hm0
 simp only [e4, e6, e10, xgf, ↓EVd, isCall, sevalprocAttr]
 all_goals first | done | rfl | exact xb (by simp only [CLO]) | exact xe (by simp only [CLO]) (Sub.tup (Subs.cons (Sub.refl _) (Subs.cons (Sub.refl _) (Subs.nil))))
def xld (a0 : ByteArray) : Option (List ByteArray × Bool × Bool) := if 24 < (a0.size : Int) then some ([], false, false)
 else (xmf a0 (ByteArray.mk #[47])).bind fun v3 => if v3 = true then (xhg a0).bind fun v7 => some (v7.1, v7.2, v7.2)
 else (xig a0).bind fun v9 => if v9 = true then some (([a0] : List ByteArray), false, true)
 else some ([], false, false)
def x7c := aI (aI (@EV) (@R3)) (aI (@R9) (@R31))
set_option maxHeartbeats 2000000 in
theorem xxx (a0 : ByteArray) (r : List ByteArray × Bool × Bool) (hm0 : xld a0 = some r) : Ok Tryz.prog 94 [str a0] (.tup [.sl 1 (r.1.map str), bool r.2.1, bool r.2.2]) := by
 unfold xld at hm0
 refine okG xnx ?_
 unfold xkq
 rcases iteE hm0 with ⟨e2, hm0⟩ | ⟨e2, hm0⟩
 · obtain rfl := Option.some.inj hm0
   simp only [e2, x7c, ↓EVd, isCall, sevalprocAttr]
   all_goals first | done | rfl | exact xb (by simp only [CLO]) | exact xe (by simp only [CLO]) (Sub.tup (Subs.cons (Sub.nilS _) (Subs.cons (Sub.refl _) (Subs.cons (Sub.refl _) (Subs.nil)))))
 obtain ⟨v3, h4, hm0⟩ := bsE hm0
 simp only [e2, x7c, ↓EVd, isCall, sevalprocAttr]
 refine qc (xvr _ _ _ h4) rfl ?_
 rcases itbE hm0 with ⟨e6, hm0⟩ | ⟨e6, hm0⟩
 · obtain ⟨v7, h8, hm0⟩ := bsE hm0
   simp only [e2, e6, x7c, ↓EVd, isCall, sevalprocAttr]
   refine qc (xvs _ _ h8) rfl ?_
   obtain rfl := Option.some.inj hm0
   simp only [e2, e6, x7c, ↓EVd, isCall, sevalprocAttr]
   all_goals first | done | rfl | exact xb (by simp only [CLO]) | exact xe (by simp only [CLO]) (Sub.tup (Subs.cons (Sub.refl _) (Subs.cons (Sub.refl _) (Subs.cons (Sub.refl _) (Subs.nil)))))
 obtain ⟨v9, h10, hm0⟩ := bsE hm0
 simp only [e2, e6, x7c, ↓EVd, isCall, sevalprocAttr]
 refine qc (x1s _ _ h10) rfl ?_
 rcases itbE hm0 with ⟨e12, hm0⟩ | ⟨e12, hm0⟩
 · obtain rfl := Option.some.inj hm0
   simp only [e2, e6, e12, x7c, ↓EVd, isCall, sevalprocAttr]
   all_goals first | done | rfl | exact xuf 9 (by simp only [e2, e6, e12, FZ, CLO, x7c, ↓EVd, isCall, sevalprocAttr]) (Sub.tup (Subs.cons (Sub.refl _) (Subs.cons (Sub.refl _) (Subs.cons (Sub.refl _) (Subs.nil)))))
 obtain rfl := Option.some.inj hm0
 simp only [e2, e6, e12, x7c, ↓EVd, isCall, sevalprocAttr]
 all_goals first | done | rfl | exact xb (by simp only [CLO]) | exact xe (by simp only [CLO]) (Sub.tup (Subs.cons (Sub.nilS _) (Subs.cons (Sub.refl _) (Subs.cons (Sub.refl _) (Subs.nil)))))
end Go.Proofs.YtfefidkblgendaaGreatDoor.AL

