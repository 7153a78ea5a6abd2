/- A law of the given program is proved: part 37 of 51. -/
import Derived.Test.YtapdjibjnfeipaaGreatDoorD36
set_option linter.all false
/- Models of functions, and that the functions are as their models: written by gen.py. -/
set_option linter.all false
set_option maxRecDepth 100000
namespace Go.Proofs.YtapdjibjnfeipaaGreatDoor.AL
open Go Go.Proofs
def xjd (a0 : Int) : Option (Bool) := if 97 ≤ a0 then if a0 ≤ 122 then some true
 else if 48 ≤ a0 then if a0 ≤ 57 then some true
 else if a0 = 46 then some true
 else if a0 = 95 then some true
 else if a0 = 45 then some true
 else some false
 else if a0 = 46 then some true
 else if a0 = 95 then some true
 else if a0 = 45 then some true
 else some false
 else if 48 ≤ a0 then if a0 ≤ 57 then some true
 else if a0 = 46 then some true
 else if a0 = 95 then some true
 else if a0 = 45 then some true
 else some false
 else if a0 = 46 then some true
 else if a0 = 95 then some true
 else if a0 = 45 then some true
 else some false
def xab := @EV
set_option maxHeartbeats 2000000 in
theorem x2t (a0 : Int) (r : Bool) (hm0 : xjd a0 = some r) : Ok Tryz.prog 105 [ik .u8 a0] (bool r) := by
 unfold xjd at hm0
 refine okG xau ?_
 unfold x0n
 rcases iteE hm0 with ⟨e2, hm0⟩ | ⟨e2, hm0⟩
 · rcases iteE hm0 with ⟨e4, hm0⟩ | ⟨e4, hm0⟩
   · obtain rfl := Option.some.inj hm0
     simp only [e2, e4, xab, ↓EVd, isCall, sevalprocAttr]
     all_goals first | done | rfl
   rcases iteE hm0 with ⟨e6, hm0⟩ | ⟨e6, hm0⟩
   · rcases iteE hm0 with ⟨e8, hm0⟩ | ⟨e8, hm0⟩
     · obtain rfl := Option.some.inj hm0
       simp only [e2, e4, e6, e8, xab, ↓EVd, isCall, sevalprocAttr]
       all_goals first | done | rfl
     rcases iteE hm0 with ⟨e10, hm0⟩ | ⟨e10, hm0⟩
     · obtain rfl := Option.some.inj hm0
       simp only [e2, e4, e6, e8, e10, xab, ↓EVd, isCall, sevalprocAttr]
       all_goals first | done | rfl
     rcases iteE hm0 with ⟨e12, hm0⟩ | ⟨e12, hm0⟩
     · obtain rfl := Option.some.inj hm0
       simp only [e2, e4, e6, e8, e10, e12, xab, ↓EVd, isCall, sevalprocAttr]
       all_goals first | done | rfl
     rcases iteE hm0 with ⟨e14, hm0⟩ | ⟨e14, hm0⟩
     · obtain rfl := Option.some.inj hm0
       simp only [e2, e4, e6, e8, e10, e12, e14, xab, ↓EVd, isCall, sevalprocAttr]
       all_goals first | done | rfl
     obtain rfl := Option.some.inj hm0
     simp only [e2, e4, e6, e8, e10, e12, e14, xab, ↓EVd, isCall, sevalprocAttr]
     all_goals first | done | rfl
   rcases iteE hm0 with ⟨e16, hm0⟩ | ⟨e16, hm0⟩
   · obtain rfl := Option.some.inj hm0
     simp only [e2, e4, e6, e16, xab, ↓EVd, isCall, sevalprocAttr]
     all_goals first | done | rfl
   rcases iteE hm0 with ⟨e18, hm0⟩ | ⟨e18, hm0⟩
   · obtain rfl := Option.some.inj hm0
     simp only [e2, e4, e6, e16, e18, xab, ↓EVd, isCall, sevalprocAttr]
     all_goals first | done | rfl
   rcases iteE hm0 with ⟨e20, hm0⟩ | ⟨e20, hm0⟩
   · obtain rfl := Option.some.inj hm0
     simp only [e2, e4, e6, e16, e18, e20, xab, ↓EVd, isCall, sevalprocAttr]
     all_goals first | done | rfl
   obtain rfl := Option.some.inj hm0
   simp only [e2, e4, e6, e16, e18, e20, xab, ↓EVd, isCall, sevalprocAttr]
   all_goals first | done | rfl
 rcases iteE hm0 with ⟨e22, hm0⟩ | ⟨e22, hm0⟩
 · rcases iteE hm0 with ⟨e24, hm0⟩ | ⟨e24, hm0⟩
   · obtain rfl := Option.some.inj hm0
     simp only [e2, e22, e24, xab, ↓EVd, isCall, sevalprocAttr]
     all_goals first | done | rfl
   rcases iteE hm0 with ⟨e26, hm0⟩ | ⟨e26, hm0⟩
   · obtain rfl := Option.some.inj hm0
     simp only [e2, e22, e24, e26, xab, ↓EVd, isCall, sevalprocAttr]
     all_goals first | done | rfl
   rcases iteE hm0 with ⟨e28, hm0⟩ | ⟨e28, hm0⟩
   · obtain rfl := Option.some.inj hm0
     simp only [e2, e22, e24, e26, e28, xab, ↓EVd, isCall, sevalprocAttr]
     all_goals first | done | rfl
   rcases iteE hm0 with ⟨e30, hm0⟩ | ⟨e30, hm0⟩
   · obtain rfl := Option.some.inj hm0
     simp only [e2, e22, e24, e26, e28, e30, xab, ↓EVd, isCall, sevalprocAttr]
     all_goals first | done | rfl
   obtain rfl := Option.some.inj hm0
   simp only [e2, e22, e24, e26, e28, e30, xab, ↓EVd, isCall, sevalprocAttr]
   all_goals first | done | rfl
 rcases iteE hm0 with ⟨e32, hm0⟩ | ⟨e32, hm0⟩
 · obtain rfl := Option.some.inj hm0
   simp only [e2, e22, e32, xab, ↓EVd, isCall, sevalprocAttr]
   all_goals first | done | rfl
 rcases iteE hm0 with ⟨e34, hm0⟩ | ⟨e34, hm0⟩
 · obtain rfl := Option.some.inj hm0
   simp only [e2, e22, e32, e34, xab, ↓EVd, isCall, sevalprocAttr]
   all_goals first | done | rfl
 rcases iteE hm0 with ⟨e36, hm0⟩ | ⟨e36, hm0⟩
 · obtain rfl := Option.some.inj hm0
   simp only [e2, e22, e32, e34, e36, xab, ↓EVd, isCall, sevalprocAttr]
   all_goals first | done | rfl
 obtain rfl := Option.some.inj hm0
 simp only [e2, e22, e32, e34, e36, xab, ↓EVd, isCall, sevalprocAttr]
 all_goals first | done | rfl
def xmf (a0 : ByteArray) : Int → Option (St (Int) ((Unit) ⊕ (Bool)))
 | v10 => if v10 < (a0.size : Int) then (ixB a0 v10).bind fun v14 => (xjd (v14.toNat : Int)).bind fun v17 => if (!v17) = true then some (.out (.inr false))
 else some (.nx (wr (v10 + 1)))
 else some (.out (.inl ()))
def xnf (a0 : ByteArray) : Option (Bool) := if (a0.size : Int) < 1 then some false
 else if 12 < (a0.size : Int) then some false
 else if a0 = (ByteArray.mk #[46]) then some false
 else if a0 = (ByteArray.mk #[46, 46]) then some false
 else (iter (xmf a0) big 0).bind fun o => (match o with
 | (.inl _) => some true
 | (.inr r) => some r)
def x0b := aI (@EV) (aI (@R3) (@R9))
set_option maxHeartbeats 2000000 in
theorem x5u (a0 : ByteArray) (r : Bool) (hm0 : xnf a0 = some r) : Ok Tryz.prog 89 [str a0] (bool r) := by
 unfold xnf at hm0
 refine okG x1u ?_
 unfold xnp
 rcases iteE hm0 with ⟨e2, hm0⟩ | ⟨e2, hm0⟩
 · obtain rfl := Option.some.inj hm0
   simp only [e2, x0b, ↓EVd, isCall, sevalprocAttr]
   all_goals first | done | rfl
 rcases iteE hm0 with ⟨e4, hm0⟩ | ⟨e4, hm0⟩
 · obtain rfl := Option.some.inj hm0
   simp only [e2, e4, x0b, ↓EVd, isCall, sevalprocAttr]
   all_goals first | done | rfl
 rcases iteE hm0 with ⟨e6, hm0⟩ | ⟨e6, hm0⟩
 · obtain rfl := Option.some.inj hm0
   simp only [e2, e4, e6, x0b, ↓EVd, isCall, sevalprocAttr]
   all_goals first | done | rfl
 rcases iteE hm0 with ⟨e8, hm0⟩ | ⟨e8, hm0⟩
 · obtain rfl := Option.some.inj hm0
   simp only [e2, e4, e6, e8, x0b, ↓EVd, isCall, sevalprocAttr]
   all_goals first | done | rfl
 obtain ⟨o0, ho0, hm0⟩ := bsE hm0
 simp only [e2, e4, e6, e8, x0b, ↓EVd, isCall, sevalprocAttr]
 refine cwp_cx 0 (fun s => (.inl ()) = o0) ?_ fun J0_0 hJ0_0 => ?_
 · rintro T0 H0 x11 rfl
   try dsimp only at hm0
   obtain rfl := Option.some.inj hm0
   simp only [e2, e4, e6, e8, x0b, ↓EVd, isCall, sevalprocAttr]
   all_goals first | done | rfl
 refine cwp_lp ho0 (fun v10 s => s.T 0 = str a0 ∧ s.T 3 = int v10) ?_ ?_
 · refine TI.here ⟨?_, ?_⟩
   all_goals try simp only [e2, e4, e6, e8, x0b, ↓EVd, isCall, sevalprocAttr]
   all_goals first | omega | exact lq (by omega) | exact nq (by omega) | rfl | (congr 1; omega)
 rintro I0 v10 T0 H0 x9 st0 kk0 hm1 hI0 hO0
 dsimp only [Lq, Nq] at kk0
 simp only [xmf] at hm1
 rcases iteE hm1 with ⟨e13, hm1⟩ | ⟨e13, hm1⟩
 · obtain ⟨v14, e16, hm1⟩ := ixBE hm1
   obtain ⟨v17, h18, hm1⟩ := bsE hm1
   simp only [kk0, e2, e4, e6, e8, e13, e16, x0b, ↓EVd, isCall, sevalprocAttr]
   refine qc (x2t _ _ h18) rfl ?_
   rcases itbE hm1 with ⟨e20, hm1⟩ | ⟨e20, hm1⟩
   · obtain rfl := Option.some.inj hm1
     obtain rfl := hO0 _ rfl
     try dsimp only at hm0
     obtain rfl := Option.some.inj hm0
     simp only [kk0, e2, e4, e6, e8, e13, e16, e20, x0b, ↓EVd, isCall, sevalprocAttr]
     all_goals first | done | rfl
   obtain rfl := Option.some.inj hm1
   simp only [kk0, e2, e4, e6, e8, e13, e16, e20, x0b, ↓EVd, isCall, sevalprocAttr]
   refine TI.here (hI0 _ rfl _ ⟨?_, ?_⟩)
   all_goals try simp only [kk0, e2, e4, e6, e8, e13, e16, e20, x0b, ↓EVd, isCall, sevalprocAttr]
   all_goals first | omega | exact lq (by omega) | exact nq (by omega) | rfl | (congr 1; omega)
 obtain rfl := Option.some.inj hm1
 simp only [kk0, e2, e4, e6, e8, e13, x0b, ↓EVd, isCall, sevalprocAttr]
 refine TI.here (hJ0_0 _ (hO0 _ rfl))
def xwh (a0 : Int) : Option (Bool) := if 97 ≤ a0 then if a0 ≤ 122 then some true
 else if 48 ≤ a0 then if a0 ≤ 57 then some true
 else if a0 = 46 then some true
 else if a0 = 95 then some true
 else if a0 = 45 then some true
 else some false
 else if a0 = 46 then some true
 else if a0 = 95 then some true
 else if a0 = 45 then some true
 else some false
 else if 48 ≤ a0 then if a0 ≤ 57 then some true
 else if a0 = 46 then some true
 else if a0 = 95 then some true
 else if a0 = 45 then some true
 else some false
 else if a0 = 46 then some true
 else if a0 = 95 then some true
 else if a0 = 45 then some true
 else some false
def xcb := @EV
set_option maxHeartbeats 2000000 in
theorem xou (a0 : Int) (r : Bool) (hm0 : xwh a0 = some r) : Ok Tryz.prog 124 [ik .i32 a0] (bool r) := by
 unfold xwh at hm0
 refine okG xbv ?_
 unfold xtp
 rcases iteE hm0 with ⟨e2, hm0⟩ | ⟨e2, hm0⟩
 · rcases iteE hm0 with ⟨e4, hm0⟩ | ⟨e4, hm0⟩
   · obtain rfl := Option.some.inj hm0
     simp only [e2, e4, xcb, ↓EVd, isCall, sevalprocAttr]
     all_goals first | done | rfl
   rcases iteE hm0 with ⟨e6, hm0⟩ | ⟨e6, hm0⟩
   · rcases iteE hm0 with ⟨e8, hm0⟩ | ⟨e8, hm0⟩
     · obtain rfl := Option.some.inj hm0
       simp only [e2, e4, e6, e8, xcb, ↓EVd, isCall, sevalprocAttr]
       all_goals first | done | rfl
     rcases iteE hm0 with ⟨e10, hm0⟩ | ⟨e10, hm0⟩
     · obtain rfl := Option.some.inj hm0
       simp only [e2, e4, e6, e8, e10, xcb, ↓EVd, isCall, sevalprocAttr]
       all_goals first | done | rfl
     rcases iteE hm0 with ⟨e12, hm0⟩ | ⟨e12, hm0⟩
     · obtain rfl := Option.some.inj hm0
       simp only [e2, e4, e6, e8, e10, e12, xcb, ↓EVd, isCall, sevalprocAttr]
       all_goals first | done | rfl
     rcases iteE hm0 with ⟨e14, hm0⟩ | ⟨e14, hm0⟩
     · obtain rfl := Option.some.inj hm0
       simp only [e2, e4, e6, e8, e10, e12, e14, xcb, ↓EVd, isCall, sevalprocAttr]
       all_goals first | done | rfl
     obtain rfl := Option.some.inj hm0
     simp only [e2, e4, e6, e8, e10, e12, e14, xcb, ↓EVd, isCall, sevalprocAttr]
     all_goals first | done | rfl
   rcases iteE hm0 with ⟨e16, hm0⟩ | ⟨e16, hm0⟩
   · obtain rfl := Option.some.inj hm0
     simp only [e2, e4, e6, e16, xcb, ↓EVd, isCall, sevalprocAttr]
     all_goals first | done | rfl
   rcases iteE hm0 with ⟨e18, hm0⟩ | ⟨e18, hm0⟩
   · obtain rfl := Option.some.inj hm0
     simp only [e2, e4, e6, e16, e18, xcb, ↓EVd, isCall, sevalprocAttr]
     all_goals first | done | rfl
   rcases iteE hm0 with ⟨e20, hm0⟩ | ⟨e20, hm0⟩
   · obtain rfl := Option.some.inj hm0
     simp only [e2, e4, e6, e16, e18, e20, xcb, ↓EVd, isCall, sevalprocAttr]
     all_goals first | done | rfl
   obtain rfl := Option.some.inj hm0
   simp only [e2, e4, e6, e16, e18, e20, xcb, ↓EVd, isCall, sevalprocAttr]
   all_goals first | done | rfl
 rcases iteE hm0 with ⟨e22, hm0⟩ | ⟨e22, hm0⟩
 · rcases iteE hm0 with ⟨e24, hm0⟩ | ⟨e24, hm0⟩
   · obtain rfl := Option.some.inj hm0
     simp only [e2, e22, e24, xcb, ↓EVd, isCall, sevalprocAttr]
     all_goals first | done | rfl
   rcases iteE hm0 with ⟨e26, hm0⟩ | ⟨e26, hm0⟩
   · obtain rfl := Option.some.inj hm0
     simp only [e2, e22, e24, e26, xcb, ↓EVd, isCall, sevalprocAttr]
     all_goals first | done | rfl
   rcases iteE hm0 with ⟨e28, hm0⟩ | ⟨e28, hm0⟩
   · obtain rfl := Option.some.inj hm0
     simp only [e2, e22, e24, e26, e28, xcb, ↓EVd, isCall, sevalprocAttr]
     all_goals first | done | rfl
   rcases iteE hm0 with ⟨e30, hm0⟩ | ⟨e30, hm0⟩
   · obtain rfl := Option.some.inj hm0
     simp only [e2, e22, e24, e26, e28, e30, xcb, ↓EVd, isCall, sevalprocAttr]
     all_goals first | done | rfl
   obtain rfl := Option.some.inj hm0
   simp only [e2, e22, e24, e26, e28, e30, xcb, ↓EVd, isCall, sevalprocAttr]
   all_goals first | done | rfl
 rcases iteE hm0 with ⟨e32, hm0⟩ | ⟨e32, hm0⟩
 · obtain rfl := Option.some.inj hm0
   simp only [e2, e22, e32, xcb, ↓EVd, isCall, sevalprocAttr]
   all_goals first | done | rfl
 rcases iteE hm0 with ⟨e34, hm0⟩ | ⟨e34, hm0⟩
 · obtain rfl := Option.some.inj hm0
   simp only [e2, e22, e32, e34, xcb, ↓EVd, isCall, sevalprocAttr]
   all_goals first | done | rfl
 rcases iteE hm0 with ⟨e36, hm0⟩ | ⟨e36, hm0⟩
 · obtain rfl := Option.some.inj hm0
   simp only [e2, e22, e32, e34, e36, xcb, ↓EVd, isCall, sevalprocAttr]
   all_goals first | done | rfl
 obtain rfl := Option.some.inj hm0
 simp only [e2, e22, e32, e34, e36, xcb, ↓EVd, isCall, sevalprocAttr]
 all_goals first | done | rfl
def xid (a0 : Int) : Option (Bool) := (xwh a0).bind fun v1 => some (!v1)
def xxo := @EV
set_option maxHeartbeats 2000000 in
theorem xeu (a0 : Int) (r : Bool) (hm0 : xid a0 = some r) : Ok Tryz.prog 123 [ik .i32 a0] (bool r) := by
 unfold xid at hm0
 refine okG x7t ?_
 unfold xho
 obtain ⟨v1, h2, hm0⟩ := bsE hm0
 simp only [xxo, ↓EVd, isCall, sevalprocAttr]
 refine qc (xou _ _ h2) rfl ?_
 obtain rfl := Option.some.inj hm0
 simp only [xxo, ↓EVd, isCall, sevalprocAttr]
 all_goals first | done | rfl
def x1e (a0 : ByteArray) : Option (Bool) := if (a0.size : Int) = 0 then some false
 else if 12 < (a0.size : Int) then some false
 else if a0 = (ByteArray.mk #[46]) then some false
 else if a0 = (ByteArray.mk #[46, 46]) then some false
 else (idxFM (fun z => xid z) a0).bind fun v9 => if v9 < 0 then some true
 else some false
def xde := aI (@EV) (aI (@R3) (@R9))
set_option maxHeartbeats 2000000 in
theorem xvp (a0 : ByteArray) (r : Bool) (hm0 : x1e a0 = some r) : Ok Tryz.prog 102 [str a0] (bool r) := by
 unfold x1e at hm0
 refine okG xuw ?_
 unfold xgq
 rcases iteE hm0 with ⟨e2, hm0⟩ | ⟨e2, hm0⟩
 · obtain rfl := Option.some.inj hm0
   simp only [e2, xde, ↓EVd, isCall, sevalprocAttr]
   all_goals first | done | rfl
 rcases iteE hm0 with ⟨e4, hm0⟩ | ⟨e4, hm0⟩
 · obtain rfl := Option.some.inj hm0
   simp only [e2, e4, xde, ↓EVd, isCall, sevalprocAttr]
   all_goals first | done | rfl
 rcases iteE hm0 with ⟨e6, hm0⟩ | ⟨e6, hm0⟩
 · obtain rfl := Option.some.inj hm0
   simp only [e2, e4, e6, xde, ↓EVd, isCall, sevalprocAttr]
   all_goals first | done | rfl
 rcases iteE hm0 with ⟨e8, hm0⟩ | ⟨e8, hm0⟩
 · obtain rfl := Option.some.inj hm0
   simp only [e2, e4, e6, e8, xde, ↓EVd, isCall, sevalprocAttr]
   all_goals first | done | rfl
 obtain ⟨v9, h10, hm0⟩ := bsE hm0
 simp only [e2, e4, e6, e8, xde, ↓EVd, isCall, sevalprocAttr]
 refine qc (xap (fun z => xid z) _ _ h10 (by kernel_rfl) (fun z b hz => xeu z b hz)) rfl ?_
 rcases iteE hm0 with ⟨e12, hm0⟩ | ⟨e12, hm0⟩
 · obtain rfl := Option.some.inj hm0
   simp only [e2, e4, e6, e8, e12, xde, ↓EVd, isCall, sevalprocAttr]
   all_goals first | done | rfl
 obtain rfl := Option.some.inj hm0
 simp only [e2, e4, e6, e8, e12, xde, ↓EVd, isCall, sevalprocAttr]
 all_goals first | done | rfl
def xog (a0 : ByteArray) : Option (List ByteArray × Bool) := (xfe a0 (ByteArray.mk #[47])).bind fun v1 => if (!v1.2) = true then some ([], false)
 else (x7f v1.1 (ByteArray.mk #[47])).bind fun v5 => some (v5, true)
def xjj := aI (@EV) (@R9)
set_option maxHeartbeats 2000000 in
theorem xhw (a0 : ByteArray) (r : List ByteArray × Bool) (hm0 : xog a0 = some r) : Ok Tryz.prog 119 [str a0] (.tup [.sl 1 (r.1.map str), bool r.2]) := by
 unfold xog at hm0
 refine okG x1w ?_
 unfold xcq
 obtain ⟨v1, h2, hm0⟩ := bsE hm0
 simp only [xjj, ↓EVd, isCall, sevalprocAttr]
 refine qc (xdp _ _ _ h2) rfl ?_
 rcases itbE hm0 with ⟨e4, hm0⟩ | ⟨e4, hm0⟩
 · obtain rfl := Option.some.inj hm0
   simp only [e4, xjj, ↓EVd, isCall, sevalprocAttr]
   all_goals first | done | rfl | exact xj (by simp only [CLO]) | exact xv (by simp only [CLO]) (Sub.tup (Subs.cons (Sub.nilS _) (Subs.cons (Sub.refl _) (Subs.nil))))
 obtain ⟨v5, h6, hm0⟩ := bsE hm0
 simp only [e4, xjj, ↓EVd, isCall, sevalprocAttr]
 refine qc (x6s _ _ _ h6) rfl ?_
 obtain rfl := Option.some.inj hm0
 simp only [e4, xjj, ↓EVd, isCall, sevalprocAttr]
 all_goals first | done | rfl | exact xj (by simp only [CLO]) | exact xv (by simp only [CLO]) (Sub.tup (Subs.cons (Sub.refl _) (Subs.cons (Sub.refl _) (Subs.nil))))
def x7e (a0 : ByteArray) : Option (Bool) := (x1e a0).bind fun v1 => some (!v1)
def xoo := aI (@EV) (@R9)
set_option maxHeartbeats 2000000 in
theorem xwt (a0 : ByteArray) (r : Bool) (hm0 : x7e a0 = some r) : Ok Tryz.prog 121 [str a0] (bool r) := by
 unfold x7e at hm0
 refine okG xqt ?_
 unfold xzo
 obtain ⟨v1, h2, hm0⟩ := bsE hm0
 simp only [xoo, ↓EVd, isCall, sevalprocAttr]
 refine qc (xvp _ _ h2) rfl ?_
 obtain rfl := Option.some.inj hm0
 simp only [xoo, ↓EVd, isCall, sevalprocAttr]
 all_goals first | done | rfl
def xmg (a0 : ByteArray) : Option (List ByteArray × Bool) := (xog a0).bind fun v1 => if a0 = (ByteArray.mk #[47]) then some ([], true)
 else if (!v1.2) = true then some ([], false)
 else (xoe (fun z => x7e z ) v1.1).bind fun v7 => if v7 = true then some ([], false)
 else some (v1.1, true)
def x9d := aI (@EV) (aI (@R9) (@R42))
set_option maxHeartbeats 2000000 in
theorem x0w (a0 : ByteArray) (r : List ByteArray × Bool) (hm0 : xmg a0 = some r) : Ok Tryz.prog 101 [str a0] (.tup [.sl 1 (r.1.map str), bool r.2]) := by
 unfold xmg at hm0
 refine okG xkw ?_
 unfold xrr
 obtain ⟨v1, h2, hm0⟩ := bsE hm0
 simp only [x9d, ↓EVd, isCall, sevalprocAttr]
 refine qc (xhw _ _ h2) rfl ?_
 rcases iteE hm0 with ⟨e4, hm0⟩ | ⟨e4, hm0⟩
 · obtain rfl := Option.some.inj hm0
   simp only [e4, x9d, ↓EVd, isCall, sevalprocAttr]
   all_goals first | done | rfl | exact xj (by simp only [CLO]) | exact xv (by simp only [CLO]) (Sub.tup (Subs.cons (Sub.nilS _) (Subs.cons (Sub.refl _) (Subs.nil))))
 rcases itbE hm0 with ⟨e6, hm0⟩ | ⟨e6, hm0⟩
 · obtain rfl := Option.some.inj hm0
   simp only [e4, e6, x9d, ↓EVd, isCall, sevalprocAttr]
   all_goals first | done | rfl | exact xj (by simp only [CLO]) | exact xv (by simp only [CLO]) (Sub.tup (Subs.cons (Sub.nilS _) (Subs.cons (Sub.refl _) (Subs.nil))))
 obtain ⟨v7, h8, hm0⟩ := bsE hm0
 simp only [e4, e6, x9d, ↓EVd, isCall, sevalprocAttr]
 refine qc (xpg xhg x2b x9c aggN_9 (fi := []) (ca := []) str v1.1 (fun z => x7e z ) _ h8 (fun z b hz => xwt z  b hz) (fun z => by simp only [CLO]) rfl (by simp only [CLO]) (fun z => by simp only [x9d, ↓EVd, isCall, sevalprocAttr])) rfl ?_
 rcases itbE hm0 with ⟨e10, hm0⟩ | ⟨e10, hm0⟩
 · obtain rfl := Option.some.inj hm0
   simp only [e4, e6, e10, x9d, ↓EVd, isCall, sevalprocAttr]
   all_goals first | done | rfl | exact xj (by simp only [CLO]) | exact xv (by simp only [CLO]) (Sub.tup (Subs.cons (Sub.nilS _) (Subs.cons (Sub.refl _) (Subs.nil))))
 obtain rfl := Option.some.inj hm0
 simp only [e4, e6, e10, x9d, ↓EVd, isCall, sevalprocAttr]
 all_goals first | done | rfl | exact xj (by simp only [CLO]) | exact xv (by simp only [CLO]) (Sub.tup (Subs.cons (Sub.refl _) (Subs.cons (Sub.refl _) (Subs.nil))))
def xad (a0 : ByteArray) : Option (List ByteArray × Bool × Bool) := if 24 < (a0.size : Int) then some ([], false, false)
 else (xge a0 (ByteArray.mk #[47])).bind fun v3 => if v3 = true then (xmg a0).bind fun v7 => some (v7.1, v7.2, v7.2)
 else (x1e a0).bind fun v9 => if v9 = true then some (([a0] : List ByteArray), false, true)
 else some ([], false, false)
def xtc := aI (aI (@EV) (@R3)) (aI (@R9) (@R42))
set_option maxHeartbeats 2000000 in
theorem x7s (a0 : ByteArray) (r : List ByteArray × Bool × Bool) (hm0 : xad a0 = some r) : Ok Tryz.prog 84 [str a0] (.tup [.sl 1 (r.1.map str), bool r.2.1, bool r.2.2]) := by
 unfold xad at hm0
 refine okG xgt ?_
 unfold xon
 rcases iteE hm0 with ⟨e2, hm0⟩ | ⟨e2, hm0⟩
 · obtain rfl := Option.some.inj hm0
   simp only [e2, xtc, ↓EVd, isCall, sevalprocAttr]
   all_goals first | done | rfl | exact xj (by simp only [CLO]) | exact xv (by simp only [CLO]) (Sub.tup (Subs.cons (Sub.nilS _) (Subs.cons (Sub.refl _) (Subs.cons (Sub.refl _) (Subs.nil)))))
 obtain ⟨v3, h4, hm0⟩ := bsE hm0
 simp only [e2, xtc, ↓EVd, isCall, sevalprocAttr]
 refine qc (x5o _ _ _ h4) rfl ?_
 rcases itbE hm0 with ⟨e6, hm0⟩ | ⟨e6, hm0⟩
 · obtain ⟨v7, h8, hm0⟩ := bsE hm0
   simp only [e2, e6, xtc, ↓EVd, isCall, sevalprocAttr]
   refine qc (x0w _ _ h8) rfl ?_
   obtain rfl := Option.some.inj hm0
   simp only [e2, e6, xtc, ↓EVd, isCall, sevalprocAttr]
   all_goals first | done | rfl | exact xj (by simp only [CLO]) | exact xv (by simp only [CLO]) (Sub.tup (Subs.cons (Sub.refl _) (Subs.cons (Sub.refl _) (Subs.cons (Sub.refl _) (Subs.nil)))))
 obtain ⟨v9, h10, hm0⟩ := bsE hm0
 simp only [e2, e6, xtc, ↓EVd, isCall, sevalprocAttr]
 refine qc (xvp _ _ h10) rfl ?_
 rcases itbE hm0 with ⟨e12, hm0⟩ | ⟨e12, hm0⟩
 · obtain rfl := Option.some.inj hm0
   simp only [e2, e6, e12, xtc, ↓EVd, isCall, sevalprocAttr]
   all_goals first | done | rfl | exact x3l 9 (by simp only [e2, e6, e12, FZ, CLO, xtc, ↓EVd, isCall, sevalprocAttr]) (Sub.tup (Subs.cons (Sub.refl _) (Subs.cons (Sub.refl _) (Subs.cons (Sub.refl _) (Subs.nil)))))
 obtain rfl := Option.some.inj hm0
 simp only [e2, e6, e12, xtc, ↓EVd, isCall, sevalprocAttr]
 all_goals first | done | rfl | exact xj (by simp only [CLO]) | exact xv (by simp only [CLO]) (Sub.tup (Subs.cons (Sub.nilS _) (Subs.cons (Sub.refl _) (Subs.cons (Sub.refl _) (Subs.nil)))))
end Go.Proofs.YtapdjibjnfeipaaGreatDoor.AL

