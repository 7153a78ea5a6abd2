/- A law of the given program is proved: part 39 of 51. -/
import Derived.Test.YtapdjibjnfeipaaGreatDoorD38
set_option linter.all false
/- Models of functions, and that the functions are as their models: written by gen.py. -/
set_option linter.all false
set_option maxRecDepth 100000
namespace Go.Proofs.YtapdjibjnfeipaaGreatDoor.AL
open Go Go.Proofs
def x2f (a0 : Entry) : Option (Bool) := (xnf a0.name).bind fun v1 => some (!v1)
def xgs := aI (aI (@EV) (@R9)) (aI (@R55) (@DEntry))
set_option maxHeartbeats 2000000 in
theorem x7y (a0 : Entry) (r : Bool) (hm0 : x2f a0 = some r) : Ok Tryz.prog 97 [xr a0] (bool r) := by
 unfold x2f at hm0
 refine okG xry ?_
 unfold xps
 obtain ⟨v1, h2, hm0⟩ := bsE hm0
 simp only [xgs, ↓EVd, isCall, sevalprocAttr]
 refine qc (x5u _ _ h2) rfl ?_
 obtain rfl := Option.some.inj hm0
 simp only [xgs, ↓EVd, isCall, sevalprocAttr]
 all_goals first | done | rfl
def x6f (a0 : Node) : Int → Option (St (Int) ((Unit) ⊕ (Bool)))
 | v2 => if v2 < (a0.entries.length : Int) then (ix a0.entries v2).bind fun v6 => if v6.slot < 0 then some (.out (.inr false))
 else if 16 ≤ v6.slot then some (.out (.inr false))
 else if 0 < v2 then (ix a0.entries (wr (v2 - 1))).bind fun v15 => if v6.slot ≤ v15.slot then some (.out (.inr false))
 else some (.nx (wr (v2 + 1)))
 else some (.nx (wr (v2 + 1)))
 else some (.out (.inl ()))
def x4e (a0 : Node) : Option (Bool) := (iter (x6f a0) big 0).bind fun o => (match o with
 | (.inl _) => if 0 ≤ a0.kind then if a0.kind ≤ 4 then if (-9007199254740992) ≤ a0.nlink then if a0.nlink ≤ 9007199254740992 then if 0 ≤ a0.attr.has then if a0.attr.has ≤ 31 then if (a0.data.length : Int) ≤ 300 then if (a0.entries.length : Int) ≤ 16 then if (a0.attr.redirect.size : Int) ≤ 40 then (xoe (fun z => x2f z ) a0.entries).bind fun v38 => some (!v38)
 else some false
 else some false
 else some false
 else some false
 else some false
 else some false
 else some false
 else some false
 else some false
 | (.inr r) => some r)
def xz := aI (aI (aI (@EV) (aI (@R3) (@R9))) (aI (@R55) (aI (@R61) (@R62)))) (aI (aI (@R66) (aI (@R68) (@DEntry))) (aI (@DAttr) (aI (@DNode) (@mixed))))
set_option maxHeartbeats 2000000 in
theorem xmw (a0 : Node) (r : Bool) (hm0 : x4e a0 = some r) : Ok Tryz.prog 74 [xh a0] (bool r) := by
 unfold x4e at hm0
 refine okG xsw ?_
 unfold xkq
 obtain ⟨o0, ho0, hm0⟩ := bsE hm0
 simp only [xz, ↓EVd, isCall, sevalprocAttr]
 refine cwp_cx 0 (fun s => (s.T 1 = .loc 0 13 0 0 ∧ s.H 0 = some (.row 68 13 [xh a0]) ∧ Lq 0 s.nx) ∧ (.inl ()) = o0) ?_ fun J0_0 hJ0_0 => ?_
 · rintro T0 H0 x3 ⟨kk0_0, rfl⟩
   dsimp only [Lq, Nq] at kk0_0
   try dsimp only at hm0
   rcases iteE hm0 with ⟨e21, hm0⟩ | ⟨e21, hm0⟩
   · rcases iteE hm0 with ⟨e23, hm0⟩ | ⟨e23, hm0⟩
     · rcases iteE hm0 with ⟨e25, hm0⟩ | ⟨e25, hm0⟩
       · rcases iteE hm0 with ⟨e27, hm0⟩ | ⟨e27, hm0⟩
         · rcases iteE hm0 with ⟨e29, hm0⟩ | ⟨e29, hm0⟩
           · rcases iteE hm0 with ⟨e31, hm0⟩ | ⟨e31, hm0⟩
             · rcases iteE hm0 with ⟨e33, hm0⟩ | ⟨e33, hm0⟩
               · rcases iteE hm0 with ⟨e35, hm0⟩ | ⟨e35, hm0⟩
                 · have g40 := And.intro (And.intro (And.intro ((e21)) ((e23))) (And.intro ((e25)) ((e27)))) (And.intro (And.intro ((e29)) ((e31))) (And.intro ((e33)) ((e35))))
                   rcases iteE hm0 with ⟨e37, hm0⟩ | ⟨e37, hm0⟩
                   · obtain ⟨v38, h39, hm0⟩ := bsE hm0
                     simp only [kk0_0, g40, e37, xz, ↓EVd, isCall, sevalprocAttr]
                     refine qc (xpg x3c x6b xre x3f (fi := []) (ca := []) xr a0.entries (fun z => x2f z ) _ h39 (fun z b hz => x7y z  b hz) (fun z => by simp only [CLO]) rfl (by simp only [CLO]) (fun z => by simp only [xz, ↓EVd, isCall, sevalprocAttr])) rfl ?_
                     obtain rfl := Option.some.inj hm0
                     simp only [kk0_0, g40, e37, xz, ↓EVd, isCall, sevalprocAttr]
                     all_goals first | done | rfl
                   obtain rfl := Option.some.inj hm0
                   simp only [kk0_0, g40, e37, xz, ↓EVd, isCall, sevalprocAttr]
                   all_goals first | done | rfl
                 obtain rfl := Option.some.inj hm0
                 simp only [kk0_0, e21, e23, e25, e27, e29, e31, e33, e35, xz, ↓EVd, isCall, sevalprocAttr]
                 all_goals first | done | rfl
               obtain rfl := Option.some.inj hm0
               simp only [kk0_0, e21, e23, e25, e27, e29, e31, e33, xz, ↓EVd, isCall, sevalprocAttr]
               all_goals first | done | rfl
             obtain rfl := Option.some.inj hm0
             simp only [kk0_0, e21, e23, e25, e27, e29, e31, xz, ↓EVd, isCall, sevalprocAttr]
             all_goals first | done | rfl
           obtain rfl := Option.some.inj hm0
           simp only [kk0_0, e21, e23, e25, e27, e29, xz, ↓EVd, isCall, sevalprocAttr]
           all_goals first | done | rfl
         obtain rfl := Option.some.inj hm0
         simp only [kk0_0, e21, e23, e25, e27, xz, ↓EVd, isCall, sevalprocAttr]
         all_goals first | done | rfl
       obtain rfl := Option.some.inj hm0
       simp only [kk0_0, e21, e23, e25, xz, ↓EVd, isCall, sevalprocAttr]
       all_goals first | done | rfl
     obtain rfl := Option.some.inj hm0
     simp only [kk0_0, e21, e23, xz, ↓EVd, isCall, sevalprocAttr]
     all_goals first | done | rfl
   obtain rfl := Option.some.inj hm0
   simp only [kk0_0, e21, xz, ↓EVd, isCall, sevalprocAttr]
   all_goals first | done | rfl
 refine cwp_lp ho0 (fun v2 s => s.T 1 = .loc 0 13 0 0 ∧ s.T 6 = .sl 3 (a0.entries.map xr) ∧ s.T 7 = int (a0.entries.length : Int) ∧ s.T 8 = int v2 ∧ s.H 0 = some (.row 68 13 [xh a0]) ∧ Lq 0 s.nx) ?_ ?_
 · refine TI.here ⟨?_, ?_, ?_, ?_, ?_, ?_⟩
   all_goals try simp only [xz, ↓EVd, isCall, sevalprocAttr]
   all_goals first | omega | exact lq (by omega) | exact nq (by omega) | rfl | (congr 1; omega)
 rintro I0 v2 T0 H0 x1 st0 kk0 hm1 hI0 hO0
 dsimp only [Lq, Nq] at kk0
 simp only [x6f] at hm1
 rcases iteE hm1 with ⟨e5, hm1⟩ | ⟨e5, hm1⟩
 · obtain ⟨v6, e8, hm1⟩ := ixE xr hm1
   rcases iteE hm1 with ⟨e10, hm1⟩ | ⟨e10, hm1⟩
   · obtain rfl := Option.some.inj hm1
     obtain rfl := hO0 _ rfl
     try dsimp only at hm0
     obtain rfl := Option.some.inj hm0
     simp only [kk0, e5, e8, e10, xz, ↓EVd, isCall, sevalprocAttr]
     all_goals first | done | rfl
   rcases iteE hm1 with ⟨e12, hm1⟩ | ⟨e12, hm1⟩
   · obtain rfl := Option.some.inj hm1
     obtain rfl := hO0 _ rfl
     try dsimp only at hm0
     obtain rfl := Option.some.inj hm0
     simp only [kk0, e5, e8, e10, e12, xz, ↓EVd, isCall, sevalprocAttr]
     all_goals first | done | rfl
   rcases iteE hm1 with ⟨e14, hm1⟩ | ⟨e14, hm1⟩
   · obtain ⟨v15, e17, hm1⟩ := ixE xr hm1
     rcases iteE hm1 with ⟨e19, hm1⟩ | ⟨e19, hm1⟩
     · obtain rfl := Option.some.inj hm1
       obtain rfl := hO0 _ rfl
       try dsimp only at hm0
       obtain rfl := Option.some.inj hm0
       simp only [kk0, e5, e8, e10, e12, e14, e17, e19, xz, ↓EVd, isCall, sevalprocAttr]
       all_goals first | done | rfl
     obtain rfl := Option.some.inj hm1
     simp only [kk0, e5, e8, e10, e12, e14, e17, e19, xz, ↓EVd, isCall, sevalprocAttr]
     refine TI.here (hI0 _ rfl _ ⟨?_, ?_, ?_, ?_, ?_, ?_⟩)
     all_goals try simp only [kk0, e5, e8, e10, e12, e14, e17, e19, xz, ↓EVd, isCall, sevalprocAttr]
     all_goals first | omega | exact lq (by omega) | exact nq (by omega) | rfl | (congr 1; omega)
   obtain rfl := Option.some.inj hm1
   simp only [kk0, e5, e8, e10, e12, e14, xz, ↓EVd, isCall, sevalprocAttr]
   refine TI.here (hI0 _ rfl _ ⟨?_, ?_, ?_, ?_, ?_, ?_⟩)
   all_goals try simp only [kk0, e5, e8, e10, e12, e14, xz, ↓EVd, isCall, sevalprocAttr]
   all_goals first | omega | exact lq (by omega) | exact nq (by omega) | rfl | (congr 1; omega)
 obtain rfl := Option.some.inj hm1
 simp only [kk0, e5, xz, ↓EVd, isCall, sevalprocAttr]
 refine TI.here (hJ0_0 _ ⟨⟨?_, ?_, ?_⟩, hO0 _ rfl⟩)
 all_goals try simp only [kk0, e5, xz, ↓EVd, isCall, sevalprocAttr]
 all_goals first | omega | exact lq (by omega) | exact nq (by omega) | rfl | (congr 1; omega)
def xxc (a0 : Node) : Option (Bool) := (x4e a0).bind fun v1 => some (!v1)
def xvm := aI (aI (@EV) (@R68)) (aI (@DEntry) (aI (@DAttr) (@DNode)))
set_option maxHeartbeats 2000000 in
theorem x9r (a0 : Node) (r : Bool) (hm0 : xxc a0 = some r) : Ok Tryz.prog 73 [xh a0] (bool r) := by
 unfold xxc at hm0
 refine okG xas ?_
 unfold x6m
 obtain ⟨v1, h2, hm0⟩ := bsE hm0
 simp only [xvm, ↓EVd, isCall, sevalprocAttr]
 refine qc (xmw _ _ h2) rfl ?_
 obtain rfl := Option.some.inj hm0
 simp only [xvm, ↓EVd, isCall, sevalprocAttr]
 all_goals first | done | rfl
def x7d (a0 : Branch) (a1 : Int) : Option (Bool) := if (a0.nodes.length : Int) ≤ a1 then (xoe (fun z => xxc z ) a0.nodes).bind fun v3 => some (!v3)
 else some false
def xsg := aI (aI (aI (@EV) (@R3)) (aI (@R24) (@R26))) (aI (aI (@R68) (@DBranch)) (aI (@DEntry) (aI (@DAttr) (@DNode))))
set_option maxHeartbeats 2000000 in
theorem xin (a0 : Branch) (a1 : Int) (r : Bool) (hm0 : x7d a0 a1 = some r) : Ok Tryz.prog 42 [xk a0, int a1] (bool r) := by
 unfold x7d at hm0
 refine okG x5t ?_
 unfold xso
 rcases iteE hm0 with ⟨e2, hm0⟩ | ⟨e2, hm0⟩
 · obtain ⟨v3, h4, hm0⟩ := bsE hm0
   simp only [e2, xsg, ↓EVd, isCall, sevalprocAttr]
   refine qc (xpg xkf x8f x2d x0e (fi := []) (ca := []) xh a0.nodes (fun z => xxc z ) _ h4 (fun z b hz => x9r z  b hz) (fun z => by simp only [CLO]) rfl (by simp only [CLO]) (fun z => by simp only [xsg, ↓EVd, isCall, sevalprocAttr])) rfl ?_
   obtain rfl := Option.some.inj hm0
   simp only [e2, xsg, ↓EVd, isCall, sevalprocAttr]
   all_goals first | done | rfl
 obtain rfl := Option.some.inj hm0
 simp only [e2, xsg, ↓EVd, isCall, sevalprocAttr]
 all_goals first | done | rfl
def xcd (a0 : Branch) (a1 : Int) : Option (Bool) := (x7d a0 a1).bind fun v1 => some (!v1)
def xjn := aI (aI (@EV) (aI (@R3) (@R26))) (aI (aI (@DBranch) (@DEntry)) (aI (@DAttr) (@DNode)))
set_option maxHeartbeats 2000000 in
theorem x3s (a0 : Branch) (a1 : Int) (r : Bool) (hm0 : xcd a0 a1 = some r) : Ok Tryz.prog 44 [xk a0, .ptr (int a1) 0] (bool r) := by
 unfold xcd at hm0
 refine okG xit ?_
 unfold xfn
 obtain ⟨v1, h2, hm0⟩ := bsE hm0
 simp only [xjn, ↓EVd, isCall, sevalprocAttr]
 refine qc (xin _ _ _ h2) rfl ?_
 obtain rfl := Option.some.inj hm0
 simp only [xjn, ↓EVd, isCall, sevalprocAttr]
 all_goals first | done | rfl
def xqf (a0 : Stack) (a1 : Int) : Option (Bool) := if (a0.lowers.length : Int) ≤ 3 then (x7d a0.upper a1).bind fun v3 => if v3 = true then (xoe (fun z => xcd z a1) a0.lowers).bind fun v7 => some (!v7)
 else some false
 else some false
def x0d := aI (aI (aI (@EV) (@R3)) (aI (@R26) (aI (@R27) (@R29)))) (aI (aI (@DBranch) (@DStack)) (aI (@DEntry) (aI (@DAttr) (@DNode))))
set_option maxHeartbeats 2000000 in
theorem xjv (a0 : Stack) (a1 : Int) (r : Bool) (hm0 : xqf a0 a1 = some r) : Ok Tryz.prog 8 [xi a0, int a1] (bool r) := by
 unfold xqf at hm0
 refine okG xwu ?_
 unfold xsp
 rcases iteE hm0 with ⟨e2, hm0⟩ | ⟨e2, hm0⟩
 · obtain ⟨v3, h4, hm0⟩ := bsE hm0
   simp only [e2, x0d, ↓EVd, isCall, sevalprocAttr]
   refine qc (xin _ _ _ h4) rfl ?_
   rcases itbE hm0 with ⟨e6, hm0⟩ | ⟨e6, hm0⟩
   · obtain ⟨v7, h8, hm0⟩ := bsE hm0
     simp only [e2, e6, x0d, ↓EVd, isCall, sevalprocAttr]
     refine qcb (xpg xue xcf xbp x3h (fi := []) (ca := [.ptr (int a1) 0]) xk a0.lowers (fun z => xcd z a1) _ h8 (fun z b hz => x3s z a1 b hz) (fun z => by simp only [CLO]) rfl (by simp only [CLO]) (fun z => by simp only [x0d, ↓EVd, isCall, sevalprocAttr])) rfl (by simp only [e2, e6, FZ, CLO, x0d, ↓EVd, isCall, sevalprocAttr]) ?_
     obtain rfl := Option.some.inj hm0
     simp only [e2, e6, x0d, ↓EVd, isCall, sevalprocAttr]
     all_goals first | done | rfl
   obtain rfl := Option.some.inj hm0
   simp only [e2, e6, x0d, ↓EVd, isCall, sevalprocAttr]
   all_goals first | done | rfl
 obtain rfl := Option.some.inj hm0
 simp only [e2, x0d, ↓EVd, isCall, sevalprocAttr]
 all_goals first | done | rfl
end Go.Proofs.YtapdjibjnfeipaaGreatDoor.AL

