/- A law of the given program is proved: part 38 of 49. -/
import Derived.Test.YtmacnoajlofdbaaDoorA37
set_option linter.all false
/- Models of functions, and that the functions are as their models: written by gen.py. -/
set_option linter.all false
set_option maxRecDepth 100000
namespace Go.Proofs.YtmacnoajlofdbaaDoor.AL
open Go Go.Proofs
def x8g (a0 : Entry) : Option (Bool) := (x3g a0.name).bind fun v1 => some (!v1)
def xws := aI (aI (@EV) (@R9)) (aI (@R74) (@DEntry))
set_option maxHeartbeats 2000000 in
theorem xd1 (a0 : Entry) (r : Bool) (hm0 : x8g a0 = some r) : Ok Tryd.prog 48 [xp a0] (bool r) := by
 unfold x8g at hm0
 refine okG xl0 ?_
 unfold xms
 obtain ⟨v1, h2, hm0⟩ := bsE hm0
 simp only [xws, ↓EVd, isCall, sevalprocAttr]
 refine qc (x5v _ _ h2) rfl ?_
 obtain rfl := Option.some.inj hm0
 simp only [xws, ↓EVd, isCall, sevalprocAttr]
 all_goals first | done | rfl
def xhh (a0 : Node) : Int → Option (St (Int) ((Unit) ⊕ (Bool)))
 | v2 => if v2 < (a0.entries.length : Int) then (ix a0.entries v2).bind fun v6 => if v6.slot < 0 then some (.out (.inr false))
 else if 16 ≤ v6.slot then some (.out (.inr false))
 else if 0 < v2 then (ix a0.entries (wr (v2 - 1))).bind fun v15 => if v6.slot ≤ v15.slot then some (.out (.inr false))
 else some (.nx (wr (v2 + 1)))
 else some (.nx (wr (v2 + 1)))
 else some (.out (.inl ()))
def xig (a0 : Node) : Option (Bool) := (iter (xhh a0) big 0).bind fun o => (match o with
 | (.inl _) => if 0 ≤ a0.kind then if a0.kind ≤ 4 then if (-9007199254740992) ≤ a0.nlink then if a0.nlink ≤ 9007199254740992 then if 0 ≤ a0.attr.has then if a0.attr.has ≤ 31 then if (a0.data.length : Int) ≤ 300 then if (a0.entries.length : Int) ≤ 16 then if (a0.attr.redirect.size : Int) ≤ 40 then (xhe (fun z => x8g z ) a0.entries).bind fun v38 => some (!v38)
 else some false
 else some false
 else some false
 else some false
 else some false
 else some false
 else some false
 else some false
 else some false
 | (.inr r) => some r)
def xhb := aI (aI (aI (@EV) (aI (@R3) (@R9))) (aI (@R40) (aI (@R41) (@R45)))) (aI (aI (@R47) (aI (@R74) (@DOrigin))) (aI (aI (@DAttr) (@DNode)) (aI (@DEntry) (@mixed))))
set_option maxHeartbeats 2000000 in
theorem x6x (a0 : Node) (r : Bool) (hm0 : xig a0 = some r) : Ok Tryd.prog 34 [xe a0] (bool r) := by
 unfold xig at hm0
 refine okG xpy ?_
 unfold xdq
 obtain ⟨o0, ho0, hm0⟩ := bsE hm0
 simp only [xhb, ↓EVd, isCall, sevalprocAttr]
 refine cwp_cx 0 (fun s => (s.T 1 = .loc 0 13 0 0 ∧ s.H 0 = some (.row 47 13 [xe a0]) ∧ Lq 0 s.nx) ∧ (.inl ()) = o0) ?_ fun J0_0 hJ0_0 => ?_
 · rintro T0 H0 x3 ⟨kk0_0, rfl⟩
   dsimp only [Lq, Nq] at kk0_0
   try dsimp only at hm0
   rcases iteE hm0 with ⟨e21, hm0⟩ | ⟨e21, hm0⟩
   · rcases iteE hm0 with ⟨e23, hm0⟩ | ⟨e23, hm0⟩
     · rcases iteE hm0 with ⟨e25, hm0⟩ | ⟨e25, hm0⟩
       · rcases iteE hm0 with ⟨e27, hm0⟩ | ⟨e27, hm0⟩
         · rcases iteE hm0 with ⟨e29, hm0⟩ | ⟨e29, hm0⟩
           · rcases iteE hm0 with ⟨e31, hm0⟩ | ⟨e31, hm0⟩
             · rcases iteE hm0 with ⟨e33, hm0⟩ | ⟨e33, hm0⟩
               · rcases iteE hm0 with ⟨e35, hm0⟩ | ⟨e35, hm0⟩
                 · have g40 := And.intro (And.intro (And.intro ((e21)) ((e23))) (And.intro ((e25)) ((e27)))) (And.intro (And.intro ((e29)) ((e31))) (And.intro ((e33)) ((e35))))
                   rcases iteE hm0 with ⟨e37, hm0⟩ | ⟨e37, hm0⟩
                   · obtain ⟨v38, h39, hm0⟩ := bsE hm0
                     simp only [kk0_0, g40, e37, xhb, ↓EVd, isCall, sevalprocAttr]
                     refine qc (xbg xlg x2g xbl xfl (fi := []) (ca := []) xp a0.entries (fun z => x8g z ) _ h39 (fun z b hz => xd1 z  b hz) (fun z => by simp only [CLO]) rfl (by simp only [CLO]) (fun z => by simp only [xhb, ↓EVd, isCall, sevalprocAttr])) rfl ?_
                     obtain rfl := Option.some.inj hm0
                     simp only [kk0_0, g40, e37, xhb, ↓EVd, isCall, sevalprocAttr]
                     all_goals first | done | rfl
                   obtain rfl := Option.some.inj hm0
                   simp only [kk0_0, g40, e37, xhb, ↓EVd, isCall, sevalprocAttr]
                   all_goals first | done | rfl
                 obtain rfl := Option.some.inj hm0
                 simp only [kk0_0, e21, e23, e25, e27, e29, e31, e33, e35, xhb, ↓EVd, isCall, sevalprocAttr]
                 all_goals first | done | rfl
               obtain rfl := Option.some.inj hm0
               simp only [kk0_0, e21, e23, e25, e27, e29, e31, e33, xhb, ↓EVd, isCall, sevalprocAttr]
               all_goals first | done | rfl
             obtain rfl := Option.some.inj hm0
             simp only [kk0_0, e21, e23, e25, e27, e29, e31, xhb, ↓EVd, isCall, sevalprocAttr]
             all_goals first | done | rfl
           obtain rfl := Option.some.inj hm0
           simp only [kk0_0, e21, e23, e25, e27, e29, xhb, ↓EVd, isCall, sevalprocAttr]
           all_goals first | done | rfl
         obtain rfl := Option.some.inj hm0
         simp only [kk0_0, e21, e23, e25, e27, xhb, ↓EVd, isCall, sevalprocAttr]
         all_goals first | done | rfl
       obtain rfl := Option.some.inj hm0
       simp only [kk0_0, e21, e23, e25, xhb, ↓EVd, isCall, sevalprocAttr]
       all_goals first | done | rfl
     obtain rfl := Option.some.inj hm0
     simp only [kk0_0, e21, e23, xhb, ↓EVd, isCall, sevalprocAttr]
     all_goals first | done | rfl
   obtain rfl := Option.some.inj hm0
   simp only [kk0_0, e21, xhb, ↓EVd, isCall, sevalprocAttr]
   all_goals first | done | rfl
 refine cwp_lp ho0 (fun v2 s => s.T 1 = .loc 0 13 0 0 ∧ s.T 6 = .sl 3 (a0.entries.map xp) ∧ s.T 7 = int (a0.entries.length : Int) ∧ s.T 8 = int v2 ∧ s.H 0 = some (.row 47 13 [xe a0]) ∧ Lq 0 s.nx) ?_ ?_
 · refine TI.here ⟨?_, ?_, ?_, ?_, ?_, ?_⟩
   all_goals try simp only [xhb, ↓EVd, isCall, sevalprocAttr]
   all_goals first | omega | exact lq (by omega) | exact nq (by omega) | rfl | (congr 1; omega)
 rintro I0 v2 T0 H0 x1 st0 kk0 hm1 hI0 hO0
 dsimp only [Lq, Nq] at kk0
 simp only [xhh] at hm1
 rcases iteE hm1 with ⟨e5, hm1⟩ | ⟨e5, hm1⟩
 · obtain ⟨v6, e8, hm1⟩ := ixE xp hm1
   rcases iteE hm1 with ⟨e10, hm1⟩ | ⟨e10, hm1⟩
   · obtain rfl := Option.some.inj hm1
     obtain rfl := hO0 _ rfl
     try dsimp only at hm0
     obtain rfl := Option.some.inj hm0
     simp only [kk0, e5, e8, e10, xhb, ↓EVd, isCall, sevalprocAttr]
     all_goals first | done | rfl
   rcases iteE hm1 with ⟨e12, hm1⟩ | ⟨e12, hm1⟩
   · obtain rfl := Option.some.inj hm1
     obtain rfl := hO0 _ rfl
     try dsimp only at hm0
     obtain rfl := Option.some.inj hm0
     simp only [kk0, e5, e8, e10, e12, xhb, ↓EVd, isCall, sevalprocAttr]
     all_goals first | done | rfl
   rcases iteE hm1 with ⟨e14, hm1⟩ | ⟨e14, hm1⟩
   · obtain ⟨v15, e17, hm1⟩ := ixE xp hm1
     rcases iteE hm1 with ⟨e19, hm1⟩ | ⟨e19, hm1⟩
     · obtain rfl := Option.some.inj hm1
       obtain rfl := hO0 _ rfl
       try dsimp only at hm0
       obtain rfl := Option.some.inj hm0
       simp only [kk0, e5, e8, e10, e12, e14, e17, e19, xhb, ↓EVd, isCall, sevalprocAttr]
       all_goals first | done | rfl
     obtain rfl := Option.some.inj hm1
     simp only [kk0, e5, e8, e10, e12, e14, e17, e19, xhb, ↓EVd, isCall, sevalprocAttr]
     refine TI.here (hI0 _ rfl _ ⟨?_, ?_, ?_, ?_, ?_, ?_⟩)
     all_goals try simp only [kk0, e5, e8, e10, e12, e14, e17, e19, xhb, ↓EVd, isCall, sevalprocAttr]
     all_goals first | omega | exact lq (by omega) | exact nq (by omega) | rfl | (congr 1; omega)
   obtain rfl := Option.some.inj hm1
   simp only [kk0, e5, e8, e10, e12, e14, xhb, ↓EVd, isCall, sevalprocAttr]
   refine TI.here (hI0 _ rfl _ ⟨?_, ?_, ?_, ?_, ?_, ?_⟩)
   all_goals try simp only [kk0, e5, e8, e10, e12, e14, xhb, ↓EVd, isCall, sevalprocAttr]
   all_goals first | omega | exact lq (by omega) | exact nq (by omega) | rfl | (congr 1; omega)
 obtain rfl := Option.some.inj hm1
 simp only [kk0, e5, xhb, ↓EVd, isCall, sevalprocAttr]
 refine TI.here (hJ0_0 _ ⟨⟨?_, ?_, ?_⟩, hO0 _ rfl⟩)
 all_goals try simp only [kk0, e5, xhb, ↓EVd, isCall, sevalprocAttr]
 all_goals first | omega | exact lq (by omega) | exact nq (by omega) | rfl | (congr 1; omega)
def xmd (a0 : Node) : Option (Bool) := (xig a0).bind fun v1 => some (!v1)
def xol := aI (aI (@EV) (aI (@R47) (@DOrigin))) (aI (@DAttr) (aI (@DNode) (@DEntry)))
set_option maxHeartbeats 2000000 in
theorem xis (a0 : Node) (r : Bool) (hm0 : xmd a0 = some r) : Ok Tryd.prog 33 [xe a0] (bool r) := by
 unfold xmd at hm0
 refine okG xhs ?_
 unfold xxl
 obtain ⟨v1, h2, hm0⟩ := bsE hm0
 simp only [xol, ↓EVd, isCall, sevalprocAttr]
 refine qc (x6x _ _ h2) rfl ?_
 obtain rfl := Option.some.inj hm0
 simp only [xol, ↓EVd, isCall, sevalprocAttr]
 all_goals first | done | rfl
def x8e (a0 : Branch) (a1 : Int) : Option (Bool) := if (a0.nodes.length : Int) ≤ a1 then (xhe (fun z => xmd z ) a0.nodes).bind fun v3 => some (!v3)
 else some false
def xci := aI (aI (aI (@EV) (@R3)) (aI (@R24) (aI (@R26) (@R47)))) (aI (aI (@DBranch) (@DOrigin)) (aI (@DAttr) (aI (@DNode) (@DEntry))))
set_option maxHeartbeats 2000000 in
theorem xim (a0 : Branch) (a1 : Int) (r : Bool) (hm0 : x8e a0 a1 = some r) : Ok Tryd.prog 13 [xk a0, int a1] (bool r) := by
 unfold x8e at hm0
 refine okG xwu ?_
 unfold xcn
 rcases iteE hm0 with ⟨e2, hm0⟩ | ⟨e2, hm0⟩
 · obtain ⟨v3, h4, hm0⟩ := bsE hm0
   simp only [e2, xci, ↓EVd, isCall, sevalprocAttr]
   refine qc (xbg xwg xih xdi x7h (fi := []) (ca := []) xe a0.nodes (fun z => xmd z ) _ h4 (fun z b hz => xis z  b hz) (fun z => by simp only [CLO]) rfl (by simp only [CLO]) (fun z => by simp only [xci, ↓EVd, isCall, sevalprocAttr])) rfl ?_
   obtain rfl := Option.some.inj hm0
   simp only [e2, xci, ↓EVd, isCall, sevalprocAttr]
   all_goals first | done | rfl
 obtain rfl := Option.some.inj hm0
 simp only [e2, xci, ↓EVd, isCall, sevalprocAttr]
 all_goals first | done | rfl
def xtd (a0 : Branch) (a1 : Int) : Option (Bool) := (x8e a0 a1).bind fun v1 => some (!v1)
def xbm := aI (aI (aI (@EV) (@R3)) (aI (@R26) (@DBranch))) (aI (aI (@DOrigin) (@DAttr)) (aI (@DNode) (@DEntry)))
set_option maxHeartbeats 2000000 in
theorem xft (a0 : Branch) (a1 : Int) (r : Bool) (hm0 : xtd a0 a1 = some r) : Ok Tryd.prog 15 [xk a0, .ptr (int a1) 0] (bool r) := by
 unfold xtd at hm0
 refine okG xit ?_
 unfold xqm
 obtain ⟨v1, h2, hm0⟩ := bsE hm0
 simp only [xbm, ↓EVd, isCall, sevalprocAttr]
 refine qc (xim _ _ _ h2) rfl ?_
 obtain rfl := Option.some.inj hm0
 simp only [xbm, ↓EVd, isCall, sevalprocAttr]
 all_goals first | done | rfl
def x0d (a0 : Stack) (a1 : Int) : Option (Bool) := if (a0.lowers.length : Int) ≤ 3 then (x8e a0.upper a1).bind fun v3 => if v3 = true then (xhe (fun z => xtd z a1) a0.lowers).bind fun v7 => some (!v7)
 else some false
 else some false
def xre := aI (aI (aI (@EV) (@R3)) (aI (@R26) (aI (@R27) (@R29)))) (aI (aI (@DBranch) (aI (@DStack) (@DOrigin))) (aI (@DAttr) (aI (@DNode) (@DEntry))))
set_option maxHeartbeats 2000000 in
theorem xov (a0 : Stack) (a1 : Int) (r : Bool) (hm0 : x0d a0 a1 = some r) : Ok Tryd.prog 4 [xx a0, int a1] (bool r) := by
 unfold x0d at hm0
 refine okG xgw ?_
 unfold xdp
 rcases iteE hm0 with ⟨e2, hm0⟩ | ⟨e2, hm0⟩
 · obtain ⟨v3, h4, hm0⟩ := bsE hm0
   simp only [e2, xre, ↓EVd, isCall, sevalprocAttr]
   refine qc (xim _ _ _ h4) rfl ?_
   rcases itbE hm0 with ⟨e6, hm0⟩ | ⟨e6, hm0⟩
   · obtain ⟨v7, h8, hm0⟩ := bsE hm0
     simp only [e2, e6, xre, ↓EVd, isCall, sevalprocAttr]
     refine qcb (xbg x1f xog xtu xck (fi := []) (ca := [.ptr (int a1) 0]) xk a0.lowers (fun z => xtd z a1) _ h8 (fun z b hz => xft z a1 b hz) (fun z => by simp only [CLO]) rfl (by simp only [CLO]) (fun z => by simp only [xre, ↓EVd, isCall, sevalprocAttr])) rfl (by simp only [e2, e6, FZ, CLO, xre, ↓EVd, isCall, sevalprocAttr]) ?_
     obtain rfl := Option.some.inj hm0
     simp only [e2, e6, xre, ↓EVd, isCall, sevalprocAttr]
     all_goals first | done | rfl
   obtain rfl := Option.some.inj hm0
   simp only [e2, e6, xre, ↓EVd, isCall, sevalprocAttr]
   all_goals first | done | rfl
 obtain rfl := Option.some.inj hm0
 simp only [e2, xre, ↓EVd, isCall, sevalprocAttr]
 all_goals first | done | rfl
end Go.Proofs.YtmacnoajlofdbaaDoor.AL

