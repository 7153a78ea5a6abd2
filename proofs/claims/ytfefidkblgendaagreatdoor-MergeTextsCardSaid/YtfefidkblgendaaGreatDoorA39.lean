/- What any node of any stack should say of copies, and which say otherwise, is what the document says: part 39 of 51. -/
import Derived.Test.YtfefidkblgendaaGreatDoorA38
set_option linter.all false
/- Models of functions, and that the functions are as their models: written by gen.py. -/
set_option linter.all false
set_option maxRecDepth 100000
namespace Go.Proofs.YtfefidkblgendaaGreatDoor.AL
open Go Go.Proofs
def xwh (a0 : Entry) : Option (Bool) := (xoc a0.name).bind fun v1 => some (!v1)
def xqw := aI (aI (@EV) (@R9)) (aI (@R76) (@DEntry))
set_option maxHeartbeats 2000000 in
theorem xm4 (a0 : Entry) (r : Bool) (hm0 : xwh a0 = some r) : Ok Tryz.prog 82 [xab a0] (bool r) := by
 unfold xwh at hm0
 refine okG xx5 ?_
 unfold xuw
 obtain ⟨v1, h2, hm0⟩ := bsE hm0
 simp only [xqw, ↓EVd, isCall, sevalprocAttr]
 refine qc (x6i _ _ h2) rfl ?_
 obtain rfl := Option.some.inj hm0
 simp only [xqw, ↓EVd, isCall, sevalprocAttr]
 all_goals first | done | rfl
def x3h (a0 : Node) : Int → Option (St (Int) ((Unit) ⊕ (Bool)))
 | v2 => if v2 < (a0.entries.length : Int) then (ix a0.entries v2).bind fun v6 => if v6.slot < 0 then some (.out (.inr false))
 else if 16 ≤ v6.slot then some (.out (.inr false))
 else if 0 < v2 then (ix a0.entries (wr (v2 - 1))).bind fun v15 => if v6.slot ≤ v15.slot then some (.out (.inr false))
 else some (.nx (wr (v2 + 1)))
 else some (.nx (wr (v2 + 1)))
 else some (.out (.inl ()))
def xjg (a0 : Node) : Option (Bool) := (iter (x3h a0) big 0).bind fun o => (match o with
 | (.inl _) => if 0 ≤ a0.kind then if a0.kind ≤ 4 then if (-9007199254740992) ≤ a0.nlink then if a0.nlink ≤ 9007199254740992 then if 0 ≤ a0.attr.has then if a0.attr.has ≤ 31 then if (a0.data.length : Int) ≤ 300 then if (a0.entries.length : Int) ≤ 16 then if (a0.attr.redirect.size : Int) ≤ 40 then (xzg (fun z => xwh z ) a0.entries).bind fun v38 => some (!v38)
 else some false
 else some false
 else some false
 else some false
 else some false
 else some false
 else some false
 else some false
 else some false
 | (.inr r) => some r)
def xfb := aI (aI (aI (@EV) (aI (@R3) (@R5))) (aI (aI (@R9) (@R30)) (aI (@R65) (@R69)))) (aI (aI (@R71) (aI (@R76) (@DOrigin))) (aI (aI (@DAttr) (@DNode)) (aI (@DEntry) (@mixed))))
set_option maxHeartbeats 2000000 in
theorem xt3 (a0 : Node) (r : Bool) (hm0 : xjg a0 = some r) : Ok Tryz.prog 47 [xo a0] (bool r) := by
 unfold xjg at hm0
 refine okG xr2 ?_
 unfold xiu
 obtain ⟨o0, ho0, hm0⟩ := bsE hm0
 simp only [xfb, ↓EVd, isCall, sevalprocAttr]
 refine cwp_cx 0 (fun s => (s.T 1 = .loc 0 13 0 0 ∧ s.H 0 = some (.row 71 13 [xo a0]) ∧ Lq 0 s.nx) ∧ (.inl ()) = o0) ?_ fun J0_0 hJ0_0 => ?_
 · rintro T0 H0 x3 ⟨kk0_0, rfl⟩
   dsimp only [Lq, Nq] at kk0_0
   try dsimp only at hm0
   rcases iteE hm0 with ⟨e21, hm0⟩ | ⟨e21, hm0⟩
   · rcases iteE hm0 with ⟨e23, hm0⟩ | ⟨e23, hm0⟩
     · rcases iteE hm0 with ⟨e25, hm0⟩ | ⟨e25, hm0⟩
       · rcases iteE hm0 with ⟨e27, hm0⟩ | ⟨e27, hm0⟩
         · rcases iteE hm0 with ⟨e29, hm0⟩ | ⟨e29, hm0⟩
           · rcases iteE hm0 with ⟨e31, hm0⟩ | ⟨e31, hm0⟩
             · rcases iteE hm0 with ⟨e33, hm0⟩ | ⟨e33, hm0⟩
               · rcases iteE hm0 with ⟨e35, hm0⟩ | ⟨e35, hm0⟩
                 · have g40 := And.intro (And.intro (And.intro ((e21)) ((e23))) (And.intro ((e25)) ((e27)))) (And.intro (And.intro ((e29)) ((e31))) (And.intro ((e33)) ((e35))))
                   rcases iteE hm0 with ⟨e37, hm0⟩ | ⟨e37, hm0⟩
                   · obtain ⟨v38, h39, hm0⟩ := bsE hm0
                     simp only [kk0_0, g40, e37, xfb, ↓EVd, isCall, sevalprocAttr]
                     refine qc (xll xpg xzd xfo xam (fi := []) (ca := []) xab a0.entries (fun z => xwh z ) _ h39 (fun z b hz => xm4 z  b hz) (fun z => by simp only [CLO]) rfl (by simp only [CLO]) (fun z => by simp only [xfb, ↓EVd, isCall, sevalprocAttr])) rfl ?_
                     obtain rfl := Option.some.inj hm0
                     simp only [kk0_0, g40, e37, xfb, ↓EVd, isCall, sevalprocAttr]
                     all_goals first | done | rfl
                   obtain rfl := Option.some.inj hm0
                   simp only [kk0_0, g40, e37, xfb, ↓EVd, isCall, sevalprocAttr]
                   all_goals first | done | rfl
                 obtain rfl := Option.some.inj hm0
                 simp only [kk0_0, e21, e23, e25, e27, e29, e31, e33, e35, xfb, ↓EVd, isCall, sevalprocAttr]
                 all_goals first | done | rfl
               obtain rfl := Option.some.inj hm0
               simp only [kk0_0, e21, e23, e25, e27, e29, e31, e33, xfb, ↓EVd, isCall, sevalprocAttr]
               all_goals first | done | rfl
             obtain rfl := Option.some.inj hm0
             simp only [kk0_0, e21, e23, e25, e27, e29, e31, xfb, ↓EVd, isCall, sevalprocAttr]
             all_goals first | done | rfl
           obtain rfl := Option.some.inj hm0
           simp only [kk0_0, e21, e23, e25, e27, e29, xfb, ↓EVd, isCall, sevalprocAttr]
           all_goals first | done | rfl
         obtain rfl := Option.some.inj hm0
         simp only [kk0_0, e21, e23, e25, e27, xfb, ↓EVd, isCall, sevalprocAttr]
         all_goals first | done | rfl
       obtain rfl := Option.some.inj hm0
       simp only [kk0_0, e21, e23, e25, xfb, ↓EVd, isCall, sevalprocAttr]
       all_goals first | done | rfl
     obtain rfl := Option.some.inj hm0
     simp only [kk0_0, e21, e23, xfb, ↓EVd, isCall, sevalprocAttr]
     all_goals first | done | rfl
   obtain rfl := Option.some.inj hm0
   simp only [kk0_0, e21, xfb, ↓EVd, isCall, sevalprocAttr]
   all_goals first | done | rfl
 refine cwp_lp ho0 (fun v2 s => s.T 1 = .loc 0 13 0 0 ∧ s.T 6 = .sl 3 (a0.entries.map xab) ∧ s.T 7 = int (a0.entries.length : Int) ∧ s.T 8 = int v2 ∧ s.H 0 = some (.row 71 13 [xo a0]) ∧ Lq 0 s.nx) ?_ ?_
 · refine TI.here ⟨?_, ?_, ?_, ?_, ?_, ?_⟩
   all_goals try simp only [xfb, ↓EVd, isCall, sevalprocAttr]
   all_goals first | omega | exact lq (by omega) | exact nq (by omega) | rfl | (congr 1; omega)
 rintro I0 v2 T0 H0 x1 st0 kk0 hm1 hI0 hO0
 dsimp only [Lq, Nq] at kk0
 simp only [x3h] at hm1
 rcases iteE hm1 with ⟨e5, hm1⟩ | ⟨e5, hm1⟩
 · obtain ⟨v6, e8, hm1⟩ := ixE xab hm1
   rcases iteE hm1 with ⟨e10, hm1⟩ | ⟨e10, hm1⟩
   · obtain rfl := Option.some.inj hm1
     obtain rfl := hO0 _ rfl
     try dsimp only at hm0
     obtain rfl := Option.some.inj hm0
     simp only [kk0, e5, e8, e10, xfb, ↓EVd, isCall, sevalprocAttr]
     all_goals first | done | rfl
   rcases iteE hm1 with ⟨e12, hm1⟩ | ⟨e12, hm1⟩
   · obtain rfl := Option.some.inj hm1
     obtain rfl := hO0 _ rfl
     try dsimp only at hm0
     obtain rfl := Option.some.inj hm0
     simp only [kk0, e5, e8, e10, e12, xfb, ↓EVd, isCall, sevalprocAttr]
     all_goals first | done | rfl
   rcases iteE hm1 with ⟨e14, hm1⟩ | ⟨e14, hm1⟩
   · obtain ⟨v15, e17, hm1⟩ := ixE xab hm1
     rcases iteE hm1 with ⟨e19, hm1⟩ | ⟨e19, hm1⟩
     · obtain rfl := Option.some.inj hm1
       obtain rfl := hO0 _ rfl
       try dsimp only at hm0
       obtain rfl := Option.some.inj hm0
       simp only [kk0, e5, e8, e10, e12, e14, e17, e19, xfb, ↓EVd, isCall, sevalprocAttr]
       all_goals first | done | rfl
     obtain rfl := Option.some.inj hm1
     simp only [kk0, e5, e8, e10, e12, e14, e17, e19, xfb, ↓EVd, isCall, sevalprocAttr]
     refine TI.here (hI0 _ rfl _ ⟨?_, ?_, ?_, ?_, ?_, ?_⟩)
     all_goals try simp only [kk0, e5, e8, e10, e12, e14, e17, e19, xfb, ↓EVd, isCall, sevalprocAttr]
     all_goals first | omega | exact lq (by omega) | exact nq (by omega) | rfl | (congr 1; omega)
   obtain rfl := Option.some.inj hm1
   simp only [kk0, e5, e8, e10, e12, e14, xfb, ↓EVd, isCall, sevalprocAttr]
   refine TI.here (hI0 _ rfl _ ⟨?_, ?_, ?_, ?_, ?_, ?_⟩)
   all_goals try simp only [kk0, e5, e8, e10, e12, e14, xfb, ↓EVd, isCall, sevalprocAttr]
   all_goals first | omega | exact lq (by omega) | exact nq (by omega) | rfl | (congr 1; omega)
 obtain rfl := Option.some.inj hm1
 simp only [kk0, e5, xfb, ↓EVd, isCall, sevalprocAttr]
 refine TI.here (hJ0_0 _ ⟨⟨?_, ?_, ?_⟩, hO0 _ rfl⟩)
 all_goals try simp only [kk0, e5, xfb, ↓EVd, isCall, sevalprocAttr]
 all_goals first | omega | exact lq (by omega) | exact nq (by omega) | rfl | (congr 1; omega)
def xfd (a0 : Node) : Option (Bool) := (xjg a0).bind fun v1 => some (!v1)
def xzp := aI (aI (@EV) (aI (@R71) (@DOrigin))) (aI (@DAttr) (aI (@DNode) (@DEntry)))
set_option maxHeartbeats 2000000 in
theorem xkw (a0 : Node) (r : Bool) (hm0 : xfd a0 = some r) : Ok Tryz.prog 46 [xo a0] (bool r) := by
 unfold xfd at hm0
 refine okG xhw ?_
 unfold xlp
 obtain ⟨v1, h2, hm0⟩ := bsE hm0
 simp only [xzp, ↓EVd, isCall, sevalprocAttr]
 refine qc (xt3 _ _ h2) rfl ?_
 obtain rfl := Option.some.inj hm0
 simp only [xzp, ↓EVd, isCall, sevalprocAttr]
 all_goals first | done | rfl
def xaf (a0 : Branch) (a1 : Int) : Option (Bool) := if (a0.nodes.length : Int) ≤ a1 then (xzg (fun z => xfd z ) a0.nodes).bind fun v3 => some (!v3)
 else some false
def x7i := aI (aI (aI (@EV) (@R3)) (aI (@R24) (aI (@R26) (@R71)))) (aI (aI (@DBranch) (@DOrigin)) (aI (@DAttr) (aI (@DNode) (@DEntry))))
set_option maxHeartbeats 2000000 in
theorem xjq (a0 : Branch) (a1 : Int) (r : Bool) (hm0 : xaf a0 a1 = some r) : Ok Tryz.prog 19 [xcb a0, int a1] (bool r) := by
 unfold xaf at hm0
 refine okG xgz ?_
 unfold xfr
 rcases iteE hm0 with ⟨e2, hm0⟩ | ⟨e2, hm0⟩
 · obtain ⟨v3, h4, hm0⟩ := bsE hm0
   simp only [e2, x7i, ↓EVd, isCall, sevalprocAttr]
   refine qc (xll x9g x4h x1r xno (fi := []) (ca := []) xo a0.nodes (fun z => xfd z ) _ h4 (fun z b hz => xkw z  b hz) (fun z => by simp only [CLO]) rfl (by simp only [CLO]) (fun z => by simp only [x7i, ↓EVd, isCall, sevalprocAttr])) rfl ?_
   obtain rfl := Option.some.inj hm0
   simp only [e2, x7i, ↓EVd, isCall, sevalprocAttr]
   all_goals first | done | rfl
 obtain rfl := Option.some.inj hm0
 simp only [e2, x7i, ↓EVd, isCall, sevalprocAttr]
 all_goals first | done | rfl
def xmd (a0 : Branch) (a1 : Int) : Option (Bool) := (xaf a0 a1).bind fun v1 => some (!v1)
def xcq := aI (aI (aI (@EV) (@R3)) (aI (@R26) (@DBranch))) (aI (aI (@DOrigin) (@DAttr)) (aI (@DNode) (@DEntry)))
set_option maxHeartbeats 2000000 in
theorem xvx (a0 : Branch) (a1 : Int) (r : Bool) (hm0 : xmd a0 a1 = some r) : Ok Tryz.prog 21 [xcb a0, .ptr (int a1) 0] (bool r) := by
 unfold xmd at hm0
 refine okG xzx ?_
 unfold xqq
 obtain ⟨v1, h2, hm0⟩ := bsE hm0
 simp only [xcq, ↓EVd, isCall, sevalprocAttr]
 refine qc (xjq _ _ _ h2) rfl ?_
 obtain rfl := Option.some.inj hm0
 simp only [xcq, ↓EVd, isCall, sevalprocAttr]
 all_goals first | done | rfl
def xyd (a0 : Stack) (a1 : Int) : Option (Bool) := if (a0.lowers.length : Int) ≤ 3 then (xaf a0.upper a1).bind fun v3 => if v3 = true then (xzg (fun z => xmd z a1) a0.lowers).bind fun v7 => some (!v7)
 else some false
 else some false
def xwe := aI (aI (aI (@EV) (@R3)) (aI (@R26) (aI (@R27) (@R29)))) (aI (aI (@DBranch) (aI (@DStack) (@DOrigin))) (aI (@DAttr) (aI (@DNode) (@DEntry))))
set_option maxHeartbeats 2000000 in
theorem x4l (a0 : Stack) (a1 : Int) (r : Bool) (hm0 : xyd a0 a1 = some r) : Ok Tryz.prog 6 [xf a0, int a1] (bool r) := by
 unfold xyd at hm0
 refine okG x9z ?_
 unfold xms
 rcases iteE hm0 with ⟨e2, hm0⟩ | ⟨e2, hm0⟩
 · obtain ⟨v3, h4, hm0⟩ := bsE hm0
   simp only [e2, xwe, ↓EVd, isCall, sevalprocAttr]
   refine qc (xjq _ _ _ h4) rfl ?_
   rcases itbE hm0 with ⟨e6, hm0⟩ | ⟨e6, hm0⟩
   · obtain ⟨v7, h8, hm0⟩ := bsE hm0
     simp only [e2, e6, xwe, ↓EVd, isCall, sevalprocAttr]
     refine qcb (xll x8f xvg xcs x0o (fi := []) (ca := [.ptr (int a1) 0]) xcb a0.lowers (fun z => xmd z a1) _ h8 (fun z b hz => xvx z a1 b hz) (fun z => by simp only [CLO]) rfl (by simp only [CLO]) (fun z => by simp only [xwe, ↓EVd, isCall, sevalprocAttr])) rfl (by simp only [e2, e6, FZ, CLO, xwe, ↓EVd, isCall, sevalprocAttr]) ?_
     obtain rfl := Option.some.inj hm0
     simp only [e2, e6, xwe, ↓EVd, isCall, sevalprocAttr]
     all_goals first | done | rfl
   obtain rfl := Option.some.inj hm0
   simp only [e2, e6, xwe, ↓EVd, isCall, sevalprocAttr]
   all_goals first | done | rfl
 obtain rfl := Option.some.inj hm0
 simp only [e2, xwe, ↓EVd, isCall, sevalprocAttr]
 all_goals first | done | rfl
end Go.Proofs.YtfefidkblgendaaGreatDoor.AL

