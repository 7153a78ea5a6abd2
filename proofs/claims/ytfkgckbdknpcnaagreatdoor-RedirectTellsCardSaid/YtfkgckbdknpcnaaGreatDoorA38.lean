/- A law of the given program is proved: part 38 of 51. -/
import Derived.Test.YtfkgckbdknpcnaaGreatDoorA37
set_option linter.all false
/- Models of functions, and that the functions are as their models: written by gen.py. -/
set_option linter.all false
set_option maxRecDepth 100000
namespace Go.Proofs.YtfkgckbdknpcnaaGreatDoor.AL
open Go Go.Proofs
def xni (a0 : Entry) : Option (Bool) := (x0c a0.name).bind fun v1 => some (!v1)
def xkv := aI (aI (@EV) (@R9)) (aI (@R87) (@DEntry))
set_option maxHeartbeats 2000000 in
theorem x53 (a0 : Entry) (r : Bool) (hm0 : xni a0 = some r) : Ok Tryz.prog 58 [xt a0] (bool r) := by
 unfold xni at hm0
 refine okG x73 ?_
 unfold xov
 obtain ⟨v1, h2, hm0⟩ := bsE hm0
 simp only [xkv, ↓EVd, isCall, sevalprocAttr]
 refine qc (xwj _ _ h2) rfl ?_
 obtain rfl := Option.some.inj hm0
 simp only [xkv, ↓EVd, isCall, sevalprocAttr]
 all_goals first | done | rfl
def xui (a0 : Node) : Int → Option (St (Int) ((Unit) ⊕ (Bool)))
 | v2 => if v2 < (a0.entries.length : Int) then (ix a0.entries v2).bind fun v6 => if v6.slot < 0 then some (.out (.inr false))
 else if 16 ≤ v6.slot then some (.out (.inr false))
 else if 0 < v2 then (ix a0.entries (wr (v2 - 1))).bind fun v15 => if v6.slot ≤ v15.slot then some (.out (.inr false))
 else some (.nx (wr (v2 + 1)))
 else some (.nx (wr (v2 + 1)))
 else some (.out (.inl ()))
def xah (a0 : Node) : Option (Bool) := (iter (xui a0) big 0).bind fun o => (match o with
 | (.inl _) => if 0 ≤ a0.kind then if a0.kind ≤ 4 then if (-9007199254740992) ≤ a0.nlink then if a0.nlink ≤ 9007199254740992 then if 0 ≤ a0.attr.has then if a0.attr.has ≤ 31 then if (a0.data.length : Int) ≤ 300 then if (a0.entries.length : Int) ≤ 16 then if (a0.attr.redirect.size : Int) ≤ 40 then (x0h (fun z => xni z ) a0.entries).bind fun v38 => some (!v38)
 else some false
 else some false
 else some false
 else some false
 else some false
 else some false
 else some false
 else some false
 else some false
 | (.inr r) => some r)
def xkb := aI (aI (aI (@EV) (aI (@R3) (@R9))) (aI (@R61) (aI (@R62) (@R66)))) (aI (aI (@R68) (aI (@R87) (@DAttr))) (aI (@DNode) (aI (@DEntry) (@mixed))))
set_option maxHeartbeats 2000000 in
theorem xe1 (a0 : Node) (r : Bool) (hm0 : xah a0 = some r) : Ok Tryz.prog 37 [xf a0] (bool r) := by
 unfold xah at hm0
 refine okG xm1 ?_
 unfold x5s
 obtain ⟨o0, ho0, hm0⟩ := bsE hm0
 simp only [xkb, ↓EVd, isCall, sevalprocAttr]
 refine cwp_cx 0 (fun s => (s.T 1 = .loc 0 13 0 0 ∧ s.H 0 = some (.row 68 13 [xf a0]) ∧ Lq 0 s.nx) ∧ (.inl ()) = o0) ?_ fun J0_0 hJ0_0 => ?_
 · rintro T0 H0 x3 ⟨kk0_0, rfl⟩
   dsimp only [Lq, Nq] at kk0_0
   try dsimp only at hm0
   rcases iteE hm0 with ⟨e21, hm0⟩ | ⟨e21, hm0⟩
   · rcases iteE hm0 with ⟨e23, hm0⟩ | ⟨e23, hm0⟩
     · rcases iteE hm0 with ⟨e25, hm0⟩ | ⟨e25, hm0⟩
       · rcases iteE hm0 with ⟨e27, hm0⟩ | ⟨e27, hm0⟩
         · rcases iteE hm0 with ⟨e29, hm0⟩ | ⟨e29, hm0⟩
           · rcases iteE hm0 with ⟨e31, hm0⟩ | ⟨e31, hm0⟩
             · rcases iteE hm0 with ⟨e33, hm0⟩ | ⟨e33, hm0⟩
               · rcases iteE hm0 with ⟨e35, hm0⟩ | ⟨e35, hm0⟩
                 · have g40 := And.intro (And.intro (And.intro ((e21)) ((e23))) (And.intro ((e25)) ((e27)))) (And.intro (And.intro ((e29)) ((e31))) (And.intro ((e33)) ((e35))))
                   rcases iteE hm0 with ⟨e37, hm0⟩ | ⟨e37, hm0⟩
                   · obtain ⟨v38, h39, hm0⟩ := bsE hm0
                     simp only [kk0_0, g40, e37, xkb, ↓EVd, isCall, sevalprocAttr]
                     refine qc (xhl xch xai x0m xcn (fi := []) (ca := []) xt a0.entries (fun z => xni z ) _ h39 (fun z b hz => x53 z  b hz) (fun z => by simp only [CLO]) rfl (by simp only [CLO]) (fun z => by simp only [xkb, ↓EVd, isCall, sevalprocAttr])) rfl ?_
                     obtain rfl := Option.some.inj hm0
                     simp only [kk0_0, g40, e37, xkb, ↓EVd, isCall, sevalprocAttr]
                     all_goals first | done | rfl
                   obtain rfl := Option.some.inj hm0
                   simp only [kk0_0, g40, e37, xkb, ↓EVd, isCall, sevalprocAttr]
                   all_goals first | done | rfl
                 obtain rfl := Option.some.inj hm0
                 simp only [kk0_0, e21, e23, e25, e27, e29, e31, e33, e35, xkb, ↓EVd, isCall, sevalprocAttr]
                 all_goals first | done | rfl
               obtain rfl := Option.some.inj hm0
               simp only [kk0_0, e21, e23, e25, e27, e29, e31, e33, xkb, ↓EVd, isCall, sevalprocAttr]
               all_goals first | done | rfl
             obtain rfl := Option.some.inj hm0
             simp only [kk0_0, e21, e23, e25, e27, e29, e31, xkb, ↓EVd, isCall, sevalprocAttr]
             all_goals first | done | rfl
           obtain rfl := Option.some.inj hm0
           simp only [kk0_0, e21, e23, e25, e27, e29, xkb, ↓EVd, isCall, sevalprocAttr]
           all_goals first | done | rfl
         obtain rfl := Option.some.inj hm0
         simp only [kk0_0, e21, e23, e25, e27, xkb, ↓EVd, isCall, sevalprocAttr]
         all_goals first | done | rfl
       obtain rfl := Option.some.inj hm0
       simp only [kk0_0, e21, e23, e25, xkb, ↓EVd, isCall, sevalprocAttr]
       all_goals first | done | rfl
     obtain rfl := Option.some.inj hm0
     simp only [kk0_0, e21, e23, xkb, ↓EVd, isCall, sevalprocAttr]
     all_goals first | done | rfl
   obtain rfl := Option.some.inj hm0
   simp only [kk0_0, e21, xkb, ↓EVd, isCall, sevalprocAttr]
   all_goals first | done | rfl
 refine cwp_lp ho0 (fun v2 s => s.T 1 = .loc 0 13 0 0 ∧ s.T 6 = .sl 3 (a0.entries.map xt) ∧ s.T 7 = int (a0.entries.length : Int) ∧ s.T 8 = int v2 ∧ s.H 0 = some (.row 68 13 [xf a0]) ∧ Lq 0 s.nx) ?_ ?_
 · refine TI.here ⟨?_, ?_, ?_, ?_, ?_, ?_⟩
   all_goals try simp only [xkb, ↓EVd, isCall, sevalprocAttr]
   all_goals first | omega | exact lq (by omega) | exact nq (by omega) | rfl | (congr 1; omega)
 rintro I0 v2 T0 H0 x1 st0 kk0 hm1 hI0 hO0
 dsimp only [Lq, Nq] at kk0
 simp only [xui] at hm1
 rcases iteE hm1 with ⟨e5, hm1⟩ | ⟨e5, hm1⟩
 · obtain ⟨v6, e8, hm1⟩ := ixE xt hm1
   rcases iteE hm1 with ⟨e10, hm1⟩ | ⟨e10, hm1⟩
   · obtain rfl := Option.some.inj hm1
     obtain rfl := hO0 _ rfl
     try dsimp only at hm0
     obtain rfl := Option.some.inj hm0
     simp only [kk0, e5, e8, e10, xkb, ↓EVd, isCall, sevalprocAttr]
     all_goals first | done | rfl
   rcases iteE hm1 with ⟨e12, hm1⟩ | ⟨e12, hm1⟩
   · obtain rfl := Option.some.inj hm1
     obtain rfl := hO0 _ rfl
     try dsimp only at hm0
     obtain rfl := Option.some.inj hm0
     simp only [kk0, e5, e8, e10, e12, xkb, ↓EVd, isCall, sevalprocAttr]
     all_goals first | done | rfl
   rcases iteE hm1 with ⟨e14, hm1⟩ | ⟨e14, hm1⟩
   · obtain ⟨v15, e17, hm1⟩ := ixE xt hm1
     rcases iteE hm1 with ⟨e19, hm1⟩ | ⟨e19, hm1⟩
     · obtain rfl := Option.some.inj hm1
       obtain rfl := hO0 _ rfl
       try dsimp only at hm0
       obtain rfl := Option.some.inj hm0
       simp only [kk0, e5, e8, e10, e12, e14, e17, e19, xkb, ↓EVd, isCall, sevalprocAttr]
       all_goals first | done | rfl
     obtain rfl := Option.some.inj hm1
     simp only [kk0, e5, e8, e10, e12, e14, e17, e19, xkb, ↓EVd, isCall, sevalprocAttr]
     refine TI.here (hI0 _ rfl _ ⟨?_, ?_, ?_, ?_, ?_, ?_⟩)
     all_goals try simp only [kk0, e5, e8, e10, e12, e14, e17, e19, xkb, ↓EVd, isCall, sevalprocAttr]
     all_goals first | omega | exact lq (by omega) | exact nq (by omega) | rfl | (congr 1; omega)
   obtain rfl := Option.some.inj hm1
   simp only [kk0, e5, e8, e10, e12, e14, xkb, ↓EVd, isCall, sevalprocAttr]
   refine TI.here (hI0 _ rfl _ ⟨?_, ?_, ?_, ?_, ?_, ?_⟩)
   all_goals try simp only [kk0, e5, e8, e10, e12, e14, xkb, ↓EVd, isCall, sevalprocAttr]
   all_goals first | omega | exact lq (by omega) | exact nq (by omega) | rfl | (congr 1; omega)
 obtain rfl := Option.some.inj hm1
 simp only [kk0, e5, xkb, ↓EVd, isCall, sevalprocAttr]
 refine TI.here (hJ0_0 _ ⟨⟨?_, ?_, ?_⟩, hO0 _ rfl⟩)
 all_goals try simp only [kk0, e5, xkb, ↓EVd, isCall, sevalprocAttr]
 all_goals first | omega | exact lq (by omega) | exact nq (by omega) | rfl | (congr 1; omega)
def xxd (a0 : Node) : Option (Bool) := (xah a0).bind fun v1 => some (!v1)
def xin := aI (aI (@EV) (@R68)) (aI (@DAttr) (aI (@DNode) (@DEntry)))
set_option maxHeartbeats 2000000 in
theorem xyu (a0 : Node) (r : Bool) (hm0 : xxd a0 = some r) : Ok Tryz.prog 36 [xf a0] (bool r) := by
 unfold xxd at hm0
 refine okG x1u ?_
 unfold xrn
 obtain ⟨v1, h2, hm0⟩ := bsE hm0
 simp only [xin, ↓EVd, isCall, sevalprocAttr]
 refine qc (xe1 _ _ h2) rfl ?_
 obtain rfl := Option.some.inj hm0
 simp only [xin, ↓EVd, isCall, sevalprocAttr]
 all_goals first | done | rfl
def x6f (a0 : Branch) (a1 : Int) : Option (Bool) := if (a0.nodes.length : Int) ≤ a1 then (x0h (fun z => xxd z ) a0.nodes).bind fun v3 => some (!v3)
 else some false
def xrj := aI (aI (aI (@EV) (@R3)) (aI (@R24) (@R26))) (aI (aI (@R68) (@DBranch)) (aI (@DAttr) (aI (@DNode) (@DEntry))))
set_option maxHeartbeats 2000000 in
theorem xro (a0 : Branch) (a1 : Int) (r : Bool) (hm0 : x6f a0 a1 = some r) : Ok Tryz.prog 14 [xi a0, int a1] (bool r) := by
 unfold x6f at hm0
 refine okG x6w ?_
 unfold xzp
 rcases iteE hm0 with ⟨e2, hm0⟩ | ⟨e2, hm0⟩
 · obtain ⟨v3, h4, hm0⟩ := bsE hm0
   simp only [e2, xrj, ↓EVd, isCall, sevalprocAttr]
   refine qc (xhl x1h xwi xqq xan (fi := []) (ca := []) xf a0.nodes (fun z => xxd z ) _ h4 (fun z b hz => xyu z  b hz) (fun z => by simp only [CLO]) rfl (by simp only [CLO]) (fun z => by simp only [xrj, ↓EVd, isCall, sevalprocAttr])) rfl ?_
   obtain rfl := Option.some.inj hm0
   simp only [e2, xrj, ↓EVd, isCall, sevalprocAttr]
   all_goals first | done | rfl
 obtain rfl := Option.some.inj hm0
 simp only [e2, xrj, ↓EVd, isCall, sevalprocAttr]
 all_goals first | done | rfl
def xce (a0 : Branch) (a1 : Int) : Option (Bool) := (x6f a0 a1).bind fun v1 => some (!v1)
def xlo := aI (aI (@EV) (aI (@R3) (@R26))) (aI (aI (@DBranch) (@DAttr)) (aI (@DNode) (@DEntry)))
set_option maxHeartbeats 2000000 in
theorem x3v (a0 : Branch) (a1 : Int) (r : Bool) (hm0 : xce a0 a1 = some r) : Ok Tryz.prog 16 [xi a0, .ptr (int a1) 0] (bool r) := by
 unfold xce at hm0
 refine okG xgw ?_
 unfold xco
 obtain ⟨v1, h2, hm0⟩ := bsE hm0
 simp only [xlo, ↓EVd, isCall, sevalprocAttr]
 refine qc (xro _ _ _ h2) rfl ?_
 obtain rfl := Option.some.inj hm0
 simp only [xlo, ↓EVd, isCall, sevalprocAttr]
 all_goals first | done | rfl
def xme (a0 : Stack) (a1 : Int) : Option (Bool) := if (a0.lowers.length : Int) ≤ 3 then (x6f a0.upper a1).bind fun v3 => if v3 = true then (x0h (fun z => xce z a1) a0.lowers).bind fun v7 => some (!v7)
 else some false
 else some false
def xof := aI (aI (aI (@EV) (@R3)) (aI (@R26) (aI (@R27) (@R29)))) (aI (aI (@DBranch) (@DStack)) (aI (@DAttr) (aI (@DNode) (@DEntry))))
set_option maxHeartbeats 2000000 in
theorem x6y (a0 : Stack) (a1 : Int) (r : Bool) (hm0 : xme a0 a1 = some r) : Ok Tryz.prog 4 [xl a0, int a1] (bool r) := by
 unfold xme at hm0
 refine okG xry ?_
 unfold xqr
 rcases iteE hm0 with ⟨e2, hm0⟩ | ⟨e2, hm0⟩
 · obtain ⟨v3, h4, hm0⟩ := bsE hm0
   simp only [e2, xof, ↓EVd, isCall, sevalprocAttr]
   refine qc (xro _ _ _ h4) rfl ?_
   rcases itbE hm0 with ⟨e6, hm0⟩ | ⟨e6, hm0⟩
   · obtain ⟨v7, h8, hm0⟩ := bsE hm0
     simp only [e2, e6, xof, ↓EVd, isCall, sevalprocAttr]
     refine qcb (xhl x2g xsh x4p x4k (fi := []) (ca := [.ptr (int a1) 0]) xi a0.lowers (fun z => xce z a1) _ h8 (fun z b hz => x3v z a1 b hz) (fun z => by simp only [CLO]) rfl (by simp only [CLO]) (fun z => by simp only [xof, ↓EVd, isCall, sevalprocAttr])) rfl (by simp only [e2, e6, FZ, CLO, xof, ↓EVd, isCall, sevalprocAttr]) ?_
     obtain rfl := Option.some.inj hm0
     simp only [e2, e6, xof, ↓EVd, isCall, sevalprocAttr]
     all_goals first | done | rfl
   obtain rfl := Option.some.inj hm0
   simp only [e2, e6, xof, ↓EVd, isCall, sevalprocAttr]
   all_goals first | done | rfl
 obtain rfl := Option.some.inj hm0
 simp only [e2, xof, ↓EVd, isCall, sevalprocAttr]
 all_goals first | done | rfl
end Go.Proofs.YtfkgckbdknpcnaaGreatDoor.AL

