/- What any node of any stack should say of copies, and which say otherwise, is what the document says: part 43 of 51. -/
import Derived.Test.YtfefidkblgendaaGreatDoorA42
set_option linter.all false
/- Models of functions, and that the functions are as their models: written by gen.py. -/
set_option linter.all false
set_option maxRecDepth 100000
namespace Go.Proofs.YtfefidkblgendaaGreatDoor.AL
open Go Go.Proofs
def xze (a0 : Node) : Option (Bool) := if a0.kind = 1 then if 0 ≤ a0.attr.has then if (bAnd .i64 a0.attr.has 1) = 0 then some false
 else if a0.attr.opaque0 = 121 then some true
 else some false
 else some false
 else some false
def xkh := aI (aI (aI (@EV) (@R3)) (aI (@R69) (@R71))) (aI (aI (@DOrigin) (@DAttr)) (aI (@DNode) (@DEntry)))
set_option maxHeartbeats 2000000 in
theorem xcm (a0 : Node) (r : Bool) (hm0 : xze a0 = some r) : Ok Tryz.prog 89 [xo a0] (bool r) := by
 unfold xze at hm0
 refine okG xh0 ?_
 unfold xws
 rcases iteE hm0 with ⟨e2, hm0⟩ | ⟨e2, hm0⟩
 · rcases iteE hm0 with ⟨e4, hm0⟩ | ⟨e4, hm0⟩
   · rcases iteE hm0 with ⟨e6, hm0⟩ | ⟨e6, hm0⟩
     · obtain rfl := Option.some.inj hm0
       simp only [e2, e4, e6, xkh, ↓EVd, isCall, sevalprocAttr]
       all_goals first | done | rfl
     rcases iteE hm0 with ⟨e8, hm0⟩ | ⟨e8, hm0⟩
     · obtain rfl := Option.some.inj hm0
       simp only [e2, e4, e6, e8, xkh, ↓EVd, isCall, sevalprocAttr]
       all_goals first | done | rfl
     obtain rfl := Option.some.inj hm0
     simp only [e2, e4, e6, e8, xkh, ↓EVd, isCall, sevalprocAttr]
     all_goals first | done | rfl
   obtain rfl := Option.some.inj hm0
   simp only [e2, e4, xkh, ↓EVd, isCall, sevalprocAttr]
   all_goals first | done | rfl
 obtain rfl := Option.some.inj hm0
 simp only [e2, xkh, ↓EVd, isCall, sevalprocAttr]
 all_goals first | done | rfl
def x0b (a0 : Stack) (a1 : Int) : Option (Node) := if a1 < 1 then some (⟨0, 0, 0, 0, [], [], (⟨0, 0, xl, (⟨0, 0, 0⟩ : Origin), 0⟩ : Attr)⟩ : Node)
 else if (a0.upper.nodes.length : Int) < a1 then some (⟨0, 0, 0, 0, [], [], (⟨0, 0, xl, (⟨0, 0, 0⟩ : Origin), 0⟩ : Attr)⟩ : Node)
 else (ix a0.upper.nodes (wr (a1 - 1))).bind fun v5 => some v5
def xsj := aI (aI (aI (@EV) (aI (@R3) (@R24))) (aI (@R26) (aI (@R29) (@R71)))) (aI (aI (@R73) (aI (@DBranch) (@DStack))) (aI (aI (@DOrigin) (@DAttr)) (aI (@DNode) (@DEntry))))
set_option maxHeartbeats 2000000 in
theorem xke (a0 : Stack) (a1 : Int) (r : Node) (hm0 : x0b a0 a1 = some r) : Ok Tryz.prog 32 [xf a0, int a1] (xo r) := by
 unfold x0b at hm0
 refine okG x0t ?_
 unfold x7n
 rcases iteE hm0 with ⟨e2, hm0⟩ | ⟨e2, hm0⟩
 · obtain rfl := Option.some.inj hm0
   simp only [e2, xsj, ↓EVd, isCall, sevalprocAttr]
   all_goals first | done | rfl | exact xb (by simp only [CLO]) | exact xe (by simp only [CLO]) (Sub.agg (Subs.cons (Sub.refl _) (Subs.cons (Sub.refl _) (Subs.cons (Sub.refl _) (Subs.cons (Sub.refl _) (Subs.cons (Sub.nilS _) (Subs.cons (Sub.nilS _) (Subs.cons (Sub.refl _) (Subs.cons (Sub.refl _) (Subs.cons (Sub.refl _) (Subs.cons (Sub.refl _) (Subs.cons (Sub.refl _) (Subs.cons (Sub.refl _) (Subs.cons (Sub.refl _) (Subs.nil)))))))))))))))
 rcases iteE hm0 with ⟨e4, hm0⟩ | ⟨e4, hm0⟩
 · obtain rfl := Option.some.inj hm0
   simp only [e2, e4, xsj, ↓EVd, isCall, sevalprocAttr]
   all_goals first | done | rfl | exact xb (by simp only [CLO]) | exact xe (by simp only [CLO]) (Sub.agg (Subs.cons (Sub.refl _) (Subs.cons (Sub.refl _) (Subs.cons (Sub.refl _) (Subs.cons (Sub.refl _) (Subs.cons (Sub.nilS _) (Subs.cons (Sub.nilS _) (Subs.cons (Sub.refl _) (Subs.cons (Sub.refl _) (Subs.cons (Sub.refl _) (Subs.cons (Sub.refl _) (Subs.cons (Sub.refl _) (Subs.cons (Sub.refl _) (Subs.cons (Sub.refl _) (Subs.nil)))))))))))))))
 obtain ⟨v5, e7, hm0⟩ := ixE xo hm0
 obtain rfl := Option.some.inj hm0
 simp only [e2, e4, e7, xsj, ↓EVd, isCall, sevalprocAttr]
 all_goals first | done | rfl | exact xb (by simp only [CLO])
def x2j (a0 : Stack) : Option (View) := (x0b (⟨(⟨a0.geo.lowers, a0.geo.inodes, a0.geo.blocks, a0.geo.log⟩ : Geo), (⟨a0.upper.nodes⟩ : Branch), a0.lowers⟩ : Stack) 1).bind fun v2 => if v2.kind = 1 then (xze v2).bind fun v6 => if (!v6) = true then (xxe a0).bind fun v10 => some (⟨1, v10⟩ : View)
 else some (⟨1, []⟩ : View)
 else (xze v2).bind fun v12 => if (!v12) = true then (xxe a0).bind fun v16 => some (⟨0, v16⟩ : View)
 else some (⟨0, []⟩ : View)
def xce := aI (aI (aI (aI (@EV) (@R3)) (aI (@R29) (@R40))) (aI (aI (@R42) (@R44)) (aI (@R71) (@R73)))) (aI (aI (aI (@DBranch) (@DStack)) (aI (@DView) (@DPlace))) (aI (aI (@DOrigin) (@DAttr)) (aI (@DNode) (@DEntry))))
set_option maxHeartbeats 2000000 in
theorem x34 (a0 : Stack) (r : View) (hm0 : x2j a0 = some r) : Ok Tryz.prog 60 [xf a0] (xn r) := by
 unfold x2j at hm0
 refine okG xn4 ?_
 unfold x8w
 have e1 : (.agg [int a0.geo.lowers, int a0.geo.inodes, int a0.geo.blocks, int a0.geo.log, .sl 13 (a0.upper.nodes.map xo), .sl 1 (a0.lowers.map xcb)] : AV) = xf (⟨(⟨a0.geo.lowers, a0.geo.inodes, a0.geo.blocks, a0.geo.log⟩ : Geo), (⟨a0.upper.nodes⟩ : Branch), a0.lowers⟩ : Stack) := _root_.id rfl
 obtain ⟨v2, h3, hm0⟩ := bsE hm0
 simp only [e1, xce, ↓EVd, isCall, sevalprocAttr]
 refine qc (xke _ _ _ h3) rfl ?_
 rcases iteE hm0 with ⟨e5, hm0⟩ | ⟨e5, hm0⟩
 · obtain ⟨v6, h7, hm0⟩ := bsE hm0
   simp only [e1, e5, xce, ↓EVd, isCall, sevalprocAttr]
   refine qc (xcm _ _ h7) rfl ?_
   rcases itbE hm0 with ⟨e9, hm0⟩ | ⟨e9, hm0⟩
   · obtain ⟨v10, h11, hm0⟩ := bsE hm0
     simp only [e1, e5, e9, xce, ↓EVd, isCall, sevalprocAttr]
     refine qc (x3l _ _ h11) rfl ?_
     obtain rfl := Option.some.inj hm0
     simp only [e1, e5, e9, xce, ↓EVd, isCall, sevalprocAttr]
     all_goals first | done | rfl | exact xb (by simp only [CLO]) | exact xe (by simp only [CLO]) (Sub.agg (Subs.cons (Sub.refl _) (Subs.cons (Sub.refl _) (Subs.nil))))
   obtain rfl := Option.some.inj hm0
   simp only [e1, e5, e9, xce, ↓EVd, isCall, sevalprocAttr]
   all_goals first | done | rfl | exact xb (by simp only [CLO]) | exact xe (by simp only [CLO]) (Sub.agg (Subs.cons (Sub.refl _) (Subs.cons (Sub.nilS _) (Subs.nil))))
 obtain ⟨v12, h13, hm0⟩ := bsE hm0
 simp only [e1, e5, xce, ↓EVd, isCall, sevalprocAttr]
 refine qc (xcm _ _ h13) rfl ?_
 rcases itbE hm0 with ⟨e15, hm0⟩ | ⟨e15, hm0⟩
 · obtain ⟨v16, h17, hm0⟩ := bsE hm0
   simp only [e1, e5, e15, xce, ↓EVd, isCall, sevalprocAttr]
   refine qc (x3l _ _ h17) rfl ?_
   obtain rfl := Option.some.inj hm0
   simp only [e1, e5, e15, xce, ↓EVd, isCall, sevalprocAttr]
   all_goals first | done | rfl | exact xb (by simp only [CLO]) | exact xe (by simp only [CLO]) (Sub.agg (Subs.cons (Sub.refl _) (Subs.cons (Sub.refl _) (Subs.nil))))
 obtain rfl := Option.some.inj hm0
 simp only [e1, e5, e15, xce, ↓EVd, isCall, sevalprocAttr]
 all_goals first | done | rfl | exact xb (by simp only [CLO]) | exact xe (by simp only [CLO]) (Sub.agg (Subs.cons (Sub.refl _) (Subs.cons (Sub.nilS _) (Subs.nil))))
def x6c (a0 : Stack) (a1 : List Place) (a2 : ByteArray) : Option (List Place) := (xhe a0 a1 a2).bind fun v1 => if v1.1 = 1 then some v1.2
 else some []
def xqj := aI (aI (aI (@EV) (aI (@R3) (@R9))) (aI (aI (@R29) (@R40)) (aI (@R44) (@R73)))) (aI (aI (@DBranch) (aI (@DStack) (@DPlace))) (aI (aI (@DOrigin) (@DAttr)) (aI (@DNode) (@DEntry))))
set_option maxHeartbeats 2000000 in
theorem xei (a0 : Stack) (a1 : List Place) (a2 : ByteArray) (r : List Place) (hm0 : x6c a0 a1 a2 = some r) : Ok Tryz.prog 93 [xf a0, .sl 2 (a1.map xc), str a2] (.sl 2 (r.map xc)) := by
 unfold x6c at hm0
 refine okG xhv ?_
 unfold x5n
 obtain ⟨v1, h2, hm0⟩ := bsE hm0
 simp only [xqj, ↓EVd, isCall, sevalprocAttr]
 refine qc (x6j _ _ _ _ h2) rfl ?_
 rcases iteE hm0 with ⟨e4, hm0⟩ | ⟨e4, hm0⟩
 · obtain rfl := Option.some.inj hm0
   simp only [e4, xqj, ↓EVd, isCall, sevalprocAttr]
   all_goals first | done | rfl | exact xb (by simp only [CLO])
 obtain rfl := Option.some.inj hm0
 simp only [e4, xqj, ↓EVd, isCall, sevalprocAttr]
 all_goals first | done | rfl | exact xe (by simp only [CLO]) (Sub.nilS _)
def x0e (a0 : Stack) (a1 : View) (a2 : Node) (a3 : ByteArray) : Option (List Place) := if a2.kind = 1 then (xze a2).bind fun v3 => if v3 = true then some []
 else if a2.attr.has < 0 then (x6c a0 a1.lower a3).bind fun v9 => some v9
 else if (bAnd .i64 a2.attr.has 2) = 0 then (x6c a0 a1.lower a3).bind fun v13 => some v13
 else (xld a2.attr.redirect).bind fun v15 => if (!v15.2.2) = true then some []
 else if v15.2.1 = true then (xxe a0).bind fun v21 => (xai a0 v21 v15.1).bind fun v23 => some v23.1
 else (ix v15.1 0).bind fun v25 => (x6c a0 a1.lower v25).bind fun v28 => some v28
 else some []
def xnb := aI (aI (aI (aI (@EV) (@R3)) (aI (@R9) (aI (@R29) (@R31)))) (aI (aI (@R40) (@R42)) (aI (@R44) (aI (@R69) (@R71))))) (aI (aI (aI (@R73) (@DBranch)) (aI (@DStack) (aI (@DView) (@DPlace)))) (aI (aI (@DOrigin) (@DAttr)) (aI (@DNode) (aI (@DEntry) (@mixed)))))
set_option maxHeartbeats 2000000 in
theorem xdu (a0 : Stack) (a1 : View) (a2 : Node) (a3 : ByteArray) (r : List Place) (hm0 : x0e a0 a1 a2 a3 = some r) : Ok Tryz.prog 62 [xf a0, xn a1, xo a2, str a3] (.sl 2 (r.map xc)) := by
 unfold x0e at hm0
 refine okG xpv ?_
 unfold x6n
 rcases iteE hm0 with ⟨e2, hm0⟩ | ⟨e2, hm0⟩
 · obtain ⟨v3, h4, hm0⟩ := bsE hm0
   simp only [e2, xnb, ↓EVd, isCall, sevalprocAttr]
   refine qc (xcm _ _ h4) rfl ?_
   rcases itbE hm0 with ⟨e6, hm0⟩ | ⟨e6, hm0⟩
   · obtain rfl := Option.some.inj hm0
     simp only [e2, e6, xnb, ↓EVd, isCall, sevalprocAttr]
     all_goals first | done | rfl | exact xe (by simp only [CLO]) (Sub.nilS _)
   rcases iteE hm0 with ⟨e8, hm0⟩ | ⟨e8, hm0⟩
   · obtain ⟨v9, h10, hm0⟩ := bsE hm0
     simp only [e2, e6, e8, xnb, ↓EVd, isCall, sevalprocAttr]
     refine qc (xei _ _ _ _ h10) rfl ?_
     obtain rfl := Option.some.inj hm0
     simp only [e2, e6, e8, xnb, ↓EVd, isCall, sevalprocAttr]
     all_goals first | done | rfl | exact xb (by simp only [CLO])
   rcases iteE hm0 with ⟨e12, hm0⟩ | ⟨e12, hm0⟩
   · obtain ⟨v13, h14, hm0⟩ := bsE hm0
     simp only [e2, e6, e8, e12, xnb, ↓EVd, isCall, sevalprocAttr]
     refine qc (xei _ _ _ _ h14) rfl ?_
     obtain rfl := Option.some.inj hm0
     simp only [e2, e6, e8, e12, xnb, ↓EVd, isCall, sevalprocAttr]
     all_goals first | done | rfl | exact xb (by simp only [CLO])
   obtain ⟨v15, h16, hm0⟩ := bsE hm0
   simp only [e2, e6, e8, e12, xnb, ↓EVd, isCall, sevalprocAttr]
   refine qc (xxx _ _ h16) rfl ?_
   rcases itbE hm0 with ⟨e18, hm0⟩ | ⟨e18, hm0⟩
   · obtain rfl := Option.some.inj hm0
     simp only [e2, e6, e8, e12, e18, xnb, ↓EVd, isCall, sevalprocAttr]
     all_goals first | done | rfl | exact xe (by simp only [CLO]) (Sub.nilS _)
   rcases itbE hm0 with ⟨e20, hm0⟩ | ⟨e20, hm0⟩
   · obtain ⟨v21, h22, hm0⟩ := bsE hm0
     simp only [e2, e6, e8, e12, e18, e20, xnb, ↓EVd, isCall, sevalprocAttr]
     refine qd (x3l _ _ h22) rfl ?_
     obtain ⟨v23, h24, hm0⟩ := bsE hm0
     simp only [e2, e6, e8, e12, e18, e20, xnb, ↓EVd, isCall, sevalprocAttr]
     refine qd (xu2 _ _ _ _ h24) rfl ?_
     obtain rfl := Option.some.inj hm0
     simp only [e2, e6, e8, e12, e18, e20, xnb, ↓EVd, isCall, sevalprocAttr]
     all_goals first | done | rfl | exact xb (by simp only [CLO])
   obtain ⟨v25, e27, hm0⟩ := ixE str hm0
   try simp only [sevalprocAttr, eq_self, true_and] at e27
   obtain ⟨v28, h29, hm0⟩ := bsE hm0
   simp only [e2, e6, e8, e12, e18, e20, e27, xnb, ↓EVd, isCall, sevalprocAttr]
   refine qd (xei _ _ _ _ h29) rfl ?_
   obtain rfl := Option.some.inj hm0
   simp only [e2, e6, e8, e12, e18, e20, e27, xnb, ↓EVd, isCall, sevalprocAttr]
   all_goals first | done | rfl | exact xb (by simp only [CLO])
 obtain rfl := Option.some.inj hm0
 simp only [e2, xnb, ↓EVd, isCall, sevalprocAttr]
 all_goals first | done | rfl | exact xe (by simp only [CLO]) (Sub.nilS _)
def x2c (a0 : Entry) (a1 : ByteArray) (a2 : Stack) : Option (Bool) := if a0.name = a1 then (x0b a2 a0.ino).bind fun v3 => if v3.kind = 0 then some false
 else some true
 else some false
def x2e := aI (aI (aI (@EV) (aI (@R3) (@R9))) (aI (@R71) (aI (@R73) (@R76)))) (aI (aI (@DBranch) (aI (@DStack) (@DOrigin))) (aI (@DAttr) (aI (@DNode) (@DEntry))))
set_option maxHeartbeats 2000000 in
theorem xdr (a0 : Entry) (a1 : ByteArray) (a2 : Stack) (r : Bool) (hm0 : x2c a0 a1 a2 = some r) : Ok Tryz.prog 92 [xab a0, .ptr (str a1) 0, .ptr (xf a2) 0] (bool r) := by
 unfold x2c at hm0
 refine okG xvq ?_
 unfold xpl
 rcases iteE hm0 with ⟨e2, hm0⟩ | ⟨e2, hm0⟩
 · obtain ⟨v3, h4, hm0⟩ := bsE hm0
   simp only [e2, x2e, ↓EVd, isCall, sevalprocAttr]
   refine qc (xke _ _ _ h4) rfl ?_
   rcases iteE hm0 with ⟨e6, hm0⟩ | ⟨e6, hm0⟩
   · obtain rfl := Option.some.inj hm0
     simp only [e2, e6, x2e, ↓EVd, isCall, sevalprocAttr]
     all_goals first | done | rfl
   obtain rfl := Option.some.inj hm0
   simp only [e2, e6, x2e, ↓EVd, isCall, sevalprocAttr]
   all_goals first | done | rfl
 obtain rfl := Option.some.inj hm0
 simp only [e2, x2e, ↓EVd, isCall, sevalprocAttr]
 all_goals first | done | rfl
def xle (a0 : Stack) (a1 : View) (a2 : ByteArray) : Option (Int) := (x0b a0 a1.upper).bind fun v1 => if v1.kind = 1 then (indexM (fun z => x2c z a2 a0) v1.entries).bind fun v5 => if v5 < 0 then some 0
 else (ix v1.entries v5).bind fun v9 => some v9.ino
 else some 0
def xwc := aI (aI (aI (aI (@EV) (@R3)) (aI (@R9) (@R42))) (aI (aI (@R65) (@R71)) (aI (@R73) (@R76)))) (aI (aI (aI (@DBranch) (@DStack)) (aI (@DView) (@DPlace))) (aI (aI (@DOrigin) (@DAttr)) (aI (@DNode) (@DEntry))))
set_option maxHeartbeats 2000000 in
theorem xjt (a0 : Stack) (a1 : View) (a2 : ByteArray) (r : Int) (hm0 : xle a0 a1 a2 = some r) : Ok Tryz.prog 61 [xf a0, xn a1, str a2] (int r) := by
 unfold xle at hm0
 refine okG xot ?_
 unfold xyn
 obtain ⟨v1, h2, hm0⟩ := bsE hm0
 simp only [xwc, ↓EVd, isCall, sevalprocAttr]
 refine qc (xke _ _ _ h2) rfl ?_
 rcases iteE hm0 with ⟨e4, hm0⟩ | ⟨e4, hm0⟩
 · obtain ⟨v5, h6, hm0⟩ := bsE hm0
   simp only [e4, xwc, ↓EVd, isCall, sevalprocAttr]
   refine qcb (xj2 xzd xfo xam (fi := []) (ca := [.ptr (str a2) 0, .ptr (xf a0) 0]) xab v1.entries (fun z => x2c z a2 a0) _ h6 (fun z b hz => xdr z a2 a0 b hz) (fun z => xbj rfl (xbj (by simp only [CLO]) (by simp only [CLO]))) (fun z => by simp only [xwc, ↓EVd, isCall, sevalprocAttr])) rfl (by simp only [e4, FZ, CLO, xwc, ↓EVd, isCall, sevalprocAttr]) ?_
   rcases iteE hm0 with ⟨e8, hm0⟩ | ⟨e8, hm0⟩
   · obtain rfl := Option.some.inj hm0
     simp only [e4, e8, xwc, ↓EVd, isCall, sevalprocAttr]
     all_goals first | done | rfl
   obtain ⟨v9, e11, hm0⟩ := ixE xab hm0
   obtain rfl := Option.some.inj hm0
   simp only [e4, e8, e11, xwc, ↓EVd, isCall, sevalprocAttr]
   all_goals first | done | rfl
 obtain rfl := Option.some.inj hm0
 simp only [e4, xwc, ↓EVd, isCall, sevalprocAttr]
 all_goals first | done | rfl
def xfg (a0 : Stack) (a1 : View) (a2 : ByteArray) : Option (Int × View × Place) := (xle (⟨(⟨a0.geo.lowers, a0.geo.inodes, a0.geo.blocks, a0.geo.log⟩ : Geo), (⟨a0.upper.nodes⟩ : Branch), a0.lowers⟩ : Stack) a1 a2).bind fun v2 => if 0 < v2 then (x0b (⟨(⟨a0.geo.lowers, a0.geo.inodes, a0.geo.blocks, a0.geo.log⟩ : Geo), (⟨a0.upper.nodes⟩ : Branch), a0.lowers⟩ : Stack) v2).bind fun v6 => if v6.kind = 1 then (x0e (⟨(⟨a0.geo.lowers, a0.geo.inodes, a0.geo.blocks, a0.geo.log⟩ : Geo), (⟨a0.upper.nodes⟩ : Branch), a0.lowers⟩ : Stack) a1 v6 a2).bind fun v10 => some (1, (⟨v2, v10⟩ : View), (⟨0, v2⟩ : Place))
 else if v6.kind = 2 then some (v6.kind, (⟨0, []⟩ : View), (⟨0, v2⟩ : Place))
 else if v6.kind = 3 then some (v6.kind, (⟨0, []⟩ : View), (⟨0, v2⟩ : Place))
 else some (0, (⟨0, []⟩ : View), (⟨0, 0⟩ : Place))
 else (xhe a0 a1.lower a2).bind fun v21 => if v21.1 = 0 then some (0, (⟨0, []⟩ : View), (⟨0, 0⟩ : Place))
 else if v21.1 = 1 then (ix v21.2 0).bind fun v29 => some (v21.1, (⟨0, v21.2⟩ : View), v29)
 else (ix v21.2 0).bind fun v32 => some (v21.1, (⟨0, []⟩ : View), v32)
def xqc := aI (aI (aI (aI (@EV) (@R3)) (aI (@R9) (@R29))) (aI (aI (@R40) (@R42)) (aI (@R44) (aI (@R71) (@R73))))) (aI (aI (aI (@DBranch) (@DStack)) (aI (@DView) (@DPlace))) (aI (aI (@DOrigin) (@DAttr)) (aI (@DNode) (aI (@DEntry) (@mixed)))))
set_option maxHeartbeats 2000000 in
theorem xwu (a0 : Stack) (a1 : View) (a2 : ByteArray) (r : Int × View × Place) (hm0 : xfg a0 a1 a2 = some r) : Ok Tryz.prog 30 [xf a0, xn a1, str a2] (.tup [int r.1, xn r.2.1, xc r.2.2]) := by
 unfold xfg at hm0
 refine okG x43 ?_
 unfold x5w
 have e1 : (.agg [int a0.geo.lowers, int a0.geo.inodes, int a0.geo.blocks, int a0.geo.log, .sl 13 (a0.upper.nodes.map xo), .sl 1 (a0.lowers.map xcb)] : AV) = xf (⟨(⟨a0.geo.lowers, a0.geo.inodes, a0.geo.blocks, a0.geo.log⟩ : Geo), (⟨a0.upper.nodes⟩ : Branch), a0.lowers⟩ : Stack) := _root_.id rfl
 obtain ⟨v2, h3, hm0⟩ := bsE hm0
 simp only [e1, xqc, ↓EVd, isCall, sevalprocAttr]
 refine qc (xjt _ _ _ _ h3) rfl ?_
 rcases iteE hm0 with ⟨e5, hm0⟩ | ⟨e5, hm0⟩
 · obtain ⟨v6, h7, hm0⟩ := bsE hm0
   simp only [e1, e5, xqc, ↓EVd, isCall, sevalprocAttr]
   refine qc (xke _ _ _ h7) rfl ?_
   rcases iteE hm0 with ⟨e9, hm0⟩ | ⟨e9, hm0⟩
   · obtain ⟨v10, h11, hm0⟩ := bsE hm0
     simp only [e1, e5, e9, xqc, ↓EVd, isCall, sevalprocAttr]
     refine qc (xdu _ _ _ _ _ h11) rfl ?_
     have e12 : (.agg [int v2, .sl 2 (v10.map xc)] : AV) = xn (⟨v2, v10⟩ : View) := _root_.id rfl
     have e13 : (.agg [int 0, int v2] : AV) = xc (⟨0, v2⟩ : Place) := _root_.id rfl
     obtain rfl := Option.some.inj hm0
     simp only [e1, e5, e9, e12, e13, xqc, ↓EVd, isCall, sevalprocAttr]
     all_goals first | done | rfl | exact xb (by simp only [CLO]) | exact xe (by simp only [CLO]) (Sub.tup (Subs.cons (Sub.refl _) (Subs.cons (Sub.refl _) (Subs.cons (Sub.refl _) (Subs.nil)))))
   rcases iteE hm0 with ⟨e15, hm0⟩ | ⟨e15, hm0⟩
   · have e16 : (.agg [int 0, int v2] : AV) = xc (⟨0, v2⟩ : Place) := _root_.id rfl
     obtain rfl := Option.some.inj hm0
     simp only [e1, e5, e9, e15, e16, xqc, ↓EVd, isCall, sevalprocAttr]
     all_goals first | done | rfl | exact xb (by simp only [CLO]) | exact xe (by simp only [CLO]) (Sub.tup (Subs.cons (Sub.refl _) (Subs.cons (Sub.agg (Subs.cons (Sub.refl _) (Subs.cons (Sub.nilS _) (Subs.nil)))) (Subs.cons (Sub.refl _) (Subs.nil)))))
   rcases iteE hm0 with ⟨e18, hm0⟩ | ⟨e18, hm0⟩
   · have e19 : (.agg [int 0, int v2] : AV) = xc (⟨0, v2⟩ : Place) := _root_.id rfl
     obtain rfl := Option.some.inj hm0
     simp only [e1, e5, e9, e15, e18, e19, xqc, ↓EVd, isCall, sevalprocAttr]
     all_goals first | done | rfl | exact xb (by simp only [CLO]) | exact xe (by simp only [CLO]) (Sub.tup (Subs.cons (Sub.refl _) (Subs.cons (Sub.agg (Subs.cons (Sub.refl _) (Subs.cons (Sub.nilS _) (Subs.nil)))) (Subs.cons (Sub.refl _) (Subs.nil)))))
   have e20 : (.agg [int 0, int 0] : AV) = xc (⟨0, 0⟩ : Place) := _root_.id rfl
   obtain rfl := Option.some.inj hm0
   simp only [e1, e5, e9, e15, e18, e20, xqc, ↓EVd, isCall, sevalprocAttr]
   all_goals first | done | rfl | exact xb (by simp only [CLO]) | exact xe (by simp only [CLO]) (Sub.tup (Subs.cons (Sub.refl _) (Subs.cons (Sub.agg (Subs.cons (Sub.refl _) (Subs.cons (Sub.nilS _) (Subs.nil)))) (Subs.cons (Sub.refl _) (Subs.nil)))))
 obtain ⟨v21, h22, hm0⟩ := bsE hm0
 simp only [e1, e5, xqc, ↓EVd, isCall, sevalprocAttr]
 refine qc (x6j _ _ _ _ h22) rfl ?_
 rcases iteE hm0 with ⟨e24, hm0⟩ | ⟨e24, hm0⟩
 · have e25 : (.agg [int 0, int 0] : AV) = xc (⟨0, 0⟩ : Place) := _root_.id rfl
   obtain rfl := Option.some.inj hm0
   simp only [e1, e5, e24, e25, xqc, ↓EVd, isCall, sevalprocAttr]
   all_goals first | done | rfl | exact xb (by simp only [CLO]) | exact xe (by simp only [CLO]) (Sub.tup (Subs.cons (Sub.refl _) (Subs.cons (Sub.agg (Subs.cons (Sub.refl _) (Subs.cons (Sub.nilS _) (Subs.nil)))) (Subs.cons (Sub.refl _) (Subs.nil)))))
 rcases iteE hm0 with ⟨e27, hm0⟩ | ⟨e27, hm0⟩
 · simp only [e1, e5, e24, e27, xqc, ↓EVd, isCall, sevalprocAttr]
   refine fineI [([], []), ([], []), ([], []), ([], []), ([], []), ([], []), ([], []), ([], [3]), ([], [4])] rfl (by simp only [MT, sevalprocAttr]; first | done | omega) ?_
   have e28 : (.agg [int 0, .sl 2 (v21.2.map xc)] : AV) = xn (⟨0, v21.2⟩ : View) := _root_.id rfl
   obtain ⟨v29, e31, hm0⟩ := ixE xc hm0
   try simp only [sevalprocAttr, eq_self, true_and] at e31
   obtain rfl := Option.some.inj hm0
   simp only [e1, e5, e24, e27, e28, e31, xqc, ↓EVd, isCall, sevalprocAttr]
   all_goals first | done | rfl | exact xb (by simp only [CLO]) | exact xe (by simp only [CLO]) (Sub.tup (Subs.cons (Sub.refl _) (Subs.cons (Sub.refl _) (Subs.cons (Sub.refl _) (Subs.nil)))))
 simp only [e1, e5, e24, e27, xqc, ↓EVd, isCall, sevalprocAttr]
 refine fineI [([], []), ([], []), ([], []), ([], []), ([], []), ([], []), ([], [3]), ([], [4])] rfl (by simp only [MT, sevalprocAttr]; first | done | omega) ?_
 obtain ⟨v32, e34, hm0⟩ := ixE xc hm0
 try simp only [sevalprocAttr, eq_self, true_and] at e34
 obtain rfl := Option.some.inj hm0
 simp only [e1, e5, e24, e27, e34, xqc, ↓EVd, isCall, sevalprocAttr]
 all_goals first | done | rfl | exact xb (by simp only [CLO]) | exact xe (by simp only [CLO]) (Sub.tup (Subs.cons (Sub.refl _) (Subs.cons (Sub.agg (Subs.cons (Sub.refl _) (Subs.cons (Sub.nilS _) (Subs.nil)))) (Subs.cons (Sub.refl _) (Subs.nil)))))
def xhc (a0 : ByteArray) (a1 : Stack) (a2 : View) : Option (Bool) := (xfg a1 a2 a0).bind fun v1 => if v1.1 = 0 then some true
 else some false
def xhm := aI (aI (aI (@EV) (aI (@R3) (@R9))) (aI (aI (@R29) (@R42)) (aI (@R44) (@DBranch)))) (aI (aI (@DStack) (aI (@DView) (@DPlace))) (aI (aI (@DOrigin) (@DAttr)) (aI (@DNode) (@DEntry))))
set_option maxHeartbeats 2000000 in
theorem xeq (a0 : ByteArray) (a1 : Stack) (a2 : View) (r : Bool) (hm0 : xhc a0 a1 a2 = some r) : Ok Tryz.prog 35 [str a0, .ptr (xf a1) 0, .ptr (xn a2) 0] (bool r) := by
 unfold xhc at hm0
 refine okG xoz ?_
 unfold xwq
 obtain ⟨v1, h2, hm0⟩ := bsE hm0
 simp only [xhm, ↓EVd, isCall, sevalprocAttr]
 refine qc (xwu _ _ _ _ h2) rfl ?_
 rcases iteE hm0 with ⟨e4, hm0⟩ | ⟨e4, hm0⟩
 · obtain rfl := Option.some.inj hm0
   simp only [e4, xhm, ↓EVd, isCall, sevalprocAttr]
   all_goals first | done | rfl
 obtain rfl := Option.some.inj hm0
 simp only [e4, xhm, ↓EVd, isCall, sevalprocAttr]
 all_goals first | done | rfl
def xoq (v13 : Node) : (List ByteArray × Int) → Option (St (List ByteArray × Int) (List ByteArray))
 | (v19, v20) => if v20 < (v13.entries.length : Int) then (ix v13.entries v20).bind fun v26 => (ap 16 v19 ([v26.name] : List ByteArray)).bind fun _ => some (.nx ((v19 ++ ([v26.name] : List ByteArray)), (wr (v20 + 1))))
 else some (.out v19)
def xml (a0 : Stack) (a1 : View) : (List ByteArray × Int) → Option (St (List ByteArray × Int) (List ByteArray))
 | (v3, v4) => if v4 < (a1.lower.length : Int) then (ix a1.lower v4).bind fun v10 => (xzb a0.lowers v10).bind fun v13 => if v13.kind = 1 then (iter (xoq v13) big (v3, 0)).bind fun o => (match o with
 | v23 => some (.nx (v23, (wr (v4 + 1)))))
 else some (.nx (v3, (wr (v4 + 1))))
 else some (.out v3)
def xqe (v38 : Node) : (List ByteArray × Int) → Option (St (List ByteArray × Int) (List ByteArray))
 | (v44, v45) => if v45 < (v38.entries.length : Int) then (ix v38.entries v45).bind fun v51 => (ap 16 v44 ([v51.name] : List ByteArray)).bind fun _ => some (.nx ((v44 ++ ([v51.name] : List ByteArray)), (wr (v45 + 1))))
 else some (.out v44)
def xjf (a0 : Stack) (a1 : View) : Option (List ByteArray) := (iter (xml a0 a1) big ([], 0)).bind fun o => (match o with
 | v7 => (x0c v7).bind fun v33 => (xlg (fun z => xqd z a0 a1.lower) v33).bind fun v35 => (x0b (⟨(⟨a0.geo.lowers, a0.geo.inodes, a0.geo.blocks, a0.geo.log⟩ : Geo), (⟨a0.upper.nodes⟩ : Branch), a0.lowers⟩ : Stack) a1.upper).bind fun v38 => if v38.kind = 1 then (iter (xqe v38) big (v35, 0)).bind fun o => (match o with
 | v48 => (x0c v48).bind fun v58 => (xlg (fun z => xhc z a0 a1) v58).bind fun v60 => some v60)
 else (x0c v35).bind fun v62 => (xlg (fun z => xhc z a0 a1) v62).bind fun v64 => some v64)
def xg := aI (aI (aI (aI (@EV) (aI (@R3) (@R9))) (aI (@R26) (aI (@R27) (@R29)))) (aI (aI (@R31) (aI (@R40) (@R42))) (aI (@R44) (aI (@R65) (@R71))))) (aI (aI (aI (@R73) (aI (@R76) (@R98))) (aI (@DBranch) (aI (@DStack) (@DView)))) (aI (aI (@DPlace) (aI (@DOrigin) (@DAttr))) (aI (@DNode) (aI (@DEntry) (@mixed)))))
set_option maxHeartbeats 2000000 in
theorem x6s (a0 : Stack) (a1 : View) (r : List ByteArray) (hm0 : xjf a0 a1 = some r) : Ok Tryz.prog 13 [xf a0, xn a1] (.sl 1 (r.map str)) := by
 unfold xjf at hm0
 refine okG xi3 ?_
 unfold xbv
 simp only [xg, ↓EVd, isCall, sevalprocAttr]
 refine xyk (acallF xq0 (by simp) ?_) rfl
 unfold xss
 obtain ⟨o0, ho0, hm0⟩ := bsE hm0
 simp only [xg, ↓EVd, isCall, sevalprocAttr]
 refine cwp_cx 0 (fun s => ∃ v7 : List ByteArray, ∃ l6 : Nat, (s.T 2 = .loc 8 6 0 0 ∧ s.T 3 = .loc 9 1 0 0 ∧ s.T 6 = .msl l6 v7.length ∧ s.H 0 = some (.row 29 6 [xf a0]) ∧ s.H 1 = some (.row 42 2 [xn a1]) ∧ s.H 8 = some (.row 29 6 [xf a0]) ∧ s.H 9 = some (.row 40 1 [.sl 2 (a1.lower.map xc)]) ∧ s.H l6 = some (.row 9 1 (v7.map str)) ∧ Lq 0 s.nx ∧ Lq 1 s.nx ∧ Lq 8 s.nx ∧ Lq 9 s.nx ∧ Lq l6 s.nx ∧ Nq 0 l6 ∧ Nq 1 l6 ∧ Nq 8 l6 ∧ Nq 9 l6) ∧ v7 = o0) ?_ fun J0_0 hJ0_0 => ?_
 · rintro T0 H0 x5 ⟨v7, l6, kk0_0, rfl⟩
   dsimp only [Lq, Nq] at kk0_0
   try dsimp only at hm0
   obtain ⟨v33, h34, hm0⟩ := bsE hm0
   simp only [kk0_0, xg, ↓EVd, isCall, sevalprocAttr]
   refine qcok (x4n _ _ h34) rfl (by simp only [kk0_0, FK, CLO, xg, ↓EVd, isCall, sevalprocAttr]; first | done | rfl) ?_
   obtain ⟨v35, h36, hm0⟩ := bsE hm0
   simp only [kk0_0, xg, ↓EVd, isCall, sevalprocAttr]
   refine qdel1i x5c xjc xsc aggN_9 zero_9 (by simp only [xg, ↓EVd, isCall, sevalprocAttr]) str _ (fun z => xqd z a0 a1.lower) _ h36 (fun z b hz => x7x z a0 a1.lower b hz) (fun z => by simp only [CLO]) (by simp only [CLO]) (fun z => by simp only [xg, ↓EVd, isCall, sevalprocAttr]) (fun z w => by simp only [xg, ↓EVd, isCall, sevalprocAttr]) (fun z => by simp only [xg, ↓EVd, isCall, sevalprocAttr]) (fun z => by simp only [xg, ↓EVd, isCall, sevalprocAttr]) rfl (by simp only [kk0_0, FZ, CLO, xg, ↓EVd, isCall, sevalprocAttr]) (by simp only [kk0_0, FZ, CLO, xg, ↓EVd, isCall, sevalprocAttr]) (fun H9 hc9 => by simp only [kk0_0, hc9, FZ, CLO, xg, ↓EVd, isCall, sevalprocAttr]) ?_
   have e37 : (.agg [int a0.geo.lowers, int a0.geo.inodes, int a0.geo.blocks, int a0.geo.log, .sl 13 (a0.upper.nodes.map xo), .sl 1 (a0.lowers.map xcb)] : AV) = xf (⟨(⟨a0.geo.lowers, a0.geo.inodes, a0.geo.blocks, a0.geo.log⟩ : Geo), (⟨a0.upper.nodes⟩ : Branch), a0.lowers⟩ : Stack) := _root_.id rfl
   obtain ⟨v38, h39, hm0⟩ := bsE hm0
   simp only [kk0_0, e37, xg, ↓EVd, isCall, sevalprocAttr]
   refine qc (xke _ _ _ h39) rfl ?_
   rcases iteE hm0 with ⟨e41, hm0⟩ | ⟨e41, hm0⟩
   · obtain ⟨o2, ho2, hm0⟩ := bsE hm0
     simp only [kk0_0, e37, e41, xg, ↓EVd, isCall, sevalprocAttr]
     refine cwp_cx 0 (fun s => ∃ v48 : List ByteArray, ∃ l47 : Nat, (s.T 2 = .loc 0 6 0 0 ∧ s.T 3 = .loc 1 2 0 0 ∧ s.T 5 = .msl l47 v48.length ∧ s.H 0 = some (.row 29 6 [xf a0]) ∧ s.H 1 = some (.row 42 2 [xn a1]) ∧ s.H l47 = some (.row 9 1 (v48.map str)) ∧ Lq 0 s.nx ∧ Lq 1 s.nx ∧ Lq l47 s.nx ∧ Nq 0 l47 ∧ Nq 1 l47) ∧ v48 = o2) ?_ fun J2_0 hJ2_0 => ?_
     · rintro T2 H2 x46 ⟨v48, l47, kk2_0, rfl⟩
       dsimp only [Lq, Nq] at kk2_0
       try dsimp only at hm0
       obtain ⟨v58, h59, hm0⟩ := bsE hm0
       simp only [kk2_0, kk0_0, e37, e41, xg, ↓EVd, isCall, sevalprocAttr]
       refine qcok (x4n _ _ h59) rfl (by simp only [kk2_0, kk0_0, e37, e41, FK, CLO, xg, ↓EVd, isCall, sevalprocAttr]; first | done | rfl) ?_
       obtain ⟨v60, h61, hm0⟩ := bsE hm0
       simp only [kk2_0, kk0_0, e37, e41, xg, ↓EVd, isCall, sevalprocAttr]
       refine qdel1 x5c xjc xsc aggN_9 zero_9 (by simp only [xg, ↓EVd, isCall, sevalprocAttr]) str _ (fun z => xhc z a0 a1) _ h61 (fun z b hz => xeq z a0 a1 b hz) (fun z => by simp only [CLO]) (by simp only [CLO]) (fun z => by simp only [xg, ↓EVd, isCall, sevalprocAttr]) (fun z w => by simp only [xg, ↓EVd, isCall, sevalprocAttr]) (fun z => by simp only [xg, ↓EVd, isCall, sevalprocAttr]) (fun z => by simp only [xg, ↓EVd, isCall, sevalprocAttr]) rfl (by simp only [kk2_0, kk0_0, e37, e41, FZ, CLO, xg, ↓EVd, isCall, sevalprocAttr]) (by simp only [kk2_0, kk0_0, e37, e41, FZ, CLO, xg, ↓EVd, isCall, sevalprocAttr]) (fun H9 hc9 => by simp only [kk2_0, kk0_0, e37, e41, hc9, FZ, CLO, xg, ↓EVd, isCall, sevalprocAttr]) ?_
       obtain rfl := Option.some.inj hm0
       simp only [kk2_0, kk0_0, e37, e41, xg, ↓EVd, isCall, sevalprocAttr]
       all_goals first | done | rfl | exact xb (by simp only [CLO])
     refine cwp_lp ho2 (fun (v44, v45) s => ∃ l43 : Nat, s.T 2 = .loc 0 6 0 0 ∧ s.T 3 = .loc 1 2 0 0 ∧ s.T 5 = .msl l43 v44.length ∧ s.T 22 = .sl 3 (v38.entries.map xab) ∧ s.T 23 = int (v38.entries.length : Int) ∧ s.T 24 = int v45 ∧ s.H 0 = some (.row 29 6 [xf a0]) ∧ s.H 1 = some (.row 42 2 [xn a1]) ∧ s.H l43 = some (.row 9 1 (v44.map str)) ∧ Lq 0 s.nx ∧ Lq 1 s.nx ∧ Lq l43 s.nx ∧ Nq 0 l43 ∧ Nq 1 l43) ?_ ?_
     · refine TI.here ⟨(x5 + 5), ?_, ?_, ?_, ?_, ?_, ?_, ?_, ?_, ?_, ?_, ?_, ?_, ?_, ?_⟩
       all_goals try simp only [kk0_0, e37, e41, xg, ↓EVd, isCall, sevalprocAttr]
       all_goals first | omega | exact lq (by omega) | exact nq (by omega) | rfl | (congr 1; omega)
     rintro I2 ⟨v44, v45⟩ T2 H2 x42 st2 ⟨l43, kk2⟩ hm1 hI2 hO2
     dsimp only [Lq, Nq] at kk2
     simp only [xqe] at hm1
     rcases iteE hm1 with ⟨e50, hm1⟩ | ⟨e50, hm1⟩
     · obtain ⟨v51, e53, hm1⟩ := ixE xab hm1
       obtain ⟨e56, hm1⟩ := apE hm1
       try simp only [ZL] at e56
       obtain rfl := Option.some.inj hm1
       simp only [kk2, kk0_0, e37, e41, e50, e53, e56, xg, ↓EVd, isCall, sevalprocAttr]
       refine TI.here (hI2 _ rfl _ ⟨(x42 + 9), ?_, ?_, ?_, ?_, ?_, ?_, ?_, ?_, ?_, ?_, ?_, ?_, ?_, ?_⟩)
       all_goals try simp only [kk2, kk0_0, e37, e41, e50, e53, e56, xg, ↓EVd, isCall, sevalprocAttr]
       all_goals first | omega | exact lq (by omega) | exact nq (by omega) | rfl | (congr 1; omega)
     obtain rfl := Option.some.inj hm1
     simp only [kk2, kk0_0, e37, e41, e50, xg, ↓EVd, isCall, sevalprocAttr]
     refine TI.here (hJ2_0 _ ⟨v44, l43, ⟨?_, ?_, ?_, ?_, ?_, ?_, ?_, ?_, ?_, ?_, ?_⟩, hO2 _ rfl⟩)
     all_goals try simp only [kk2, kk0_0, e37, e41, e50, xg, ↓EVd, isCall, sevalprocAttr]
     all_goals first | omega | exact lq (by omega) | exact nq (by omega) | rfl | (congr 1; omega)
   obtain ⟨v62, h63, hm0⟩ := bsE hm0
   simp only [kk0_0, e37, e41, xg, ↓EVd, isCall, sevalprocAttr]
   refine qcok (x4n _ _ h63) rfl (by simp only [kk0_0, e37, e41, FK, CLO, xg, ↓EVd, isCall, sevalprocAttr]; first | done | rfl) ?_
   obtain ⟨v64, h65, hm0⟩ := bsE hm0
   simp only [kk0_0, e37, e41, xg, ↓EVd, isCall, sevalprocAttr]
   refine qdel1 x5c xjc xsc aggN_9 zero_9 (by simp only [xg, ↓EVd, isCall, sevalprocAttr]) str _ (fun z => xhc z a0 a1) _ h65 (fun z b hz => xeq z a0 a1 b hz) (fun z => by simp only [CLO]) (by simp only [CLO]) (fun z => by simp only [xg, ↓EVd, isCall, sevalprocAttr]) (fun z w => by simp only [xg, ↓EVd, isCall, sevalprocAttr]) (fun z => by simp only [xg, ↓EVd, isCall, sevalprocAttr]) (fun z => by simp only [xg, ↓EVd, isCall, sevalprocAttr]) rfl (by simp only [kk0_0, e37, e41, FZ, CLO, xg, ↓EVd, isCall, sevalprocAttr]) (by simp only [kk0_0, e37, e41, FZ, CLO, xg, ↓EVd, isCall, sevalprocAttr]) (fun H9 hc9 => by simp only [kk0_0, e37, e41, hc9, FZ, CLO, xg, ↓EVd, isCall, sevalprocAttr]) ?_
   obtain rfl := Option.some.inj hm0
   simp only [kk0_0, e37, e41, xg, ↓EVd, isCall, sevalprocAttr]
   all_goals first | done | rfl | exact xb (by simp only [CLO])
 refine cwp_lp ho0 (fun (v3, v4) s => ∃ l2 : Nat, s.T 2 = .loc 8 6 0 0 ∧ s.T 3 = .loc 9 1 0 0 ∧ s.T 5 = .sl 1 (a0.lowers.map xcb) ∧ s.T 6 = .msl l2 v3.length ∧ s.T 14 = .sl 2 (a1.lower.map xc) ∧ s.T 15 = int (a1.lower.length : Int) ∧ s.T 16 = int v4 ∧ s.H 0 = some (.row 29 6 [xf a0]) ∧ s.H 1 = some (.row 42 2 [xn a1]) ∧ s.H 8 = some (.row 29 6 [xf a0]) ∧ s.H 9 = some (.row 40 1 [.sl 2 (a1.lower.map xc)]) ∧ s.H l2 = some (.row 9 1 (v3.map str)) ∧ Lq 0 s.nx ∧ Lq 1 s.nx ∧ Lq 8 s.nx ∧ Lq 9 s.nx ∧ Lq l2 s.nx ∧ Nq 0 l2 ∧ Nq 1 l2 ∧ Nq 8 l2 ∧ Nq 9 l2) ?_ ?_
 · refine TI.by (Tn.adopt 6 9 1 (by simp only [xg, ↓EVd, isCall, sevalprocAttr])) ?_
   refine TI.here ⟨18, ?_, ?_, ?_, ?_, ?_, ?_, ?_, ?_, ?_, ?_, ?_, ?_, ?_, ?_, ?_, ?_, ?_, ?_, ?_, ?_, ?_⟩
   all_goals try simp only [xg, ↓EVd, isCall, sevalprocAttr]
   all_goals first | omega | exact lq (by omega) | exact nq (by omega) | rfl | (congr 1; omega)
 rintro I0 ⟨v3, v4⟩ T0 H0 x1 st0 ⟨l2, kk0⟩ hm1 hI0 hO0
 dsimp only [Lq, Nq] at kk0
 simp only [xml] at hm1
 rcases iteE hm1 with ⟨e9, hm1⟩ | ⟨e9, hm1⟩
 · obtain ⟨v10, e12, hm1⟩ := ixE xc hm1
   obtain ⟨v13, h14, hm1⟩ := bsE hm1
   simp only [kk0, e9, e12, xg, ↓EVd, isCall, sevalprocAttr]
   refine qc (xzf _ _ _ h14) rfl ?_
   rcases iteE hm1 with ⟨e16, hm1⟩ | ⟨e16, hm1⟩
   · obtain ⟨o1, ho1, hm1⟩ := bsE hm1
     simp only [kk0, e9, e12, e16, xg, ↓EVd, isCall, sevalprocAttr]
     refine cwp_cx 2 (fun s => ∃ v23 : List ByteArray, ∃ l22 : Nat, (s.T 2 = .loc 8 6 0 0 ∧ s.T 3 = .loc 9 1 0 0 ∧ s.T 5 = .sl 1 (a0.lowers.map xcb) ∧ s.T 6 = .msl l22 v23.length ∧ s.T 14 = .sl 2 (a1.lower.map xc) ∧ s.T 15 = int (a1.lower.length : Int) ∧ s.T 16 = int v4 ∧ s.H 0 = some (.row 29 6 [xf a0]) ∧ s.H 1 = some (.row 42 2 [xn a1]) ∧ s.H 8 = some (.row 29 6 [xf a0]) ∧ s.H 9 = some (.row 40 1 [.sl 2 (a1.lower.map xc)]) ∧ s.H l22 = some (.row 9 1 (v23.map str)) ∧ Lq 0 s.nx ∧ Lq 1 s.nx ∧ Lq 8 s.nx ∧ Lq 9 s.nx ∧ Lq l22 s.nx ∧ Nq 0 l22 ∧ Nq 1 l22 ∧ Nq 8 l22 ∧ Nq 9 l22) ∧ v23 = o1) ?_ fun J1_0 hJ1_0 => ?_
     · rintro T1 H1 x21 ⟨v23, l22, kk1_0, rfl⟩
       dsimp only [Lq, Nq] at kk1_0
       try dsimp only at hm1
       obtain rfl := Option.some.inj hm1
       simp only [kk1_0, kk0, e9, e12, e16, xg, ↓EVd, isCall, sevalprocAttr]
       refine TI.here (hI0 _ rfl _ ⟨l22, ?_, ?_, ?_, ?_, ?_, ?_, ?_, ?_, ?_, ?_, ?_, ?_, ?_, ?_, ?_, ?_, ?_, ?_, ?_, ?_, ?_⟩)
       all_goals try simp only [kk1_0, kk0, e9, e12, e16, xg, ↓EVd, isCall, sevalprocAttr]
       all_goals first | omega | exact lq (by omega) | exact nq (by omega) | rfl | (congr 1; omega)
     refine cwp_lp ho1 (fun (v19, v20) s => ∃ l18 : Nat, s.T 2 = .loc 8 6 0 0 ∧ s.T 3 = .loc 9 1 0 0 ∧ s.T 5 = .sl 1 (a0.lowers.map xcb) ∧ s.T 6 = .msl l18 v19.length ∧ s.T 14 = .sl 2 (a1.lower.map xc) ∧ s.T 15 = int (a1.lower.length : Int) ∧ s.T 16 = int v4 ∧ s.T 27 = .sl 3 (v13.entries.map xab) ∧ s.T 28 = int (v13.entries.length : Int) ∧ s.T 29 = int v20 ∧ s.H 0 = some (.row 29 6 [xf a0]) ∧ s.H 1 = some (.row 42 2 [xn a1]) ∧ s.H 8 = some (.row 29 6 [xf a0]) ∧ s.H 9 = some (.row 40 1 [.sl 2 (a1.lower.map xc)]) ∧ s.H l18 = some (.row 9 1 (v19.map str)) ∧ Lq 0 s.nx ∧ Lq 1 s.nx ∧ Lq 8 s.nx ∧ Lq 9 s.nx ∧ Lq l18 s.nx ∧ Nq 0 l18 ∧ Nq 1 l18 ∧ Nq 8 l18 ∧ Nq 9 l18) ?_ ?_
     · refine TI.here ⟨l2, ?_, ?_, ?_, ?_, ?_, ?_, ?_, ?_, ?_, ?_, ?_, ?_, ?_, ?_, ?_, ?_, ?_, ?_, ?_, ?_, ?_, ?_, ?_, ?_⟩
       all_goals try simp only [kk0, e9, e12, e16, xg, ↓EVd, isCall, sevalprocAttr]
       all_goals first | omega | exact lq (by omega) | exact nq (by omega) | rfl | (congr 1; omega)
     rintro I1 ⟨v19, v20⟩ T1 H1 x17 st1 ⟨l18, kk1⟩ hm2 hI1 hO1
     dsimp only [Lq, Nq] at kk1
     simp only [xoq] at hm2
     rcases iteE hm2 with ⟨e25, hm2⟩ | ⟨e25, hm2⟩
     · obtain ⟨v26, e28, hm2⟩ := ixE xab hm2
       obtain ⟨e31, hm2⟩ := apE hm2
       try simp only [ZL] at e31
       obtain rfl := Option.some.inj hm2
       simp only [kk1, kk0, e9, e12, e16, e25, e28, e31, xg, ↓EVd, isCall, sevalprocAttr]
       refine TI.here (hI1 _ rfl _ ⟨(x17 + 9), ?_, ?_, ?_, ?_, ?_, ?_, ?_, ?_, ?_, ?_, ?_, ?_, ?_, ?_, ?_, ?_, ?_, ?_, ?_, ?_, ?_, ?_, ?_, ?_⟩)
       all_goals try simp only [kk1, kk0, e9, e12, e16, e25, e28, e31, xg, ↓EVd, isCall, sevalprocAttr]
       all_goals first | omega | exact lq (by omega) | exact nq (by omega) | rfl | (congr 1; omega)
     obtain rfl := Option.some.inj hm2
     simp only [kk1, kk0, e9, e12, e16, e25, xg, ↓EVd, isCall, sevalprocAttr]
     refine TI.here (hJ1_0 _ ⟨v19, l18, ⟨?_, ?_, ?_, ?_, ?_, ?_, ?_, ?_, ?_, ?_, ?_, ?_, ?_, ?_, ?_, ?_, ?_, ?_, ?_, ?_, ?_⟩, hO1 _ rfl⟩)
     all_goals try simp only [kk1, kk0, e9, e12, e16, e25, xg, ↓EVd, isCall, sevalprocAttr]
     all_goals first | omega | exact lq (by omega) | exact nq (by omega) | rfl | (congr 1; omega)
   obtain rfl := Option.some.inj hm1
   simp only [kk0, e9, e12, e16, xg, ↓EVd, isCall, sevalprocAttr]
   refine TI.here (hI0 _ rfl _ ⟨l2, ?_, ?_, ?_, ?_, ?_, ?_, ?_, ?_, ?_, ?_, ?_, ?_, ?_, ?_, ?_, ?_, ?_, ?_, ?_, ?_, ?_⟩)
   all_goals try simp only [kk0, e9, e12, e16, xg, ↓EVd, isCall, sevalprocAttr]
   all_goals first | omega | exact lq (by omega) | exact nq (by omega) | rfl | (congr 1; omega)
 obtain rfl := Option.some.inj hm1
 simp only [kk0, e9, xg, ↓EVd, isCall, sevalprocAttr]
 refine TI.here (hJ0_0 _ ⟨v3, l2, ⟨?_, ?_, ?_, ?_, ?_, ?_, ?_, ?_, ?_, ?_, ?_, ?_, ?_, ?_, ?_, ?_, ?_⟩, hO0 _ rfl⟩)
 all_goals try simp only [kk0, e9, xg, ↓EVd, isCall, sevalprocAttr]
 all_goals first | omega | exact lq (by omega) | exact nq (by omega) | rfl | (congr 1; omega)
end Go.Proofs.YtfefidkblgendaaGreatDoor.AL

