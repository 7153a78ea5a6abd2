/- A law of the given program is proved: part 44 of 51. -/
import Derived.Test.YtapdjibjnfeipaaGreatDoorD43
set_option linter.all false
/- Models of functions, and that the functions are as their models: written by gen.py. -/
set_option linter.all false
set_option maxRecDepth 100000
namespace Go.Proofs.YtapdjibjnfeipaaGreatDoor.AL
open Go Go.Proofs
def xyd (a0 : Node) : Option (Bool) := if a0.kind = 1 then if 0 ≤ a0.attr.has then if (bAnd .i64 a0.attr.has 1) = 0 then some false
 else if a0.attr.opaque0 = 121 then some true
 else some false
 else some false
 else some false
def xof := aI (aI (@EV) (aI (@R3) (@R66))) (aI (aI (@R68) (@DEntry)) (aI (@DAttr) (@DNode)))
set_option maxHeartbeats 2000000 in
theorem x0j (a0 : Node) (r : Bool) (hm0 : xyd a0 = some r) : Ok Tryz.prog 40 [xh a0] (bool r) := by
 unfold xyd at hm0
 refine okG x7u ?_
 unfold xpp
 rcases iteE hm0 with ⟨e2, hm0⟩ | ⟨e2, hm0⟩
 · rcases iteE hm0 with ⟨e4, hm0⟩ | ⟨e4, hm0⟩
   · rcases iteE hm0 with ⟨e6, hm0⟩ | ⟨e6, hm0⟩
     · obtain rfl := Option.some.inj hm0
       simp only [e2, e4, e6, xof, ↓EVd, isCall, sevalprocAttr]
       all_goals first | done | rfl
     rcases iteE hm0 with ⟨e8, hm0⟩ | ⟨e8, hm0⟩
     · obtain rfl := Option.some.inj hm0
       simp only [e2, e4, e6, e8, xof, ↓EVd, isCall, sevalprocAttr]
       all_goals first | done | rfl
     obtain rfl := Option.some.inj hm0
     simp only [e2, e4, e6, e8, xof, ↓EVd, isCall, sevalprocAttr]
     all_goals first | done | rfl
   obtain rfl := Option.some.inj hm0
   simp only [e2, e4, xof, ↓EVd, isCall, sevalprocAttr]
   all_goals first | done | rfl
 obtain rfl := Option.some.inj hm0
 simp only [e2, xof, ↓EVd, isCall, sevalprocAttr]
 all_goals first | done | rfl
def xpb (a0 : Stack) (a1 : Int) : Option (Node) := if a1 < 1 then some (⟨0, 0, 0, 0, [], [], (⟨0, 0, xl, (⟨0, 0, 0⟩ : Origin), 0⟩ : Attr)⟩ : Node)
 else if (a0.upper.nodes.length : Int) < a1 then some (⟨0, 0, 0, 0, [], [], (⟨0, 0, xl, (⟨0, 0, 0⟩ : Origin), 0⟩ : Attr)⟩ : Node)
 else (ix a0.upper.nodes (wr (a1 - 1))).bind fun v5 => some v5
def xjh := aI (aI (aI (@EV) (aI (@R3) (@R24))) (aI (@R26) (aI (@R29) (@R68)))) (aI (aI (@R92) (aI (@DBranch) (@DStack))) (aI (@DEntry) (aI (@DAttr) (@DNode))))
set_option maxHeartbeats 2000000 in
theorem x0c (a0 : Stack) (a1 : Int) (r : Node) (hm0 : xpb a0 a1 = some r) : Ok Tryz.prog 53 [xi a0, int a1] (xh r) := by
 unfold xpb at hm0
 refine okG xrq ?_
 unfold xnl
 rcases iteE hm0 with ⟨e2, hm0⟩ | ⟨e2, hm0⟩
 · obtain rfl := Option.some.inj hm0
   simp only [e2, xjh, ↓EVd, isCall, sevalprocAttr]
   all_goals first | done | rfl | exact xj (by simp only [CLO]) | exact xv (by simp only [CLO]) (Sub.agg (Subs.cons (Sub.refl _) (Subs.cons (Sub.refl _) (Subs.cons (Sub.refl _) (Subs.cons (Sub.refl _) (Subs.cons (Sub.nilS _) (Subs.cons (Sub.nilS _) (Subs.cons (Sub.refl _) (Subs.cons (Sub.refl _) (Subs.cons (Sub.refl _) (Subs.cons (Sub.refl _) (Subs.cons (Sub.refl _) (Subs.cons (Sub.refl _) (Subs.cons (Sub.refl _) (Subs.nil)))))))))))))))
 rcases iteE hm0 with ⟨e4, hm0⟩ | ⟨e4, hm0⟩
 · obtain rfl := Option.some.inj hm0
   simp only [e2, e4, xjh, ↓EVd, isCall, sevalprocAttr]
   all_goals first | done | rfl | exact xj (by simp only [CLO]) | exact xv (by simp only [CLO]) (Sub.agg (Subs.cons (Sub.refl _) (Subs.cons (Sub.refl _) (Subs.cons (Sub.refl _) (Subs.cons (Sub.refl _) (Subs.cons (Sub.nilS _) (Subs.cons (Sub.nilS _) (Subs.cons (Sub.refl _) (Subs.cons (Sub.refl _) (Subs.cons (Sub.refl _) (Subs.cons (Sub.refl _) (Subs.cons (Sub.refl _) (Subs.cons (Sub.refl _) (Subs.cons (Sub.refl _) (Subs.nil)))))))))))))))
 obtain ⟨v5, e7, hm0⟩ := ixE xh hm0
 obtain rfl := Option.some.inj hm0
 simp only [e2, e4, e7, xjh, ↓EVd, isCall, sevalprocAttr]
 all_goals first | done | rfl | exact xj (by simp only [CLO])
def x6c (a0 : Stack) : Option (View) := (xpb (⟨(⟨a0.geo.lowers, a0.geo.inodes, a0.geo.blocks, a0.geo.log⟩ : Geo), (⟨a0.upper.nodes⟩ : Branch), a0.lowers⟩ : Stack) 1).bind fun v2 => if v2.kind = 1 then (xyd v2).bind fun v6 => if (!v6) = true then (xzd a0).bind fun v10 => some (⟨1, v10⟩ : View)
 else some (⟨1, []⟩ : View)
 else (xyd v2).bind fun v12 => if (!v12) = true then (xzd a0).bind fun v16 => some (⟨0, v16⟩ : View)
 else some (⟨0, []⟩ : View)
def xmd := aI (aI (aI (@EV) (aI (@R3) (@R29))) (aI (aI (@R30) (@R32)) (aI (@R45) (@R68)))) (aI (aI (aI (@R92) (@DBranch)) (aI (@DStack) (@DView))) (aI (aI (@DPlace) (@DEntry)) (aI (@DAttr) (@DNode))))
set_option maxHeartbeats 2000000 in
theorem xye (a0 : Stack) (r : View) (hm0 : x6c a0 = some r) : Ok Tryz.prog 22 [xi a0] (xfb r) := by
 unfold x6c at hm0
 refine okG x2x ?_
 unfold xds
 have e1 : (.agg [int a0.geo.lowers, int a0.geo.inodes, int a0.geo.blocks, int a0.geo.log, .sl 13 (a0.upper.nodes.map xh), .sl 1 (a0.lowers.map xk)] : AV) = xi (⟨(⟨a0.geo.lowers, a0.geo.inodes, a0.geo.blocks, a0.geo.log⟩ : Geo), (⟨a0.upper.nodes⟩ : Branch), a0.lowers⟩ : Stack) := _root_.id rfl
 obtain ⟨v2, h3, hm0⟩ := bsE hm0
 simp only [e1, xmd, ↓EVd, isCall, sevalprocAttr]
 refine qc (x0c _ _ _ h3) rfl ?_
 rcases iteE hm0 with ⟨e5, hm0⟩ | ⟨e5, hm0⟩
 · obtain ⟨v6, h7, hm0⟩ := bsE hm0
   simp only [e1, e5, xmd, ↓EVd, isCall, sevalprocAttr]
   refine qc (x0j _ _ h7) rfl ?_
   rcases itbE hm0 with ⟨e9, hm0⟩ | ⟨e9, hm0⟩
   · obtain ⟨v10, h11, hm0⟩ := bsE hm0
     simp only [e1, e5, e9, xmd, ↓EVd, isCall, sevalprocAttr]
     refine qc (xok _ _ h11) rfl ?_
     obtain rfl := Option.some.inj hm0
     simp only [e1, e5, e9, xmd, ↓EVd, isCall, sevalprocAttr]
     all_goals first | done | rfl | exact xj (by simp only [CLO]) | exact xv (by simp only [CLO]) (Sub.agg (Subs.cons (Sub.refl _) (Subs.cons (Sub.refl _) (Subs.nil))))
   obtain rfl := Option.some.inj hm0
   simp only [e1, e5, e9, xmd, ↓EVd, isCall, sevalprocAttr]
   all_goals first | done | rfl | exact xj (by simp only [CLO]) | exact xv (by simp only [CLO]) (Sub.agg (Subs.cons (Sub.refl _) (Subs.cons (Sub.nilS _) (Subs.nil))))
 obtain ⟨v12, h13, hm0⟩ := bsE hm0
 simp only [e1, e5, xmd, ↓EVd, isCall, sevalprocAttr]
 refine qc (x0j _ _ h13) rfl ?_
 rcases itbE hm0 with ⟨e15, hm0⟩ | ⟨e15, hm0⟩
 · obtain ⟨v16, h17, hm0⟩ := bsE hm0
   simp only [e1, e5, e15, xmd, ↓EVd, isCall, sevalprocAttr]
   refine qc (xok _ _ h17) rfl ?_
   obtain rfl := Option.some.inj hm0
   simp only [e1, e5, e15, xmd, ↓EVd, isCall, sevalprocAttr]
   all_goals first | done | rfl | exact xj (by simp only [CLO]) | exact xv (by simp only [CLO]) (Sub.agg (Subs.cons (Sub.refl _) (Subs.cons (Sub.refl _) (Subs.nil))))
 obtain rfl := Option.some.inj hm0
 simp only [e1, e5, e15, xmd, ↓EVd, isCall, sevalprocAttr]
 all_goals first | done | rfl | exact xj (by simp only [CLO]) | exact xv (by simp only [CLO]) (Sub.agg (Subs.cons (Sub.refl _) (Subs.cons (Sub.nilS _) (Subs.nil))))
def xpc (a0 : Stack) (a1 : List Place) (a2 : ByteArray) : Option (List Place) := (xqd a0 a1 a2).bind fun v1 => if v1.1 = 1 then some v1.2
 else some []
def xih := aI (aI (aI (@EV) (aI (@R3) (@R9))) (aI (@R29) (aI (@R30) (@R45)))) (aI (aI (@R92) (aI (@DBranch) (@DStack))) (aI (aI (@DPlace) (@DEntry)) (aI (@DAttr) (@DNode))))
set_option maxHeartbeats 2000000 in
theorem xbg (a0 : Stack) (a1 : List Place) (a2 : ByteArray) (r : List Place) (hm0 : xpc a0 a1 a2 = some r) : Ok Tryz.prog 83 [xi a0, .sl 2 (a1.map xg), str a2] (.sl 2 (r.map xg)) := by
 unfold xpc at hm0
 refine okG xbr ?_
 unfold xpl
 obtain ⟨v1, h2, hm0⟩ := bsE hm0
 simp only [xih, ↓EVd, isCall, sevalprocAttr]
 refine qc (xuh _ _ _ _ h2) rfl ?_
 rcases iteE hm0 with ⟨e4, hm0⟩ | ⟨e4, hm0⟩
 · obtain rfl := Option.some.inj hm0
   simp only [e4, xih, ↓EVd, isCall, sevalprocAttr]
   all_goals first | done | rfl | exact xj (by simp only [CLO])
 obtain rfl := Option.some.inj hm0
 simp only [e4, xih, ↓EVd, isCall, sevalprocAttr]
 all_goals first | done | rfl | exact xv (by simp only [CLO]) (Sub.nilS _)
def xed (a0 : Stack) (a1 : View) (a2 : Node) (a3 : ByteArray) : Option (List Place) := if a2.kind = 1 then (xyd a2).bind fun v3 => if v3 = true then some []
 else if a2.attr.has < 0 then (xpc a0 a1.lower a3).bind fun v9 => some v9
 else if (bAnd .i64 a2.attr.has 2) = 0 then (xpc a0 a1.lower a3).bind fun v13 => some v13
 else (xad a2.attr.redirect).bind fun v15 => if (!v15.2.2) = true then some []
 else if v15.2.1 = true then (xzd a0).bind fun v21 => (xig a0 v21 v15.1).bind fun v23 => some v23.1
 else (ix v15.1 0).bind fun v25 => (xpc a0 a1.lower v25).bind fun v28 => some v28
 else some []
def xdb := aI (aI (aI (aI (@EV) (@R3)) (aI (@R9) (@R29))) (aI (aI (@R30) (@R32)) (aI (@R42) (aI (@R45) (@R66))))) (aI (aI (aI (@R68) (@R92)) (aI (@DBranch) (aI (@DStack) (@DView)))) (aI (aI (@DPlace) (@DEntry)) (aI (@DAttr) (aI (@DNode) (@mixed)))))
set_option maxHeartbeats 2000000 in
theorem xzk (a0 : Stack) (a1 : View) (a2 : Node) (a3 : ByteArray) (r : List Place) (hm0 : xed a0 a1 a2 a3 = some r) : Ok Tryz.prog 54 [xi a0, xfb a1, xh a2, str a3] (.sl 2 (r.map xg)) := by
 unfold xed at hm0
 refine okG xpq ?_
 unfold xml
 rcases iteE hm0 with ⟨e2, hm0⟩ | ⟨e2, hm0⟩
 · obtain ⟨v3, h4, hm0⟩ := bsE hm0
   simp only [e2, xdb, ↓EVd, isCall, sevalprocAttr]
   refine qc (x0j _ _ h4) rfl ?_
   rcases itbE hm0 with ⟨e6, hm0⟩ | ⟨e6, hm0⟩
   · obtain rfl := Option.some.inj hm0
     simp only [e2, e6, xdb, ↓EVd, isCall, sevalprocAttr]
     all_goals first | done | rfl | exact xv (by simp only [CLO]) (Sub.nilS _)
   rcases iteE hm0 with ⟨e8, hm0⟩ | ⟨e8, hm0⟩
   · obtain ⟨v9, h10, hm0⟩ := bsE hm0
     simp only [e2, e6, e8, xdb, ↓EVd, isCall, sevalprocAttr]
     refine qc (xbg _ _ _ _ h10) rfl ?_
     obtain rfl := Option.some.inj hm0
     simp only [e2, e6, e8, xdb, ↓EVd, isCall, sevalprocAttr]
     all_goals first | done | rfl | exact xj (by simp only [CLO])
   rcases iteE hm0 with ⟨e12, hm0⟩ | ⟨e12, hm0⟩
   · obtain ⟨v13, h14, hm0⟩ := bsE hm0
     simp only [e2, e6, e8, e12, xdb, ↓EVd, isCall, sevalprocAttr]
     refine qc (xbg _ _ _ _ h14) rfl ?_
     obtain rfl := Option.some.inj hm0
     simp only [e2, e6, e8, e12, xdb, ↓EVd, isCall, sevalprocAttr]
     all_goals first | done | rfl | exact xj (by simp only [CLO])
   obtain ⟨v15, h16, hm0⟩ := bsE hm0
   simp only [e2, e6, e8, e12, xdb, ↓EVd, isCall, sevalprocAttr]
   refine qc (x7s _ _ h16) rfl ?_
   rcases itbE hm0 with ⟨e18, hm0⟩ | ⟨e18, hm0⟩
   · obtain rfl := Option.some.inj hm0
     simp only [e2, e6, e8, e12, e18, xdb, ↓EVd, isCall, sevalprocAttr]
     all_goals first | done | rfl | exact xv (by simp only [CLO]) (Sub.nilS _)
   rcases itbE hm0 with ⟨e20, hm0⟩ | ⟨e20, hm0⟩
   · obtain ⟨v21, h22, hm0⟩ := bsE hm0
     simp only [e2, e6, e8, e12, e18, e20, xdb, ↓EVd, isCall, sevalprocAttr]
     refine qd (xok _ _ h22) rfl ?_
     obtain ⟨v23, h24, hm0⟩ := bsE hm0
     simp only [e2, e6, e8, e12, e18, e20, xdb, ↓EVd, isCall, sevalprocAttr]
     refine qd (xxw _ _ _ _ h24) rfl ?_
     obtain rfl := Option.some.inj hm0
     simp only [e2, e6, e8, e12, e18, e20, xdb, ↓EVd, isCall, sevalprocAttr]
     all_goals first | done | rfl | exact xj (by simp only [CLO])
   obtain ⟨v25, e27, hm0⟩ := ixE str hm0
   try simp only [sevalprocAttr, eq_self, true_and] at e27
   obtain ⟨v28, h29, hm0⟩ := bsE hm0
   simp only [e2, e6, e8, e12, e18, e20, e27, xdb, ↓EVd, isCall, sevalprocAttr]
   refine qd (xbg _ _ _ _ h29) rfl ?_
   obtain rfl := Option.some.inj hm0
   simp only [e2, e6, e8, e12, e18, e20, e27, xdb, ↓EVd, isCall, sevalprocAttr]
   all_goals first | done | rfl | exact xj (by simp only [CLO])
 obtain rfl := Option.some.inj hm0
 simp only [e2, xdb, ↓EVd, isCall, sevalprocAttr]
 all_goals first | done | rfl | exact xv (by simp only [CLO]) (Sub.nilS _)
def xlc (a0 : Entry) (a1 : ByteArray) (a2 : Stack) : Option (Bool) := if a0.name = a1 then (xpb a2 a0.ino).bind fun v3 => if v3.kind = 0 then some false
 else some true
 else some false
def x3d := aI (aI (aI (@EV) (@R3)) (aI (@R9) (aI (@R55) (@R68)))) (aI (aI (@R92) (aI (@DBranch) (@DStack))) (aI (@DEntry) (aI (@DAttr) (@DNode))))
set_option maxHeartbeats 2000000 in
theorem xyo (a0 : Entry) (a1 : ByteArray) (a2 : Stack) (r : Bool) (hm0 : xlc a0 a1 a2 = some r) : Ok Tryz.prog 82 [xr a0, .ptr (str a1) 0, .ptr (xi a2) 0] (bool r) := by
 unfold xlc at hm0
 refine okG xlo ?_
 unfold x3i
 rcases iteE hm0 with ⟨e2, hm0⟩ | ⟨e2, hm0⟩
 · obtain ⟨v3, h4, hm0⟩ := bsE hm0
   simp only [e2, x3d, ↓EVd, isCall, sevalprocAttr]
   refine qc (x0c _ _ _ h4) rfl ?_
   rcases iteE hm0 with ⟨e6, hm0⟩ | ⟨e6, hm0⟩
   · obtain rfl := Option.some.inj hm0
     simp only [e2, e6, x3d, ↓EVd, isCall, sevalprocAttr]
     all_goals first | done | rfl
   obtain rfl := Option.some.inj hm0
   simp only [e2, e6, x3d, ↓EVd, isCall, sevalprocAttr]
   all_goals first | done | rfl
 obtain rfl := Option.some.inj hm0
 simp only [e2, x3d, ↓EVd, isCall, sevalprocAttr]
 all_goals first | done | rfl
def xod (a0 : Stack) (a1 : View) (a2 : ByteArray) : Option (Int) := (xpb a0 a1.upper).bind fun v1 => if v1.kind = 1 then (indexM (fun z => xlc z a2 a0) v1.entries).bind fun v5 => if v5 < 0 then some 0
 else (ix v1.entries v5).bind fun v9 => some v9.ino
 else some 0
def xfc := aI (aI (aI (@EV) (aI (@R3) (@R9))) (aI (aI (@R32) (@R55)) (aI (@R62) (@R68)))) (aI (aI (aI (@R92) (@DBranch)) (aI (@DStack) (@DView))) (aI (aI (@DPlace) (@DEntry)) (aI (@DAttr) (@DNode))))
set_option maxHeartbeats 2000000 in
theorem x6p (a0 : Stack) (a1 : View) (a2 : ByteArray) (r : Int) (hm0 : xod a0 a1 a2 = some r) : Ok Tryz.prog 52 [xi a0, xfb a1, str a2] (int r) := by
 unfold xod at hm0
 refine okG xzp ?_
 unfold xel
 obtain ⟨v1, h2, hm0⟩ := bsE hm0
 simp only [xfc, ↓EVd, isCall, sevalprocAttr]
 refine qc (x0c _ _ _ h2) rfl ?_
 rcases iteE hm0 with ⟨e4, hm0⟩ | ⟨e4, hm0⟩
 · obtain ⟨v5, h6, hm0⟩ := bsE hm0
   simp only [e4, xfc, ↓EVd, isCall, sevalprocAttr]
   refine qcb (xaw x6b xre x3f (fi := []) (ca := [.ptr (str a2) 0, .ptr (xi a0) 0]) xr v1.entries (fun z => xlc z a2 a0) _ h6 (fun z b hz => xyo z a2 a0 b hz) (fun z => x8g rfl (x8g (by simp only [CLO]) (by simp only [CLO]))) (fun z => by simp only [xfc, ↓EVd, isCall, sevalprocAttr])) rfl (by simp only [e4, FZ, CLO, xfc, ↓EVd, isCall, sevalprocAttr]) ?_
   rcases iteE hm0 with ⟨e8, hm0⟩ | ⟨e8, hm0⟩
   · obtain rfl := Option.some.inj hm0
     simp only [e4, e8, xfc, ↓EVd, isCall, sevalprocAttr]
     all_goals first | done | rfl
   obtain ⟨v9, e11, hm0⟩ := ixE xr hm0
   obtain rfl := Option.some.inj hm0
   simp only [e4, e8, e11, xfc, ↓EVd, isCall, sevalprocAttr]
   all_goals first | done | rfl
 obtain rfl := Option.some.inj hm0
 simp only [e4, xfc, ↓EVd, isCall, sevalprocAttr]
 all_goals first | done | rfl
def x5c (a0 : Stack) (a1 : View) (a2 : ByteArray) : Option (Int × View × Place) := (xod (⟨(⟨a0.geo.lowers, a0.geo.inodes, a0.geo.blocks, a0.geo.log⟩ : Geo), (⟨a0.upper.nodes⟩ : Branch), a0.lowers⟩ : Stack) a1 a2).bind fun v2 => if 0 < v2 then (xpb (⟨(⟨a0.geo.lowers, a0.geo.inodes, a0.geo.blocks, a0.geo.log⟩ : Geo), (⟨a0.upper.nodes⟩ : Branch), a0.lowers⟩ : Stack) v2).bind fun v6 => if v6.kind = 1 then (xed (⟨(⟨a0.geo.lowers, a0.geo.inodes, a0.geo.blocks, a0.geo.log⟩ : Geo), (⟨a0.upper.nodes⟩ : Branch), a0.lowers⟩ : Stack) a1 v6 a2).bind fun v10 => some (1, (⟨v2, v10⟩ : View), (⟨0, v2⟩ : Place))
 else if v6.kind = 2 then some (v6.kind, (⟨0, []⟩ : View), (⟨0, v2⟩ : Place))
 else if v6.kind = 3 then some (v6.kind, (⟨0, []⟩ : View), (⟨0, v2⟩ : Place))
 else some (0, (⟨0, []⟩ : View), (⟨0, 0⟩ : Place))
 else (xqd a0 a1.lower a2).bind fun v21 => if v21.1 = 0 then some (0, (⟨0, []⟩ : View), (⟨0, 0⟩ : Place))
 else if v21.1 = 1 then (ix v21.2 0).bind fun v29 => some (v21.1, (⟨0, v21.2⟩ : View), v29)
 else (ix v21.2 0).bind fun v32 => some (v21.1, (⟨0, []⟩ : View), v32)
def xac := aI (aI (aI (aI (@EV) (@R3)) (aI (@R9) (@R29))) (aI (aI (@R30) (@R32)) (aI (@R45) (@R68)))) (aI (aI (aI (@R92) (@DBranch)) (aI (@DStack) (@DView))) (aI (aI (@DPlace) (@DEntry)) (aI (@DAttr) (aI (@DNode) (@mixed)))))
set_option maxHeartbeats 2000000 in
theorem x8e (a0 : Stack) (a1 : View) (a2 : ByteArray) (r : Int × View × Place) (hm0 : x5c a0 a1 a2 = some r) : Ok Tryz.prog 19 [xi a0, xfb a1, str a2] (.tup [int r.1, xfb r.2.1, xg r.2.2]) := by
 unfold x5c at hm0
 refine okG x6w ?_
 unfold xns
 have e1 : (.agg [int a0.geo.lowers, int a0.geo.inodes, int a0.geo.blocks, int a0.geo.log, .sl 13 (a0.upper.nodes.map xh), .sl 1 (a0.lowers.map xk)] : AV) = xi (⟨(⟨a0.geo.lowers, a0.geo.inodes, a0.geo.blocks, a0.geo.log⟩ : Geo), (⟨a0.upper.nodes⟩ : Branch), a0.lowers⟩ : Stack) := _root_.id rfl
 obtain ⟨v2, h3, hm0⟩ := bsE hm0
 simp only [e1, xac, ↓EVd, isCall, sevalprocAttr]
 refine qc (x6p _ _ _ _ h3) rfl ?_
 rcases iteE hm0 with ⟨e5, hm0⟩ | ⟨e5, hm0⟩
 · obtain ⟨v6, h7, hm0⟩ := bsE hm0
   simp only [e1, e5, xac, ↓EVd, isCall, sevalprocAttr]
   refine qc (x0c _ _ _ h7) rfl ?_
   rcases iteE hm0 with ⟨e9, hm0⟩ | ⟨e9, hm0⟩
   · obtain ⟨v10, h11, hm0⟩ := bsE hm0
     simp only [e1, e5, e9, xac, ↓EVd, isCall, sevalprocAttr]
     refine qc (xzk _ _ _ _ _ h11) rfl ?_
     have e12 : (.agg [int v2, .sl 2 (v10.map xg)] : AV) = xfb (⟨v2, v10⟩ : View) := _root_.id rfl
     have e13 : (.agg [int 0, int v2] : AV) = xg (⟨0, v2⟩ : Place) := _root_.id rfl
     obtain rfl := Option.some.inj hm0
     simp only [e1, e5, e9, e12, e13, xac, ↓EVd, isCall, sevalprocAttr]
     all_goals first | done | rfl | exact xj (by simp only [CLO]) | exact xv (by simp only [CLO]) (Sub.tup (Subs.cons (Sub.refl _) (Subs.cons (Sub.refl _) (Subs.cons (Sub.refl _) (Subs.nil)))))
   rcases iteE hm0 with ⟨e15, hm0⟩ | ⟨e15, hm0⟩
   · have e16 : (.agg [int 0, int v2] : AV) = xg (⟨0, v2⟩ : Place) := _root_.id rfl
     obtain rfl := Option.some.inj hm0
     simp only [e1, e5, e9, e15, e16, xac, ↓EVd, isCall, sevalprocAttr]
     all_goals first | done | rfl | exact xj (by simp only [CLO]) | exact xv (by simp only [CLO]) (Sub.tup (Subs.cons (Sub.refl _) (Subs.cons (Sub.agg (Subs.cons (Sub.refl _) (Subs.cons (Sub.nilS _) (Subs.nil)))) (Subs.cons (Sub.refl _) (Subs.nil)))))
   rcases iteE hm0 with ⟨e18, hm0⟩ | ⟨e18, hm0⟩
   · have e19 : (.agg [int 0, int v2] : AV) = xg (⟨0, v2⟩ : Place) := _root_.id rfl
     obtain rfl := Option.some.inj hm0
     simp only [e1, e5, e9, e15, e18, e19, xac, ↓EVd, isCall, sevalprocAttr]
     all_goals first | done | rfl | exact xj (by simp only [CLO]) | exact xv (by simp only [CLO]) (Sub.tup (Subs.cons (Sub.refl _) (Subs.cons (Sub.agg (Subs.cons (Sub.refl _) (Subs.cons (Sub.nilS _) (Subs.nil)))) (Subs.cons (Sub.refl _) (Subs.nil)))))
   have e20 : (.agg [int 0, int 0] : AV) = xg (⟨0, 0⟩ : Place) := _root_.id rfl
   obtain rfl := Option.some.inj hm0
   simp only [e1, e5, e9, e15, e18, e20, xac, ↓EVd, isCall, sevalprocAttr]
   all_goals first | done | rfl | exact xj (by simp only [CLO]) | exact xv (by simp only [CLO]) (Sub.tup (Subs.cons (Sub.refl _) (Subs.cons (Sub.agg (Subs.cons (Sub.refl _) (Subs.cons (Sub.nilS _) (Subs.nil)))) (Subs.cons (Sub.refl _) (Subs.nil)))))
 obtain ⟨v21, h22, hm0⟩ := bsE hm0
 simp only [e1, e5, xac, ↓EVd, isCall, sevalprocAttr]
 refine qc (xuh _ _ _ _ h22) rfl ?_
 rcases iteE hm0 with ⟨e24, hm0⟩ | ⟨e24, hm0⟩
 · have e25 : (.agg [int 0, int 0] : AV) = xg (⟨0, 0⟩ : Place) := _root_.id rfl
   obtain rfl := Option.some.inj hm0
   simp only [e1, e5, e24, e25, xac, ↓EVd, isCall, sevalprocAttr]
   all_goals first | done | rfl | exact xj (by simp only [CLO]) | exact xv (by simp only [CLO]) (Sub.tup (Subs.cons (Sub.refl _) (Subs.cons (Sub.agg (Subs.cons (Sub.refl _) (Subs.cons (Sub.nilS _) (Subs.nil)))) (Subs.cons (Sub.refl _) (Subs.nil)))))
 rcases iteE hm0 with ⟨e27, hm0⟩ | ⟨e27, hm0⟩
 · simp only [e1, e5, e24, e27, xac, ↓EVd, isCall, sevalprocAttr]
   refine fineI [([], []), ([], []), ([], []), ([], []), ([], []), ([], []), ([], []), ([], [3]), ([], [4])] rfl (by simp only [MT, sevalprocAttr]; first | done | omega) ?_
   have e28 : (.agg [int 0, .sl 2 (v21.2.map xg)] : AV) = xfb (⟨0, v21.2⟩ : View) := _root_.id rfl
   obtain ⟨v29, e31, hm0⟩ := ixE xg hm0
   try simp only [sevalprocAttr, eq_self, true_and] at e31
   obtain rfl := Option.some.inj hm0
   simp only [e1, e5, e24, e27, e28, e31, xac, ↓EVd, isCall, sevalprocAttr]
   all_goals first | done | rfl | exact xj (by simp only [CLO]) | exact xv (by simp only [CLO]) (Sub.tup (Subs.cons (Sub.refl _) (Subs.cons (Sub.refl _) (Subs.cons (Sub.refl _) (Subs.nil)))))
 simp only [e1, e5, e24, e27, xac, ↓EVd, isCall, sevalprocAttr]
 refine fineI [([], []), ([], []), ([], []), ([], []), ([], []), ([], []), ([], [3]), ([], [4])] rfl (by simp only [MT, sevalprocAttr]; first | done | omega) ?_
 obtain ⟨v32, e34, hm0⟩ := ixE xg hm0
 try simp only [sevalprocAttr, eq_self, true_and] at e34
 obtain rfl := Option.some.inj hm0
 simp only [e1, e5, e24, e27, e34, xac, ↓EVd, isCall, sevalprocAttr]
 all_goals first | done | rfl | exact xj (by simp only [CLO]) | exact xv (by simp only [CLO]) (Sub.tup (Subs.cons (Sub.refl _) (Subs.cons (Sub.agg (Subs.cons (Sub.refl _) (Subs.cons (Sub.nilS _) (Subs.nil)))) (Subs.cons (Sub.refl _) (Subs.nil)))))
def x1b (a0 : ByteArray) (a1 : Stack) (a2 : View) : Option (Bool) := (x5c a1 a2 a0).bind fun v1 => if v1.1 = 0 then some true
 else some false
def x7j := aI (aI (aI (@EV) (aI (@R3) (@R9))) (aI (@R29) (aI (@R32) (@R45)))) (aI (aI (@DBranch) (aI (@DStack) (@DView))) (aI (aI (@DPlace) (@DEntry)) (aI (@DAttr) (@DNode))))
set_option maxHeartbeats 2000000 in
theorem xnn (a0 : ByteArray) (a1 : Stack) (a2 : View) (r : Bool) (hm0 : x1b a0 a1 a2 = some r) : Ok Tryz.prog 63 [str a0, .ptr (xi a1) 0, .ptr (xfb a2) 0] (bool r) := by
 unfold x1b at hm0
 refine okG xnu ?_
 unfold xto
 obtain ⟨v1, h2, hm0⟩ := bsE hm0
 simp only [x7j, ↓EVd, isCall, sevalprocAttr]
 refine qc (x8e _ _ _ _ h2) rfl ?_
 rcases iteE hm0 with ⟨e4, hm0⟩ | ⟨e4, hm0⟩
 · obtain rfl := Option.some.inj hm0
   simp only [e4, x7j, ↓EVd, isCall, sevalprocAttr]
   all_goals first | done | rfl
 obtain rfl := Option.some.inj hm0
 simp only [e4, x7j, ↓EVd, isCall, sevalprocAttr]
 all_goals first | done | rfl
def xtn (v13 : Node) : (List ByteArray × Int) → Option (St (List ByteArray × Int) (List ByteArray))
 | (v19, v20) => if v20 < (v13.entries.length : Int) then (ix v13.entries v20).bind fun v26 => (ap 16 v19 ([v26.name] : List ByteArray)).bind fun _ => some (.nx ((v19 ++ ([v26.name] : List ByteArray)), (wr (v20 + 1))))
 else some (.out v19)
def xlj (a0 : Stack) (a1 : View) : (List ByteArray × Int) → Option (St (List ByteArray × Int) (List ByteArray))
 | (v3, v4) => if v4 < (a1.lower.length : Int) then (ix a1.lower v4).bind fun v10 => (xyb a0.lowers v10).bind fun v13 => if v13.kind = 1 then (iter (xtn v13) big (v3, 0)).bind fun o => (match o with
 | v23 => some (.nx (v23, (wr (v4 + 1)))))
 else some (.nx (v3, (wr (v4 + 1))))
 else some (.out v3)
def xtd (v38 : Node) : (List ByteArray × Int) → Option (St (List ByteArray × Int) (List ByteArray))
 | (v44, v45) => if v45 < (v38.entries.length : Int) then (ix v38.entries v45).bind fun v51 => (ap 16 v44 ([v51.name] : List ByteArray)).bind fun _ => some (.nx ((v44 ++ ([v51.name] : List ByteArray)), (wr (v45 + 1))))
 else some (.out v44)
def xbe (a0 : Stack) (a1 : View) : Option (List ByteArray) := (iter (xlj a0 a1) big ([], 0)).bind fun o => (match o with
 | v7 => (xjc v7).bind fun v33 => (x3e (fun z => xbd z a0 a1.lower) v33).bind fun v35 => (xpb (⟨(⟨a0.geo.lowers, a0.geo.inodes, a0.geo.blocks, a0.geo.log⟩ : Geo), (⟨a0.upper.nodes⟩ : Branch), a0.lowers⟩ : Stack) a1.upper).bind fun v38 => if v38.kind = 1 then (iter (xtd v38) big (v35, 0)).bind fun o => (match o with
 | v48 => (xjc v48).bind fun v58 => (x3e (fun z => x1b z a0 a1) v58).bind fun v60 => some v60)
 else (xjc v35).bind fun v62 => (x3e (fun z => x1b z a0 a1) v62).bind fun v64 => some v64)
def xc := aI (aI (aI (aI (@EV) (@R3)) (aI (@R9) (aI (@R26) (@R27)))) (aI (aI (@R29) (aI (@R30) (@R32))) (aI (@R42) (aI (@R45) (@R55))))) (aI (aI (aI (@R62) (aI (@R68) (@R92))) (aI (@R106) (aI (@DBranch) (@DStack)))) (aI (aI (@DView) (aI (@DPlace) (@DEntry))) (aI (@DAttr) (aI (@DNode) (@mixed)))))
set_option maxHeartbeats 2000000 in
theorem xxp (a0 : Stack) (a1 : View) (r : List ByteArray) (hm0 : xbe a0 a1 = some r) : Ok Tryz.prog 27 [xi a0, xfb a1] (.sl 1 (r.map str)) := by
 unfold xbe at hm0
 refine okG xyw ?_
 unfold xfr
 simp only [xc, ↓EVd, isCall, sevalprocAttr]
 refine x5d (acallF xzu (by simp) ?_) rfl
 unfold xrp
 obtain ⟨o0, ho0, hm0⟩ := bsE hm0
 simp only [xc, ↓EVd, isCall, sevalprocAttr]
 refine cwp_cx 0 (fun s => ∃ v7 : List ByteArray, ∃ l6 : Nat, (s.T 2 = .loc 8 6 0 0 ∧ s.T 3 = .loc 9 1 0 0 ∧ s.T 6 = .msl l6 v7.length ∧ s.H 0 = some (.row 29 6 [xi a0]) ∧ s.H 1 = some (.row 32 2 [xfb a1]) ∧ s.H 8 = some (.row 29 6 [xi a0]) ∧ s.H 9 = some (.row 30 1 [.sl 2 (a1.lower.map xg)]) ∧ s.H l6 = some (.row 9 1 (v7.map str)) ∧ Lq 0 s.nx ∧ Lq 1 s.nx ∧ Lq 8 s.nx ∧ Lq 9 s.nx ∧ Lq l6 s.nx ∧ Nq 0 l6 ∧ Nq 1 l6 ∧ Nq 8 l6 ∧ Nq 9 l6) ∧ v7 = o0) ?_ fun J0_0 hJ0_0 => ?_
 · rintro T0 H0 x5 ⟨v7, l6, kk0_0, rfl⟩
   dsimp only [Lq, Nq] at kk0_0
   try dsimp only at hm0
   obtain ⟨v33, h34, hm0⟩ := bsE hm0
   simp only [kk0_0, xc, ↓EVd, isCall, sevalprocAttr]
   refine qcok (xkl _ _ h34) rfl (by simp only [kk0_0, FK, CLO, xc, ↓EVd, isCall, sevalprocAttr]; first | done | rfl) ?_
   obtain ⟨v35, h36, hm0⟩ := bsE hm0
   simp only [kk0_0, xc, ↓EVd, isCall, sevalprocAttr]
   refine qdel1i xsc x2b x9c aggN_9 zero_9 (by simp only [xc, ↓EVd, isCall, sevalprocAttr]) str _ (fun z => xbd z a0 a1.lower) _ h36 (fun z b hz => x5s z a0 a1.lower b hz) (fun z => by simp only [CLO]) (by simp only [CLO]) (fun z => by simp only [xc, ↓EVd, isCall, sevalprocAttr]) (fun z w => by simp only [xc, ↓EVd, isCall, sevalprocAttr]) (fun z => by simp only [xc, ↓EVd, isCall, sevalprocAttr]) (fun z => by simp only [xc, ↓EVd, isCall, sevalprocAttr]) rfl (by simp only [kk0_0, FZ, CLO, xc, ↓EVd, isCall, sevalprocAttr]) (by simp only [kk0_0, FZ, CLO, xc, ↓EVd, isCall, sevalprocAttr]) (fun H9 hc9 => by simp only [kk0_0, hc9, FZ, CLO, xc, ↓EVd, isCall, sevalprocAttr]) ?_
   have e37 : (.agg [int a0.geo.lowers, int a0.geo.inodes, int a0.geo.blocks, int a0.geo.log, .sl 13 (a0.upper.nodes.map xh), .sl 1 (a0.lowers.map xk)] : AV) = xi (⟨(⟨a0.geo.lowers, a0.geo.inodes, a0.geo.blocks, a0.geo.log⟩ : Geo), (⟨a0.upper.nodes⟩ : Branch), a0.lowers⟩ : Stack) := _root_.id rfl
   obtain ⟨v38, h39, hm0⟩ := bsE hm0
   simp only [kk0_0, e37, xc, ↓EVd, isCall, sevalprocAttr]
   refine qc (x0c _ _ _ h39) rfl ?_
   rcases iteE hm0 with ⟨e41, hm0⟩ | ⟨e41, hm0⟩
   · obtain ⟨o2, ho2, hm0⟩ := bsE hm0
     simp only [kk0_0, e37, e41, xc, ↓EVd, isCall, sevalprocAttr]
     refine cwp_cx 0 (fun s => ∃ v48 : List ByteArray, ∃ l47 : Nat, (s.T 2 = .loc 0 6 0 0 ∧ s.T 3 = .loc 1 2 0 0 ∧ s.T 5 = .msl l47 v48.length ∧ s.H 0 = some (.row 29 6 [xi a0]) ∧ s.H 1 = some (.row 32 2 [xfb a1]) ∧ s.H l47 = some (.row 9 1 (v48.map str)) ∧ Lq 0 s.nx ∧ Lq 1 s.nx ∧ Lq l47 s.nx ∧ Nq 0 l47 ∧ Nq 1 l47) ∧ v48 = o2) ?_ fun J2_0 hJ2_0 => ?_
     · rintro T2 H2 x46 ⟨v48, l47, kk2_0, rfl⟩
       dsimp only [Lq, Nq] at kk2_0
       try dsimp only at hm0
       obtain ⟨v58, h59, hm0⟩ := bsE hm0
       simp only [kk2_0, kk0_0, e37, e41, xc, ↓EVd, isCall, sevalprocAttr]
       refine qcok (xkl _ _ h59) rfl (by simp only [kk2_0, kk0_0, e37, e41, FK, CLO, xc, ↓EVd, isCall, sevalprocAttr]; first | done | rfl) ?_
       obtain ⟨v60, h61, hm0⟩ := bsE hm0
       simp only [kk2_0, kk0_0, e37, e41, xc, ↓EVd, isCall, sevalprocAttr]
       refine qdel1 xsc x2b x9c aggN_9 zero_9 (by simp only [xc, ↓EVd, isCall, sevalprocAttr]) str _ (fun z => x1b z a0 a1) _ h61 (fun z b hz => xnn z a0 a1 b hz) (fun z => by simp only [CLO]) (by simp only [CLO]) (fun z => by simp only [xc, ↓EVd, isCall, sevalprocAttr]) (fun z w => by simp only [xc, ↓EVd, isCall, sevalprocAttr]) (fun z => by simp only [xc, ↓EVd, isCall, sevalprocAttr]) (fun z => by simp only [xc, ↓EVd, isCall, sevalprocAttr]) rfl (by simp only [kk2_0, kk0_0, e37, e41, FZ, CLO, xc, ↓EVd, isCall, sevalprocAttr]) (by simp only [kk2_0, kk0_0, e37, e41, FZ, CLO, xc, ↓EVd, isCall, sevalprocAttr]) (fun H9 hc9 => by simp only [kk2_0, kk0_0, e37, e41, hc9, FZ, CLO, xc, ↓EVd, isCall, sevalprocAttr]) ?_
       obtain rfl := Option.some.inj hm0
       simp only [kk2_0, kk0_0, e37, e41, xc, ↓EVd, isCall, sevalprocAttr]
       all_goals first | done | rfl | exact xj (by simp only [CLO])
     refine cwp_lp ho2 (fun (v44, v45) s => ∃ l43 : Nat, s.T 2 = .loc 0 6 0 0 ∧ s.T 3 = .loc 1 2 0 0 ∧ s.T 5 = .msl l43 v44.length ∧ s.T 22 = .sl 3 (v38.entries.map xr) ∧ s.T 23 = int (v38.entries.length : Int) ∧ s.T 24 = int v45 ∧ s.H 0 = some (.row 29 6 [xi a0]) ∧ s.H 1 = some (.row 32 2 [xfb a1]) ∧ s.H l43 = some (.row 9 1 (v44.map str)) ∧ Lq 0 s.nx ∧ Lq 1 s.nx ∧ Lq l43 s.nx ∧ Nq 0 l43 ∧ Nq 1 l43) ?_ ?_
     · refine TI.here ⟨(x5 + 5), ?_, ?_, ?_, ?_, ?_, ?_, ?_, ?_, ?_, ?_, ?_, ?_, ?_, ?_⟩
       all_goals try simp only [kk0_0, e37, e41, xc, ↓EVd, isCall, sevalprocAttr]
       all_goals first | omega | exact lq (by omega) | exact nq (by omega) | rfl | (congr 1; omega)
     rintro I2 ⟨v44, v45⟩ T2 H2 x42 st2 ⟨l43, kk2⟩ hm1 hI2 hO2
     dsimp only [Lq, Nq] at kk2
     simp only [xtd] at hm1
     rcases iteE hm1 with ⟨e50, hm1⟩ | ⟨e50, hm1⟩
     · obtain ⟨v51, e53, hm1⟩ := ixE xr hm1
       obtain ⟨e56, hm1⟩ := apE hm1
       try simp only [ZL] at e56
       obtain rfl := Option.some.inj hm1
       simp only [kk2, kk0_0, e37, e41, e50, e53, e56, xc, ↓EVd, isCall, sevalprocAttr]
       refine TI.here (hI2 _ rfl _ ⟨(x42 + 9), ?_, ?_, ?_, ?_, ?_, ?_, ?_, ?_, ?_, ?_, ?_, ?_, ?_, ?_⟩)
       all_goals try simp only [kk2, kk0_0, e37, e41, e50, e53, e56, xc, ↓EVd, isCall, sevalprocAttr]
       all_goals first | omega | exact lq (by omega) | exact nq (by omega) | rfl | (congr 1; omega)
     obtain rfl := Option.some.inj hm1
     simp only [kk2, kk0_0, e37, e41, e50, xc, ↓EVd, isCall, sevalprocAttr]
     refine TI.here (hJ2_0 _ ⟨v44, l43, ⟨?_, ?_, ?_, ?_, ?_, ?_, ?_, ?_, ?_, ?_, ?_⟩, hO2 _ rfl⟩)
     all_goals try simp only [kk2, kk0_0, e37, e41, e50, xc, ↓EVd, isCall, sevalprocAttr]
     all_goals first | omega | exact lq (by omega) | exact nq (by omega) | rfl | (congr 1; omega)
   obtain ⟨v62, h63, hm0⟩ := bsE hm0
   simp only [kk0_0, e37, e41, xc, ↓EVd, isCall, sevalprocAttr]
   refine qcok (xkl _ _ h63) rfl (by simp only [kk0_0, e37, e41, FK, CLO, xc, ↓EVd, isCall, sevalprocAttr]; first | done | rfl) ?_
   obtain ⟨v64, h65, hm0⟩ := bsE hm0
   simp only [kk0_0, e37, e41, xc, ↓EVd, isCall, sevalprocAttr]
   refine qdel1 xsc x2b x9c aggN_9 zero_9 (by simp only [xc, ↓EVd, isCall, sevalprocAttr]) str _ (fun z => x1b z a0 a1) _ h65 (fun z b hz => xnn z a0 a1 b hz) (fun z => by simp only [CLO]) (by simp only [CLO]) (fun z => by simp only [xc, ↓EVd, isCall, sevalprocAttr]) (fun z w => by simp only [xc, ↓EVd, isCall, sevalprocAttr]) (fun z => by simp only [xc, ↓EVd, isCall, sevalprocAttr]) (fun z => by simp only [xc, ↓EVd, isCall, sevalprocAttr]) rfl (by simp only [kk0_0, e37, e41, FZ, CLO, xc, ↓EVd, isCall, sevalprocAttr]) (by simp only [kk0_0, e37, e41, FZ, CLO, xc, ↓EVd, isCall, sevalprocAttr]) (fun H9 hc9 => by simp only [kk0_0, e37, e41, hc9, FZ, CLO, xc, ↓EVd, isCall, sevalprocAttr]) ?_
   obtain rfl := Option.some.inj hm0
   simp only [kk0_0, e37, e41, xc, ↓EVd, isCall, sevalprocAttr]
   all_goals first | done | rfl | exact xj (by simp only [CLO])
 refine cwp_lp ho0 (fun (v3, v4) s => ∃ l2 : Nat, s.T 2 = .loc 8 6 0 0 ∧ s.T 3 = .loc 9 1 0 0 ∧ s.T 5 = .sl 1 (a0.lowers.map xk) ∧ s.T 6 = .msl l2 v3.length ∧ s.T 14 = .sl 2 (a1.lower.map xg) ∧ s.T 15 = int (a1.lower.length : Int) ∧ s.T 16 = int v4 ∧ s.H 0 = some (.row 29 6 [xi a0]) ∧ s.H 1 = some (.row 32 2 [xfb a1]) ∧ s.H 8 = some (.row 29 6 [xi a0]) ∧ s.H 9 = some (.row 30 1 [.sl 2 (a1.lower.map xg)]) ∧ s.H l2 = some (.row 9 1 (v3.map str)) ∧ Lq 0 s.nx ∧ Lq 1 s.nx ∧ Lq 8 s.nx ∧ Lq 9 s.nx ∧ Lq l2 s.nx ∧ Nq 0 l2 ∧ Nq 1 l2 ∧ Nq 8 l2 ∧ Nq 9 l2) ?_ ?_
 · refine TI.by (Tn.adopt 6 9 1 (by simp only [xc, ↓EVd, isCall, sevalprocAttr])) ?_
   refine TI.here ⟨18, ?_, ?_, ?_, ?_, ?_, ?_, ?_, ?_, ?_, ?_, ?_, ?_, ?_, ?_, ?_, ?_, ?_, ?_, ?_, ?_, ?_⟩
   all_goals try simp only [xc, ↓EVd, isCall, sevalprocAttr]
   all_goals first | omega | exact lq (by omega) | exact nq (by omega) | rfl | (congr 1; omega)
 rintro I0 ⟨v3, v4⟩ T0 H0 x1 st0 ⟨l2, kk0⟩ hm1 hI0 hO0
 dsimp only [Lq, Nq] at kk0
 simp only [xlj] at hm1
 rcases iteE hm1 with ⟨e9, hm1⟩ | ⟨e9, hm1⟩
 · obtain ⟨v10, e12, hm1⟩ := ixE xg hm1
   obtain ⟨v13, h14, hm1⟩ := bsE hm1
   simp only [kk0, e9, e12, xc, ↓EVd, isCall, sevalprocAttr]
   refine qc (xse _ _ _ h14) rfl ?_
   rcases iteE hm1 with ⟨e16, hm1⟩ | ⟨e16, hm1⟩
   · obtain ⟨o1, ho1, hm1⟩ := bsE hm1
     simp only [kk0, e9, e12, e16, xc, ↓EVd, isCall, sevalprocAttr]
     refine cwp_cx 2 (fun s => ∃ v23 : List ByteArray, ∃ l22 : Nat, (s.T 2 = .loc 8 6 0 0 ∧ s.T 3 = .loc 9 1 0 0 ∧ s.T 5 = .sl 1 (a0.lowers.map xk) ∧ s.T 6 = .msl l22 v23.length ∧ s.T 14 = .sl 2 (a1.lower.map xg) ∧ s.T 15 = int (a1.lower.length : Int) ∧ s.T 16 = int v4 ∧ s.H 0 = some (.row 29 6 [xi a0]) ∧ s.H 1 = some (.row 32 2 [xfb a1]) ∧ s.H 8 = some (.row 29 6 [xi a0]) ∧ s.H 9 = some (.row 30 1 [.sl 2 (a1.lower.map xg)]) ∧ s.H l22 = some (.row 9 1 (v23.map str)) ∧ Lq 0 s.nx ∧ Lq 1 s.nx ∧ Lq 8 s.nx ∧ Lq 9 s.nx ∧ Lq l22 s.nx ∧ Nq 0 l22 ∧ Nq 1 l22 ∧ Nq 8 l22 ∧ Nq 9 l22) ∧ v23 = o1) ?_ fun J1_0 hJ1_0 => ?_
     · rintro T1 H1 x21 ⟨v23, l22, kk1_0, rfl⟩
       dsimp only [Lq, Nq] at kk1_0
       try dsimp only at hm1
       obtain rfl := Option.some.inj hm1
       simp only [kk1_0, kk0, e9, e12, e16, xc, ↓EVd, isCall, sevalprocAttr]
       refine TI.here (hI0 _ rfl _ ⟨l22, ?_, ?_, ?_, ?_, ?_, ?_, ?_, ?_, ?_, ?_, ?_, ?_, ?_, ?_, ?_, ?_, ?_, ?_, ?_, ?_, ?_⟩)
       all_goals try simp only [kk1_0, kk0, e9, e12, e16, xc, ↓EVd, isCall, sevalprocAttr]
       all_goals first | omega | exact lq (by omega) | exact nq (by omega) | rfl | (congr 1; omega)
     refine cwp_lp ho1 (fun (v19, v20) s => ∃ l18 : Nat, s.T 2 = .loc 8 6 0 0 ∧ s.T 3 = .loc 9 1 0 0 ∧ s.T 5 = .sl 1 (a0.lowers.map xk) ∧ s.T 6 = .msl l18 v19.length ∧ s.T 14 = .sl 2 (a1.lower.map xg) ∧ s.T 15 = int (a1.lower.length : Int) ∧ s.T 16 = int v4 ∧ s.T 27 = .sl 3 (v13.entries.map xr) ∧ s.T 28 = int (v13.entries.length : Int) ∧ s.T 29 = int v20 ∧ s.H 0 = some (.row 29 6 [xi a0]) ∧ s.H 1 = some (.row 32 2 [xfb a1]) ∧ s.H 8 = some (.row 29 6 [xi a0]) ∧ s.H 9 = some (.row 30 1 [.sl 2 (a1.lower.map xg)]) ∧ s.H l18 = some (.row 9 1 (v19.map str)) ∧ Lq 0 s.nx ∧ Lq 1 s.nx ∧ Lq 8 s.nx ∧ Lq 9 s.nx ∧ Lq l18 s.nx ∧ Nq 0 l18 ∧ Nq 1 l18 ∧ Nq 8 l18 ∧ Nq 9 l18) ?_ ?_
     · refine TI.here ⟨l2, ?_, ?_, ?_, ?_, ?_, ?_, ?_, ?_, ?_, ?_, ?_, ?_, ?_, ?_, ?_, ?_, ?_, ?_, ?_, ?_, ?_, ?_, ?_, ?_⟩
       all_goals try simp only [kk0, e9, e12, e16, xc, ↓EVd, isCall, sevalprocAttr]
       all_goals first | omega | exact lq (by omega) | exact nq (by omega) | rfl | (congr 1; omega)
     rintro I1 ⟨v19, v20⟩ T1 H1 x17 st1 ⟨l18, kk1⟩ hm2 hI1 hO1
     dsimp only [Lq, Nq] at kk1
     simp only [xtn] at hm2
     rcases iteE hm2 with ⟨e25, hm2⟩ | ⟨e25, hm2⟩
     · obtain ⟨v26, e28, hm2⟩ := ixE xr hm2
       obtain ⟨e31, hm2⟩ := apE hm2
       try simp only [ZL] at e31
       obtain rfl := Option.some.inj hm2
       simp only [kk1, kk0, e9, e12, e16, e25, e28, e31, xc, ↓EVd, isCall, sevalprocAttr]
       refine TI.here (hI1 _ rfl _ ⟨(x17 + 9), ?_, ?_, ?_, ?_, ?_, ?_, ?_, ?_, ?_, ?_, ?_, ?_, ?_, ?_, ?_, ?_, ?_, ?_, ?_, ?_, ?_, ?_, ?_, ?_⟩)
       all_goals try simp only [kk1, kk0, e9, e12, e16, e25, e28, e31, xc, ↓EVd, isCall, sevalprocAttr]
       all_goals first | omega | exact lq (by omega) | exact nq (by omega) | rfl | (congr 1; omega)
     obtain rfl := Option.some.inj hm2
     simp only [kk1, kk0, e9, e12, e16, e25, xc, ↓EVd, isCall, sevalprocAttr]
     refine TI.here (hJ1_0 _ ⟨v19, l18, ⟨?_, ?_, ?_, ?_, ?_, ?_, ?_, ?_, ?_, ?_, ?_, ?_, ?_, ?_, ?_, ?_, ?_, ?_, ?_, ?_, ?_⟩, hO1 _ rfl⟩)
     all_goals try simp only [kk1, kk0, e9, e12, e16, e25, xc, ↓EVd, isCall, sevalprocAttr]
     all_goals first | omega | exact lq (by omega) | exact nq (by omega) | rfl | (congr 1; omega)
   obtain rfl := Option.some.inj hm1
   simp only [kk0, e9, e12, e16, xc, ↓EVd, isCall, sevalprocAttr]
   refine TI.here (hI0 _ rfl _ ⟨l2, ?_, ?_, ?_, ?_, ?_, ?_, ?_, ?_, ?_, ?_, ?_, ?_, ?_, ?_, ?_, ?_, ?_, ?_, ?_, ?_, ?_⟩)
   all_goals try simp only [kk0, e9, e12, e16, xc, ↓EVd, isCall, sevalprocAttr]
   all_goals first | omega | exact lq (by omega) | exact nq (by omega) | rfl | (congr 1; omega)
 obtain rfl := Option.some.inj hm1
 simp only [kk0, e9, xc, ↓EVd, isCall, sevalprocAttr]
 refine TI.here (hJ0_0 _ ⟨v3, l2, ⟨?_, ?_, ?_, ?_, ?_, ?_, ?_, ?_, ?_, ?_, ?_, ?_, ?_, ?_, ?_, ?_, ?_⟩, hO0 _ rfl⟩)
 all_goals try simp only [kk0, e9, xc, ↓EVd, isCall, sevalprocAttr]
 all_goals first | omega | exact lq (by omega) | exact nq (by omega) | rfl | (congr 1; omega)
def xdo (a0 : Stack) (v2 : List Way) : (List View × Int) → Option (St (List View × Int) (List View))
 | (v6, v7) => if v7 < (v2.length : Int) then (ix v2 v7).bind fun v13 => (x6c a0).bind fun v16 => if 0 ≤ v13.up then (ix v6 v13.up).bind fun v20 => (xpb (⟨(⟨a0.geo.lowers, a0.geo.inodes, a0.geo.blocks, a0.geo.log⟩ : Geo), (⟨a0.upper.nodes⟩ : Branch), a0.lowers⟩ : Stack) v13.ino).bind fun v23 => (xed (⟨(⟨a0.geo.lowers, a0.geo.inodes, a0.geo.blocks, a0.geo.log⟩ : Geo), (⟨a0.upper.nodes⟩ : Branch), a0.lowers⟩ : Stack) v20 v23 v13.name).bind fun v25 => (ap 32 v6 ([(⟨v13.ino, v25⟩ : View)] : List View)).bind fun _ => some (.nx ((v6 ++ ([(⟨v13.ino, v25⟩ : View)] : List View)), (wr (v7 + 1))))
 else (ap 32 v6 ([v16] : List View)).bind fun _ => some (.nx ((v6 ++ ([v16] : List View)), (wr (v7 + 1))))
 else some (.out v6)
def xun (a0 : Stack) : Option (List Way × List View) := (xwn a0.upper ([1] : List Int)).bind fun v2 => (iter (xdo a0 v2) big ([], 0)).bind fun o => (match o with
 | v10 => some (v2, v10))
def xtb := aI (aI (aI (aI (@EV) (@R3)) (aI (@R9) (aI (@R26) (@R29)))) (aI (aI (@R32) (@R68)) (aI (@R73) (aI (@R74) (@R79))))) (aI (aI (aI (@R92) (@R111)) (aI (@DBranch) (aI (@DStack) (@DView)))) (aI (aI (@DPlace) (aI (@DEntry) (@DAttr))) (aI (@DNode) (aI (@DWay) (@mixed)))))
set_option maxHeartbeats 2000000 in
theorem xby (a0 : Stack) (r : List Way × List View) (hm0 : xun a0 = some r) : Ok Tryz.prog 35 [xi a0] (.tup [.sl 3 (r.1.map encWay), .sl 2 (r.2.map xfb)]) := by
 unfold xun at hm0
 refine okG xxx ?_
 unfold xis
 have e1 : (.agg [int a0.geo.lowers, int a0.geo.inodes, int a0.geo.blocks, int a0.geo.log, .sl 13 (a0.upper.nodes.map xh), .sl 1 (a0.lowers.map xk)] : AV) = xi (⟨(⟨a0.geo.lowers, a0.geo.inodes, a0.geo.blocks, a0.geo.log⟩ : Geo), (⟨a0.upper.nodes⟩ : Branch), a0.lowers⟩ : Stack) := _root_.id rfl
 obtain ⟨v2, h3, hm0⟩ := bsE hm0
 simp only [e1, xtb, ↓EVd, isCall, sevalprocAttr]
 refine qcq (xbx _ _ _ h3) rfl (by simp only [e1, FQ, CLO, xtb, ↓EVd, isCall, sevalprocAttr]; first | done | rfl) ?_
 obtain ⟨o0, ho0, hm0⟩ := bsE hm0
 simp only [e1, xtb, ↓EVd, isCall, sevalprocAttr]
 refine cwp_cx 0 (fun s => ∃ v10 : List View, ∃ l9 : Nat, (s.T 5 = .sl 3 (v2.map encWay) ∧ s.T 6 = .msl l9 v10.length ∧ s.H l9 = some (.row 32 2 (v10.map xfb)) ∧ Lq l9 s.nx) ∧ v10 = o0) ?_ fun J0_0 hJ0_0 => ?_
 · rintro T0 H0 x8 ⟨v10, l9, kk0_0, rfl⟩
   dsimp only [Lq, Nq] at kk0_0
   try dsimp only at hm0
   obtain rfl := Option.some.inj hm0
   simp only [kk0_0, e1, xtb, ↓EVd, isCall, sevalprocAttr]
   all_goals first | done | rfl | exact x3l 9 (by simp only [kk0_0, e1, FZ, CLO, xtb, ↓EVd, isCall, sevalprocAttr]) (Sub.tup (Subs.cons (Sub.refl _) (Subs.cons (Sub.refl _) (Subs.nil))))
 refine cwp_lp ho0 (fun (v6, v7) s => ∃ l5 : Nat, s.T 1 = .loc 0 6 0 0 ∧ s.T 4 = .loc 5 6 0 0 ∧ s.T 5 = .sl 3 (v2.map encWay) ∧ s.T 6 = .msl l5 v6.length ∧ s.T 16 = .sl 3 (v2.map encWay) ∧ s.T 17 = int (v2.length : Int) ∧ s.T 18 = int v7 ∧ s.H 0 = some (.row 29 6 [xi a0]) ∧ s.H 5 = some (.row 92 6 [xi (⟨(⟨a0.geo.lowers, a0.geo.inodes, a0.geo.blocks, a0.geo.log⟩ : Geo), (⟨a0.upper.nodes⟩ : Branch), a0.lowers⟩ : Stack)]) ∧ s.H l5 = some (.row 32 2 (v6.map xfb)) ∧ Lq 0 s.nx ∧ Lq 5 s.nx ∧ Lq l5 s.nx ∧ Nq 0 l5 ∧ Nq 5 l5) ?_ ?_
 · refine TI.by (Tn.adopt 6 32 2 (by simp only [e1, xtb, ↓EVd, isCall, sevalprocAttr])) ?_
   refine TI.here ⟨16, ?_, ?_, ?_, ?_, ?_, ?_, ?_, ?_, ?_, ?_, ?_, ?_, ?_, ?_, ?_⟩
   all_goals try simp only [e1, xtb, ↓EVd, isCall, sevalprocAttr]
   all_goals first | omega | exact lq (by omega) | exact nq (by omega) | rfl | (congr 1; omega)
 rintro I0 ⟨v6, v7⟩ T0 H0 x4 st0 ⟨l5, kk0⟩ hm1 hI0 hO0
 dsimp only [Lq, Nq] at kk0
 simp only [xdo] at hm1
 rcases iteE hm1 with ⟨e12, hm1⟩ | ⟨e12, hm1⟩
 · obtain ⟨v13, e15, hm1⟩ := ixE encWay hm1
   obtain ⟨v16, h17, hm1⟩ := bsE hm1
   simp only [kk0, e1, e12, e15, xtb, ↓EVd, isCall, sevalprocAttr]
   refine qc (xye _ _ h17) rfl ?_
   rcases iteE hm1 with ⟨e19, hm1⟩ | ⟨e19, hm1⟩
   · obtain ⟨v20, e22, hm1⟩ := ixE xfb hm1
     obtain ⟨v23, h24, hm1⟩ := bsE hm1
     simp only [kk0, e1, e12, e15, e19, e22, xtb, ↓EVd, isCall, sevalprocAttr]
     refine qd (x0c _ _ _ h24) rfl ?_
     obtain ⟨v25, h26, hm1⟩ := bsE hm1
     simp only [kk0, e1, e12, e15, e19, e22, xtb, ↓EVd, isCall, sevalprocAttr]
     refine qd (xzk _ _ _ _ _ h26) rfl ?_
     have e27 : (.agg [int v13.ino, .sl 2 (v25.map xg)] : AV) = xfb (⟨v13.ino, v25⟩ : View) := _root_.id rfl
     obtain ⟨e30, hm1⟩ := apE hm1
     try simp only [ZL] at e30
     obtain rfl := Option.some.inj hm1
     simp only [kk0, e1, e12, e15, e19, e22, e27, e30, xtb, ↓EVd, isCall, sevalprocAttr]
     refine TI.here (hI0 _ rfl _ ⟨(x4 + 32), ?_, ?_, ?_, ?_, ?_, ?_, ?_, ?_, ?_, ?_, ?_, ?_, ?_, ?_, ?_⟩)
     all_goals try simp only [kk0, e1, e12, e15, e19, e22, e27, e30, xtb, ↓EVd, isCall, sevalprocAttr]
     all_goals first | omega | exact lq (by omega) | exact nq (by omega) | rfl | (congr 1; omega)
   obtain ⟨e34, hm1⟩ := apE hm1
   try simp only [ZL] at e34
   obtain rfl := Option.some.inj hm1
   simp only [kk0, e1, e12, e15, e19, e34, xtb, ↓EVd, isCall, sevalprocAttr]
   refine TI.here (hI0 _ rfl _ ⟨(x4 + 15), ?_, ?_, ?_, ?_, ?_, ?_, ?_, ?_, ?_, ?_, ?_, ?_, ?_, ?_, ?_⟩)
   all_goals try simp only [kk0, e1, e12, e15, e19, e34, xtb, ↓EVd, isCall, sevalprocAttr]
   all_goals first | omega | exact lq (by omega) | exact nq (by omega) | rfl | (congr 1; omega)
 obtain rfl := Option.some.inj hm1
 simp only [kk0, e1, e12, xtb, ↓EVd, isCall, sevalprocAttr]
 refine TI.here (hJ0_0 _ ⟨v6, l5, ⟨?_, ?_, ?_, ?_⟩, hO0 _ rfl⟩)
 all_goals try simp only [kk0, e1, e12, xtb, ↓EVd, isCall, sevalprocAttr]
 all_goals first | omega | exact lq (by omega) | exact nq (by omega) | rfl | (congr 1; omega)
end Go.Proofs.YtapdjibjnfeipaaGreatDoor.AL

