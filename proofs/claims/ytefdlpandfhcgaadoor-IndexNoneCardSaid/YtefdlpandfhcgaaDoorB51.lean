/- A law of the given program is proved: part 51 of 51. -/
import Derived.Test.YtefdlpandfhcgaaDoorB50
set_option linter.all false
/- Models of functions, and that the functions are as their models: written by gen.py. -/
set_option linter.all false
set_option maxRecDepth 100000
namespace Go.Proofs.YtefdlpandfhcgaaDoor.AL
open Go Go.Proofs
def xfe (a0 : Stack) (a1 : Entry) : Option (Bool) := (xff a0 24).bind fun v1 => if (!v1) = true then (x3c ).bind fun v5 => some v5
 else if 40 < (a1.name.size : Int) then (x3c ).bind fun v9 => some v9
 else if (a0.upper.nodes.length : Int) < 3 then (x3c ).bind fun v13 => some v13
 else (xrg a0 a1).bind fun v15 => if (!v15) = true then if a1.ino < 1 then some false
 else if (a0.upper.nodes.length : Int) < a1.ino then some false
 else (ix a0.upper.nodes (wr (a1.ino - 1))).bind fun v23 => if v23.kind ≤ 1 then some false
 else (cloneM 144 a0.upper.nodes).bind fun v28 => (ix v28 1).bind fun v30 => (ix v28 2).bind fun v33 => (xoc (⟨(⟨a0.geo.lowers, a0.geo.inodes, a0.geo.blocks, a0.geo.log⟩ : Geo), (⟨((v28.set 1 (⟨v30.kind, v30.impure, v30.nlink, v30.gen, v30.data, [], (⟨v30.attr.has, v30.attr.opaque0, v30.attr.redirect, (⟨v30.attr.origin.layer, v30.attr.origin.ino, v30.attr.origin.gen⟩ : Origin), v30.attr.shown⟩ : Attr)⟩ : Node)).set 2 (⟨v33.kind, v33.impure, v33.nlink, v33.gen, v33.data, [], (⟨v33.attr.has, v33.attr.opaque0, v33.attr.redirect, (⟨v33.attr.origin.layer, v33.attr.origin.ino, v33.attr.origin.gen⟩ : Origin), v33.attr.shown⟩ : Attr)⟩ : Node))⟩ : Branch), a0.lowers⟩ : Stack)).bind fun v36 => if (v36.length : Int) = 0 then (xwc (⟨(⟨a0.geo.lowers, a0.geo.inodes, a0.geo.blocks, a0.geo.log⟩ : Geo), (⟨((v28.set 1 (⟨v30.kind, v30.impure, v30.nlink, v30.gen, v30.data, [], (⟨v30.attr.has, v30.attr.opaque0, v30.attr.redirect, (⟨v30.attr.origin.layer, v30.attr.origin.ino, v30.attr.origin.gen⟩ : Origin), v30.attr.shown⟩ : Attr)⟩ : Node)).set 2 (⟨v33.kind, v33.impure, v33.nlink, v33.gen, v33.data, [], (⟨v33.attr.has, v33.attr.opaque0, v33.attr.redirect, (⟨v33.attr.origin.layer, v33.attr.origin.ino, v33.attr.origin.gen⟩ : Origin), v33.attr.shown⟩ : Attr)⟩ : Node))⟩ : Branch), a0.lowers⟩ : Stack) a1.ino).bind fun v40 => if (!v40) = true then (x3c ).bind fun v44 => some v44
 else some false
 else some false
 else (cloneM 144 a0.upper.nodes).bind fun v46 => (ix v46 1).bind fun v48 => (ix v46 2).bind fun v51 => (xoc (⟨(⟨a0.geo.lowers, a0.geo.inodes, a0.geo.blocks, a0.geo.log⟩ : Geo), (⟨((v46.set 1 (⟨v48.kind, v48.impure, v48.nlink, v48.gen, v48.data, [], (⟨v48.attr.has, v48.attr.opaque0, v48.attr.redirect, (⟨v48.attr.origin.layer, v48.attr.origin.ino, v48.attr.origin.gen⟩ : Origin), v48.attr.shown⟩ : Attr)⟩ : Node)).set 2 (⟨v51.kind, v51.impure, v51.nlink, v51.gen, v51.data, [], (⟨v51.attr.has, v51.attr.opaque0, v51.attr.redirect, (⟨v51.attr.origin.layer, v51.attr.origin.ino, v51.attr.origin.gen⟩ : Origin), v51.attr.shown⟩ : Attr)⟩ : Node))⟩ : Branch), a0.lowers⟩ : Stack)).bind fun v54 => if (v54.length : Int) = 0 then (xwc (⟨(⟨a0.geo.lowers, a0.geo.inodes, a0.geo.blocks, a0.geo.log⟩ : Geo), (⟨((v46.set 1 (⟨v48.kind, v48.impure, v48.nlink, v48.gen, v48.data, [], (⟨v48.attr.has, v48.attr.opaque0, v48.attr.redirect, (⟨v48.attr.origin.layer, v48.attr.origin.ino, v48.attr.origin.gen⟩ : Origin), v48.attr.shown⟩ : Attr)⟩ : Node)).set 2 (⟨v51.kind, v51.impure, v51.nlink, v51.gen, v51.data, [], (⟨v51.attr.has, v51.attr.opaque0, v51.attr.redirect, (⟨v51.attr.origin.layer, v51.attr.origin.ino, v51.attr.origin.gen⟩ : Origin), v51.attr.shown⟩ : Attr)⟩ : Node))⟩ : Branch), a0.lowers⟩ : Stack) a1.ino).bind fun v58 => if (!v58) = true then (x3c ).bind fun v62 => some v62
 else some false
 else some false
def xc := aI (aI (aI (aI (@EV) (@R3)) (aI (@R9) (@R32))) (aI (aI (@R34) (@R37)) (aI (@R40) (aI (@R44) (@R51))))) (aI (aI (aI (@R54) (@R81)) (aI (@DOrigin) (@DBranch))) (aI (aI (@DStack) (@DNode)) (aI (@DEntry) (aI (@DFinding) (@mixed)))))
set_option maxHeartbeats 2000000 in
theorem x4y (a0 : Stack) (a1 : Entry) (r : Bool) (hm0 : xfe a0 a1 = some r) : Ok Tryd.prog 5 [xob a0, xk a1] (bool r) := by
 unfold xfe at hm0
 refine okH 68 xim ?_
 unfold xli
 obtain ⟨v1, h2, hm0⟩ := bsE hm0
 simp only [xc, xhb, EVH, ↓EVd, isCall, sevalprocAttr]
 refine qc (xyq _ _ _ h2) rfl ?_
 rcases itbE hm0 with ⟨e4, hm0⟩ | ⟨e4, hm0⟩
 · obtain ⟨v5, h6, hm0⟩ := bsE hm0
   simp only [e4, xc, xhb, EVH, ↓EVd, isCall, sevalprocAttr]
   refine qc (xre  _ h6) rfl ?_
   obtain rfl := Option.some.inj hm0
   simp only [e4, xc, xhb, EVH, ↓EVd, isCall, sevalprocAttr]
   all_goals first | done | rfl
 rcases iteE hm0 with ⟨e8, hm0⟩ | ⟨e8, hm0⟩
 · obtain ⟨v9, h10, hm0⟩ := bsE hm0
   simp only [e4, e8, xc, xhb, EVH, ↓EVd, isCall, sevalprocAttr]
   refine qc (xre  _ h10) rfl ?_
   obtain rfl := Option.some.inj hm0
   simp only [e4, e8, xc, xhb, EVH, ↓EVd, isCall, sevalprocAttr]
   all_goals first | done | rfl
 rcases iteE hm0 with ⟨e12, hm0⟩ | ⟨e12, hm0⟩
 · obtain ⟨v13, h14, hm0⟩ := bsE hm0
   simp only [e4, e8, e12, xc, xhb, EVH, ↓EVd, isCall, sevalprocAttr]
   refine qc (xre  _ h14) rfl ?_
   obtain rfl := Option.some.inj hm0
   simp only [e4, e8, e12, xc, xhb, EVH, ↓EVd, isCall, sevalprocAttr]
   all_goals first | done | rfl
 obtain ⟨v15, h16, hm0⟩ := bsE hm0
 simp only [e4, e8, e12, xc, xhb, EVH, ↓EVd, isCall, sevalprocAttr]
 refine qc (xdu _ _ _ h16) rfl ?_
 rcases itbE hm0 with ⟨e18, hm0⟩ | ⟨e18, hm0⟩
 · rcases iteE hm0 with ⟨e20, hm0⟩ | ⟨e20, hm0⟩
   · obtain rfl := Option.some.inj hm0
     simp only [e4, e8, e12, e18, e20, xc, xhb, EVH, ↓EVd, isCall, sevalprocAttr]
     all_goals first | done | rfl
   rcases iteE hm0 with ⟨e22, hm0⟩ | ⟨e22, hm0⟩
   · obtain rfl := Option.some.inj hm0
     simp only [e4, e8, e12, e18, e20, e22, xc, xhb, EVH, ↓EVd, isCall, sevalprocAttr]
     all_goals first | done | rfl
   obtain ⟨v23, e25, hm0⟩ := ixE xd hm0
   rcases iteE hm0 with ⟨e27, hm0⟩ | ⟨e27, hm0⟩
   · obtain rfl := Option.some.inj hm0
     simp only [e4, e8, e12, e18, e20, e22, e25, e27, xc, xhb, EVH, ↓EVd, isCall, sevalprocAttr]
     all_goals first | done | rfl
   have g64 := And.intro (And.intro (And.intro ((e4)) ((e8))) (And.intro ((e12)) ((e18)))) (And.intro (And.intro ((e20)) ((e22))) (And.intro ((e25)) ((e27))))
   obtain ⟨v28, h29, hm0⟩ := bsE hm0
   simp only [g64, xc, xhb, EVH, ↓EVd, isCall, sevalprocAttr]
   refine qco (xlr xtd xeg xcg xbo x1q rfl (by decide) xd _ _ h29 (fun z => by simp only [CLO])) rfl ?_
   simp only [g64, xc, xhb, EVH, ↓EVd, isCall, sevalprocAttr]
   refine fineI [([], []), ([], []), ([0], []), ([], []), ([], []), ([0], []), ([56], []), ([], []), ([], [56]), ([56], []), ([], []), ([], [56])] rfl (by simp only [MT, sevalprocAttr]; first | done | omega) ?_
   obtain ⟨v30, e32, hm0⟩ := ixE xd hm0
   try simp only [sevalprocAttr, eq_self, true_and] at e32
   obtain ⟨v33, e35, hm0⟩ := ixE xd hm0
   try simp only [sevalprocAttr, eq_self, true_and] at e35
   simp only [g64, e32, e35, xc, xhb, EVH, ↓EVd, isCall, sevalprocAttr]
   refine xwg (Tn.row 56 44 13 (((v28.map xd).set 1 (.agg [int v30.kind, int v30.impure, int v30.nlink, int v30.gen, .sl 1 (v30.data.map u8), nilS, int v30.attr.has, int v30.attr.opaque0, str v30.attr.redirect, int v30.attr.origin.layer, int v30.attr.origin.ino, int v30.attr.origin.gen, int v30.attr.shown])).set 2 (.agg [int v33.kind, int v33.impure, int v33.nlink, int v33.gen, .sl 1 (v33.data.map u8), nilS, int v33.attr.has, int v33.attr.opaque0, str v33.attr.redirect, int v33.attr.origin.layer, int v33.attr.origin.ino, int v33.attr.origin.gen, int v33.attr.shown])) (((v28.set 1 (⟨v30.kind, v30.impure, v30.nlink, v30.gen, v30.data, [], (⟨v30.attr.has, v30.attr.opaque0, v30.attr.redirect, (⟨v30.attr.origin.layer, v30.attr.origin.ino, v30.attr.origin.gen⟩ : Origin), v30.attr.shown⟩ : Attr)⟩ : Node)).set 2 (⟨v33.kind, v33.impure, v33.nlink, v33.gen, v33.data, [], (⟨v33.attr.has, v33.attr.opaque0, v33.attr.redirect, (⟨v33.attr.origin.layer, v33.attr.origin.ino, v33.attr.origin.gen⟩ : Origin), v33.attr.shown⟩ : Attr)⟩ : Node)).map xd) (by first | rfl | simp only [g64, e32, e35, xc, xhb, EVH, ↓EVd, isCall, sevalprocAttr]) ((PW.mset xd 2 (PW.mset xd 1 (PW.refl _) (show Sub (.agg [int v30.kind, int v30.impure, int v30.nlink, int v30.gen, .sl 1 (v30.data.map u8), nilS, int v30.attr.has, int v30.attr.opaque0, str v30.attr.redirect, int v30.attr.origin.layer, int v30.attr.origin.ino, int v30.attr.origin.gen, int v30.attr.shown]) (xd (⟨v30.kind, v30.impure, v30.nlink, v30.gen, v30.data, [], (⟨v30.attr.has, v30.attr.opaque0, v30.attr.redirect, (⟨v30.attr.origin.layer, v30.attr.origin.ino, v30.attr.origin.gen⟩ : Origin), v30.attr.shown⟩ : Attr)⟩ : Node)) from Sub.agg (.cons (.refl _) (.cons (.refl _) (.cons (.refl _) (.cons (.refl _) (.cons (.refl _) (.cons (.nilS _) (.refl _))))))))) (show Sub (.agg [int v33.kind, int v33.impure, int v33.nlink, int v33.gen, .sl 1 (v33.data.map u8), nilS, int v33.attr.has, int v33.attr.opaque0, str v33.attr.redirect, int v33.attr.origin.layer, int v33.attr.origin.ino, int v33.attr.origin.gen, int v33.attr.shown]) (xd (⟨v33.kind, v33.impure, v33.nlink, v33.gen, v33.data, [], (⟨v33.attr.has, v33.attr.opaque0, v33.attr.redirect, (⟨v33.attr.origin.layer, v33.attr.origin.ino, v33.attr.origin.gen⟩ : Origin), v33.attr.shown⟩ : Attr)⟩ : Node)) from Sub.agg (.cons (.refl _) (.cons (.refl _) (.cons (.refl _) (.cons (.refl _) (.cons (.refl _) (.cons (.nilS _) (.refl _))))))))).subs)) ?_
   refine xwg (Tn.rowq 0 37 6 [] [int a0.geo.lowers, int a0.geo.inodes, int a0.geo.blocks, int a0.geo.log, .msl 56 v28.length, .sl 1 (a0.lowers.map xx)] 4 56 v28.length 44 13 (((v28.set 1 (⟨v30.kind, v30.impure, v30.nlink, v30.gen, v30.data, [], (⟨v30.attr.has, v30.attr.opaque0, v30.attr.redirect, (⟨v30.attr.origin.layer, v30.attr.origin.ino, v30.attr.origin.gen⟩ : Origin), v30.attr.shown⟩ : Attr)⟩ : Node)).set 2 (⟨v33.kind, v33.impure, v33.nlink, v33.gen, v33.data, [], (⟨v33.attr.has, v33.attr.opaque0, v33.attr.redirect, (⟨v33.attr.origin.layer, v33.attr.origin.ino, v33.attr.origin.gen⟩ : Origin), v33.attr.shown⟩ : Attr)⟩ : Node)).map xd) (by first | rfl | simp only [g64, e32, e35, xc, xhb, EVH, ↓EVd, isCall, sevalprocAttr]) (by first | rfl | simp only [g64, e32, e35, xc, xhb, EVH, ↓EVd, isCall, sevalprocAttr]) rfl (by simp only [List.length_map, List.length_set]) (by simp only [CLO]) (by simp only [g64, e32, e35, xc, xhb, EVH, ↓EVd, isCall, sevalprocAttr])) ?_
   refine xti ?_
   obtain ⟨v36, h37, hm0⟩ := bsE hm0
   simp only [g64, e32, e35, xc, xhb, EVH, ↓EVd, isCall, sevalprocAttr]
   refine qc (xni _ _ h37) rfl ?_
   rcases iteE hm0 with ⟨e39, hm0⟩ | ⟨e39, hm0⟩
   · obtain ⟨v40, h41, hm0⟩ := bsE hm0
     simp only [g64, e32, e35, e39, xc, xhb, EVH, ↓EVd, isCall, sevalprocAttr]
     refine qc (xmj _ _ _ h41) rfl ?_
     rcases itbE hm0 with ⟨e43, hm0⟩ | ⟨e43, hm0⟩
     · obtain ⟨v44, h45, hm0⟩ := bsE hm0
       simp only [g64, e32, e35, e39, e43, xc, xhb, EVH, ↓EVd, isCall, sevalprocAttr]
       refine qc (xre  _ h45) rfl ?_
       obtain rfl := Option.some.inj hm0
       simp only [g64, e32, e35, e39, e43, xc, xhb, EVH, ↓EVd, isCall, sevalprocAttr]
       all_goals first | done | rfl
     obtain rfl := Option.some.inj hm0
     simp only [g64, e32, e35, e39, e43, xc, xhb, EVH, ↓EVd, isCall, sevalprocAttr]
     all_goals first | done | rfl
   obtain rfl := Option.some.inj hm0
   simp only [g64, e32, e35, e39, xc, xhb, EVH, ↓EVd, isCall, sevalprocAttr]
   all_goals first | done | rfl
 obtain ⟨v46, h47, hm0⟩ := bsE hm0
 simp only [e4, e8, e12, e18, xc, xhb, EVH, ↓EVd, isCall, sevalprocAttr]
 refine qco (xlr xtd xeg xcg xbo x1q rfl (by decide) xd _ _ h47 (fun z => by simp only [CLO])) rfl ?_
 simp only [e4, e8, e12, e18, xc, xhb, EVH, ↓EVd, isCall, sevalprocAttr]
 refine fineI [([], []), ([], []), ([0], []), ([], []), ([], []), ([0], []), ([56], []), ([], []), ([], [56]), ([56], []), ([], []), ([], [56])] rfl (by simp only [MT, sevalprocAttr]; first | done | omega) ?_
 obtain ⟨v48, e50, hm0⟩ := ixE xd hm0
 try simp only [sevalprocAttr, eq_self, true_and] at e50
 obtain ⟨v51, e53, hm0⟩ := ixE xd hm0
 try simp only [sevalprocAttr, eq_self, true_and] at e53
 simp only [e4, e8, e12, e18, e50, e53, xc, xhb, EVH, ↓EVd, isCall, sevalprocAttr]
 refine xwg (Tn.row 56 44 13 (((v46.map xd).set 1 (.agg [int v48.kind, int v48.impure, int v48.nlink, int v48.gen, .sl 1 (v48.data.map u8), nilS, int v48.attr.has, int v48.attr.opaque0, str v48.attr.redirect, int v48.attr.origin.layer, int v48.attr.origin.ino, int v48.attr.origin.gen, int v48.attr.shown])).set 2 (.agg [int v51.kind, int v51.impure, int v51.nlink, int v51.gen, .sl 1 (v51.data.map u8), nilS, int v51.attr.has, int v51.attr.opaque0, str v51.attr.redirect, int v51.attr.origin.layer, int v51.attr.origin.ino, int v51.attr.origin.gen, int v51.attr.shown])) (((v46.set 1 (⟨v48.kind, v48.impure, v48.nlink, v48.gen, v48.data, [], (⟨v48.attr.has, v48.attr.opaque0, v48.attr.redirect, (⟨v48.attr.origin.layer, v48.attr.origin.ino, v48.attr.origin.gen⟩ : Origin), v48.attr.shown⟩ : Attr)⟩ : Node)).set 2 (⟨v51.kind, v51.impure, v51.nlink, v51.gen, v51.data, [], (⟨v51.attr.has, v51.attr.opaque0, v51.attr.redirect, (⟨v51.attr.origin.layer, v51.attr.origin.ino, v51.attr.origin.gen⟩ : Origin), v51.attr.shown⟩ : Attr)⟩ : Node)).map xd) (by first | rfl | simp only [e4, e8, e12, e18, e50, e53, xc, xhb, EVH, ↓EVd, isCall, sevalprocAttr]) ((PW.mset xd 2 (PW.mset xd 1 (PW.refl _) (show Sub (.agg [int v48.kind, int v48.impure, int v48.nlink, int v48.gen, .sl 1 (v48.data.map u8), nilS, int v48.attr.has, int v48.attr.opaque0, str v48.attr.redirect, int v48.attr.origin.layer, int v48.attr.origin.ino, int v48.attr.origin.gen, int v48.attr.shown]) (xd (⟨v48.kind, v48.impure, v48.nlink, v48.gen, v48.data, [], (⟨v48.attr.has, v48.attr.opaque0, v48.attr.redirect, (⟨v48.attr.origin.layer, v48.attr.origin.ino, v48.attr.origin.gen⟩ : Origin), v48.attr.shown⟩ : Attr)⟩ : Node)) from Sub.agg (.cons (.refl _) (.cons (.refl _) (.cons (.refl _) (.cons (.refl _) (.cons (.refl _) (.cons (.nilS _) (.refl _))))))))) (show Sub (.agg [int v51.kind, int v51.impure, int v51.nlink, int v51.gen, .sl 1 (v51.data.map u8), nilS, int v51.attr.has, int v51.attr.opaque0, str v51.attr.redirect, int v51.attr.origin.layer, int v51.attr.origin.ino, int v51.attr.origin.gen, int v51.attr.shown]) (xd (⟨v51.kind, v51.impure, v51.nlink, v51.gen, v51.data, [], (⟨v51.attr.has, v51.attr.opaque0, v51.attr.redirect, (⟨v51.attr.origin.layer, v51.attr.origin.ino, v51.attr.origin.gen⟩ : Origin), v51.attr.shown⟩ : Attr)⟩ : Node)) from Sub.agg (.cons (.refl _) (.cons (.refl _) (.cons (.refl _) (.cons (.refl _) (.cons (.refl _) (.cons (.nilS _) (.refl _))))))))).subs)) ?_
 refine xwg (Tn.rowq 0 37 6 [] [int a0.geo.lowers, int a0.geo.inodes, int a0.geo.blocks, int a0.geo.log, .msl 56 v46.length, .sl 1 (a0.lowers.map xx)] 4 56 v46.length 44 13 (((v46.set 1 (⟨v48.kind, v48.impure, v48.nlink, v48.gen, v48.data, [], (⟨v48.attr.has, v48.attr.opaque0, v48.attr.redirect, (⟨v48.attr.origin.layer, v48.attr.origin.ino, v48.attr.origin.gen⟩ : Origin), v48.attr.shown⟩ : Attr)⟩ : Node)).set 2 (⟨v51.kind, v51.impure, v51.nlink, v51.gen, v51.data, [], (⟨v51.attr.has, v51.attr.opaque0, v51.attr.redirect, (⟨v51.attr.origin.layer, v51.attr.origin.ino, v51.attr.origin.gen⟩ : Origin), v51.attr.shown⟩ : Attr)⟩ : Node)).map xd) (by first | rfl | simp only [e4, e8, e12, e18, e50, e53, xc, xhb, EVH, ↓EVd, isCall, sevalprocAttr]) (by first | rfl | simp only [e4, e8, e12, e18, e50, e53, xc, xhb, EVH, ↓EVd, isCall, sevalprocAttr]) rfl (by simp only [List.length_map, List.length_set]) (by simp only [CLO]) (by simp only [e4, e8, e12, e18, e50, e53, xc, xhb, EVH, ↓EVd, isCall, sevalprocAttr])) ?_
 refine xti ?_
 obtain ⟨v54, h55, hm0⟩ := bsE hm0
 simp only [e4, e8, e12, e18, e50, e53, xc, xhb, EVH, ↓EVd, isCall, sevalprocAttr]
 refine qc (xni _ _ h55) rfl ?_
 rcases iteE hm0 with ⟨e57, hm0⟩ | ⟨e57, hm0⟩
 · obtain ⟨v58, h59, hm0⟩ := bsE hm0
   simp only [e4, e8, e12, e18, e50, e53, e57, xc, xhb, EVH, ↓EVd, isCall, sevalprocAttr]
   refine qc (xmj _ _ _ h59) rfl ?_
   rcases itbE hm0 with ⟨e61, hm0⟩ | ⟨e61, hm0⟩
   · have g65 := And.intro (And.intro (And.intro ((e4)) ((e8))) (And.intro ((e12)) ((e18)))) (And.intro (And.intro ((e50)) ((e53))) (And.intro ((e57)) ((e61))))
     obtain ⟨v62, h63, hm0⟩ := bsE hm0
     simp only [g65, xc, xhb, EVH, ↓EVd, isCall, sevalprocAttr]
     refine qc (xre  _ h63) rfl ?_
     obtain rfl := Option.some.inj hm0
     simp only [g65, xc, xhb, EVH, ↓EVd, isCall, sevalprocAttr]
     all_goals first | done | rfl
   obtain rfl := Option.some.inj hm0
   simp only [e4, e8, e12, e18, e50, e53, e57, e61, xc, xhb, EVH, ↓EVd, isCall, sevalprocAttr]
   all_goals first | done | rfl
 obtain rfl := Option.some.inj hm0
 simp only [e4, e8, e12, e18, e50, e53, e57, xc, xhb, EVH, ↓EVd, isCall, sevalprocAttr]
 all_goals first | done | rfl
end Go.Proofs.YtefdlpandfhcgaaDoor.AL

/- Plain laws of chapter 23: the law. -/
set_option linter.all false
namespace Go.Proofs.YtefdlpandfhcgaaDoor.AL
open Go Go.Proofs Go.Lib
theorem xn4 {l : List Node} (h : l.length ≤ 24) : cloneM 144 l = some l := by
  unfold cloneM
  rw [ap_of (by simp; omega) (by omega)]
  rfl
theorem x16 (s : Stack) (e : Entry) : xfe s e = some true := by
  unfold xfe
  have hw : x3c = some true := rfl
  obtain ⟨r, hr, hb⟩ := xiw s 24 (by omega)
  refine xjc hr ?_
  cases r with
  | false => exact xjc hw rfl
  | true =>
    obtain ⟨hs, hd⟩ := hb rfl
    rw [if_neg (by simp)]
    by_cases hn : 40 < (e.name.size : Int)
    · rw [if_pos hn]; exact xjc hw rfl
    · rw [if_neg hn]
      by_cases h3 : (s.upper.nodes.length : Int) < 3
      · rw [if_pos h3]; exact xjc hw rfl
      · rw [if_neg h3]
        have hbad : xrg s e = some (badP2 s e) := by
          unfold xrg
          exact xjc (xmq hs) (xjc (bad_eq hs e) rfl)
        refine xjc hbad ?_
        have tail : ((cloneM 144 s.upper.nodes).bind fun v28 => (ix v28 1).bind fun v30 => (ix v28 2).bind fun v33 => (xoc (⟨(⟨s.geo.lowers, s.geo.inodes, s.geo.blocks, s.geo.log⟩ : Geo), (⟨((v28.set 1 (⟨v30.kind, v30.impure, v30.nlink, v30.gen, v30.data, [], (⟨v30.attr.has, v30.attr.opaque0, v30.attr.redirect, (⟨v30.attr.origin.layer, v30.attr.origin.ino, v30.attr.origin.gen⟩ : Origin), v30.attr.shown⟩ : Attr)⟩ : Node)).set 2 (⟨v33.kind, v33.impure, v33.nlink, v33.gen, v33.data, [], (⟨v33.attr.has, v33.attr.opaque0, v33.attr.redirect, (⟨v33.attr.origin.layer, v33.attr.origin.ino, v33.attr.origin.gen⟩ : Origin), v33.attr.shown⟩ : Attr)⟩ : Node))⟩ : Branch), s.lowers⟩ : Stack)).bind fun v36 => if (v36.length : Int) = 0 then (xwc (⟨(⟨s.geo.lowers, s.geo.inodes, s.geo.blocks, s.geo.log⟩ : Geo), (⟨((v28.set 1 (⟨v30.kind, v30.impure, v30.nlink, v30.gen, v30.data, [], (⟨v30.attr.has, v30.attr.opaque0, v30.attr.redirect, (⟨v30.attr.origin.layer, v30.attr.origin.ino, v30.attr.origin.gen⟩ : Origin), v30.attr.shown⟩ : Attr)⟩ : Node)).set 2 (⟨v33.kind, v33.impure, v33.nlink, v33.gen, v33.data, [], (⟨v33.attr.has, v33.attr.opaque0, v33.attr.redirect, (⟨v33.attr.origin.layer, v33.attr.origin.ino, v33.attr.origin.gen⟩ : Origin), v33.attr.shown⟩ : Attr)⟩ : Node))⟩ : Branch), s.lowers⟩ : Stack) e.ino).bind fun v40 => if (!v40) = true then (x3c ).bind fun v44 => some v44
 else some false
 else some false) = some true := by
          have hl := hs.up.1
          have i1 : ix s.upper.nodes 1 = some (s.upper.nodes[1]'(by omega)) := ix_of (by omega) (by omega)
          have i2 : ix s.upper.nodes 2 = some (s.upper.nodes[2]'(by omega)) := ix_of (by omega) (by omega)
          have hS := xv4 hs (x := s.upper.nodes[1]'(by omega)) (y := s.upper.nodes[2]'(by omega)) (List.getElem_mem _) (List.getElem_mem _)
          have b3 := bare_3 (s := s) (x := s.upper.nodes[1]'(by omega)) (y := s.upper.nodes[2]'(by omega)) (by omega)
          have b2 := bare_2 (s := s) (x := s.upper.nodes[1]'(by omega)) (y := s.upper.nodes[2]'(by omega)) (by omega)
          refine xjc (xn4 hl) (xjc i1 (xjc i2 ?_))
          refine xjc (x3y hS b3 b2) ?_
          rw [if_pos (by rfl)]
          refine xjc (xeu hS b3 e.ino) ?_
          rw [if_pos (by rfl)]
          exact xjc hw rfl
        cases hbp : badP2 s e with
        | true =>
          rw [if_neg (by simp)]
          exact tail
        | false =>
          have hk := xr3 hbp
          obtain ⟨g1, g2⟩ := x6p (b := s.upper) (ino := e.ino) (by omega)
          rw [if_pos (by simp), if_neg (by omega), if_neg (by omega)]
          refine xjc (xth (b := s.upper) (ino := e.ino) (by omega) (by omega) hs.up.1) ?_
          rw [if_neg (by omega)]
          exact tail
end Go.Proofs.YtefdlpandfhcgaaDoor.AL

/- Without entries in its index nothing is found, and an entry that is not bad names a node that is live and no directory. -/
namespace Go.Proofs.YtefdlpandfhcgaaDoor
theorem indexNone_holds : Rows.IndexNoneCardSaid := xvn (x9m fun s e _ _ => AL.x4y s e true (AL.x16 s e))
#print axioms indexNone_holds
end Go.Proofs.YtefdlpandfhcgaaDoor

