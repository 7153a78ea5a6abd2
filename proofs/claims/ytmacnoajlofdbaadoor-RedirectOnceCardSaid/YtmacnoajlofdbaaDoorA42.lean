/- A law of the given program is proved: part 42 of 49. -/
import Derived.RangeFuncNested
import Derived.RangeFuncLeaves
import Derived.TacticsIn
import Derived.ControlIn
import Derived.OwnWalkIn
import Derived.Test.YtmacnoajlofdbaaDoorChecked
import Derived.Test.YtmacnoajlofdbaaDoorA41
set_option linter.all false
/- Models of functions, and that the functions are as their models: written by gen.py. -/
set_option linter.all false
set_option maxRecDepth 100000
namespace Go.Proofs.YtmacnoajlofdbaaDoor.AL
open Go Go.Proofs
def xid (a0 : Node) : Option (Bool) := if a0.kind = 1 then if 0 ≤ a0.attr.has then if (bAnd .i64 a0.attr.has 1) = 0 then some false
 else if a0.attr.opaque0 = 121 then some true
 else some false
 else some false
 else some false
def x1g := aI (aI (aI (@EV) (@R3)) (aI (@R45) (@R47))) (aI (aI (@DOrigin) (@DAttr)) (aI (@DNode) (@DEntry)))
set_option maxHeartbeats 2000000 in
theorem xei (a0 : Node) (r : Bool) (hm0 : xid a0 = some r) : Ok Tryd.prog 58 [xe a0] (bool r) := by
 unfold xid at hm0
 refine okG xyv ?_
 unfold x8o
 rcases iteE hm0 with ⟨e2, hm0⟩ | ⟨e2, hm0⟩
 · rcases iteE hm0 with ⟨e4, hm0⟩ | ⟨e4, hm0⟩
   · rcases iteE hm0 with ⟨e6, hm0⟩ | ⟨e6, hm0⟩
     · obtain rfl := Option.some.inj hm0
       simp only [e2, e4, e6, x1g, ↓EVd, isCall, sevalprocAttr]
       all_goals first | done | rfl
     rcases iteE hm0 with ⟨e8, hm0⟩ | ⟨e8, hm0⟩
     · obtain rfl := Option.some.inj hm0
       simp only [e2, e4, e6, e8, x1g, ↓EVd, isCall, sevalprocAttr]
       all_goals first | done | rfl
     obtain rfl := Option.some.inj hm0
     simp only [e2, e4, e6, e8, x1g, ↓EVd, isCall, sevalprocAttr]
     all_goals first | done | rfl
   obtain rfl := Option.some.inj hm0
   simp only [e2, e4, x1g, ↓EVd, isCall, sevalprocAttr]
   all_goals first | done | rfl
 obtain rfl := Option.some.inj hm0
 simp only [e2, x1g, ↓EVd, isCall, sevalprocAttr]
 all_goals first | done | rfl
def xyd (a0 : Stack) (a1 : Int) : Option (Node) := if a1 < 1 then some (⟨0, 0, 0, 0, [], [], (⟨0, 0, xl, (⟨0, 0, 0⟩ : Origin), 0⟩ : Attr)⟩ : Node)
 else if (a0.upper.nodes.length : Int) < a1 then some (⟨0, 0, 0, 0, [], [], (⟨0, 0, xl, (⟨0, 0, 0⟩ : Origin), 0⟩ : Attr)⟩ : Node)
 else (ix a0.upper.nodes (wr (a1 - 1))).bind fun v5 => some v5
def xri := aI (aI (aI (@EV) (aI (@R3) (@R24))) (aI (@R26) (aI (@R29) (@R47)))) (aI (aI (@R116) (aI (@DBranch) (@DStack))) (aI (aI (@DOrigin) (@DAttr)) (aI (@DNode) (@DEntry))))
set_option maxHeartbeats 2000000 in
theorem xuk (a0 : Stack) (a1 : Int) (r : Node) (hm0 : xyd a0 a1 = some r) : Ok Tryd.prog 56 [xx a0, int a1] (xe r) := by
 unfold xyd at hm0
 refine okG xzp ?_
 unfold x1k
 rcases iteE hm0 with ⟨e2, hm0⟩ | ⟨e2, hm0⟩
 · obtain rfl := Option.some.inj hm0
   simp only [e2, xri, ↓EVd, isCall, sevalprocAttr]
   all_goals first | done | rfl | exact xg (by simp only [CLO]) | exact xgb (by simp only [CLO]) (Sub.agg (Subs.cons (Sub.refl _) (Subs.cons (Sub.refl _) (Subs.cons (Sub.refl _) (Subs.cons (Sub.refl _) (Subs.cons (Sub.nilS _) (Subs.cons (Sub.nilS _) (Subs.cons (Sub.refl _) (Subs.cons (Sub.refl _) (Subs.cons (Sub.refl _) (Subs.cons (Sub.refl _) (Subs.cons (Sub.refl _) (Subs.cons (Sub.refl _) (Subs.cons (Sub.refl _) (Subs.nil)))))))))))))))
 rcases iteE hm0 with ⟨e4, hm0⟩ | ⟨e4, hm0⟩
 · obtain rfl := Option.some.inj hm0
   simp only [e2, e4, xri, ↓EVd, isCall, sevalprocAttr]
   all_goals first | done | rfl | exact xg (by simp only [CLO]) | exact xgb (by simp only [CLO]) (Sub.agg (Subs.cons (Sub.refl _) (Subs.cons (Sub.refl _) (Subs.cons (Sub.refl _) (Subs.cons (Sub.refl _) (Subs.cons (Sub.nilS _) (Subs.cons (Sub.nilS _) (Subs.cons (Sub.refl _) (Subs.cons (Sub.refl _) (Subs.cons (Sub.refl _) (Subs.cons (Sub.refl _) (Subs.cons (Sub.refl _) (Subs.cons (Sub.refl _) (Subs.cons (Sub.refl _) (Subs.nil)))))))))))))))
 obtain ⟨v5, e7, hm0⟩ := ixE xe hm0
 obtain rfl := Option.some.inj hm0
 simp only [e2, e4, e7, xri, ↓EVd, isCall, sevalprocAttr]
 all_goals first | done | rfl | exact xg (by simp only [CLO])
def xxi (a0 : Stack) : Option (View) := (xyd (⟨(⟨a0.geo.lowers, a0.geo.inodes, a0.geo.blocks, a0.geo.log⟩ : Geo), (⟨a0.upper.nodes⟩ : Branch), a0.lowers⟩ : Stack) 1).bind fun v2 => if v2.kind = 1 then (xid v2).bind fun v6 => if (!v6) = true then (xte a0).bind fun v10 => some (⟨1, v10⟩ : View)
 else some (⟨1, []⟩ : View)
 else (xid v2).bind fun v12 => if (!v12) = true then (xte a0).bind fun v16 => some (⟨0, v16⟩ : View)
 else some (⟨0, []⟩ : View)
def xae := aI (aI (aI (aI (@EV) (@R3)) (aI (@R29) (@R47))) (aI (aI (@R63) (@R65)) (aI (@R112) (@R116)))) (aI (aI (aI (@DBranch) (@DStack)) (aI (@DOrigin) (@DAttr))) (aI (aI (@DNode) (@DPlace)) (aI (@DEntry) (@DView))))
set_option maxHeartbeats 2000000 in
theorem x00 (a0 : Stack) (r : View) (hm0 : xxi a0 = some r) : Ok Tryd.prog 54 [xx a0] (xac r) := by
 unfold xxi at hm0
 refine okG xiz ?_
 unfold xss
 have e1 : (.agg [int a0.geo.lowers, int a0.geo.inodes, int a0.geo.blocks, int a0.geo.log, .sl 13 (a0.upper.nodes.map xe), .sl 1 (a0.lowers.map xk)] : AV) = xx (⟨(⟨a0.geo.lowers, a0.geo.inodes, a0.geo.blocks, a0.geo.log⟩ : Geo), (⟨a0.upper.nodes⟩ : Branch), a0.lowers⟩ : Stack) := _root_.id rfl
 obtain ⟨v2, h3, hm0⟩ := bsE hm0
 simp only [e1, xae, ↓EVd, isCall, sevalprocAttr]
 refine qc (xuk _ _ _ h3) rfl ?_
 rcases iteE hm0 with ⟨e5, hm0⟩ | ⟨e5, hm0⟩
 · obtain ⟨v6, h7, hm0⟩ := bsE hm0
   simp only [e1, e5, xae, ↓EVd, isCall, sevalprocAttr]
   refine qc (xei _ _ h7) rfl ?_
   rcases itbE hm0 with ⟨e9, hm0⟩ | ⟨e9, hm0⟩
   · obtain ⟨v10, h11, hm0⟩ := bsE hm0
     simp only [e1, e5, e9, xae, ↓EVd, isCall, sevalprocAttr]
     refine qc (xgk _ _ h11) rfl ?_
     obtain rfl := Option.some.inj hm0
     simp only [e1, e5, e9, xae, ↓EVd, isCall, sevalprocAttr]
     all_goals first | done | rfl | exact xg (by simp only [CLO]) | exact xgb (by simp only [CLO]) (Sub.agg (Subs.cons (Sub.refl _) (Subs.cons (Sub.refl _) (Subs.nil))))
   obtain rfl := Option.some.inj hm0
   simp only [e1, e5, e9, xae, ↓EVd, isCall, sevalprocAttr]
   all_goals first | done | rfl | exact xg (by simp only [CLO]) | exact xgb (by simp only [CLO]) (Sub.agg (Subs.cons (Sub.refl _) (Subs.cons (Sub.nilS _) (Subs.nil))))
 obtain ⟨v12, h13, hm0⟩ := bsE hm0
 simp only [e1, e5, xae, ↓EVd, isCall, sevalprocAttr]
 refine qc (xei _ _ h13) rfl ?_
 rcases itbE hm0 with ⟨e15, hm0⟩ | ⟨e15, hm0⟩
 · obtain ⟨v16, h17, hm0⟩ := bsE hm0
   simp only [e1, e5, e15, xae, ↓EVd, isCall, sevalprocAttr]
   refine qc (xgk _ _ h17) rfl ?_
   obtain rfl := Option.some.inj hm0
   simp only [e1, e5, e15, xae, ↓EVd, isCall, sevalprocAttr]
   all_goals first | done | rfl | exact xg (by simp only [CLO]) | exact xgb (by simp only [CLO]) (Sub.agg (Subs.cons (Sub.refl _) (Subs.cons (Sub.refl _) (Subs.nil))))
 obtain rfl := Option.some.inj hm0
 simp only [e1, e5, e15, xae, ↓EVd, isCall, sevalprocAttr]
 all_goals first | done | rfl | exact xg (by simp only [CLO]) | exact xgb (by simp only [CLO]) (Sub.agg (Subs.cons (Sub.refl _) (Subs.cons (Sub.nilS _) (Subs.nil))))
def x6c (a0 : Stack) (a1 : List Place) (a2 : ByteArray) : Option (List Place) := (xhg a0 a1 a2).bind fun v1 => if v1.1 = 1 then some v1.2
 else some []
def xqi := aI (aI (aI (@EV) (aI (@R3) (@R9))) (aI (aI (@R29) (@R63)) (aI (@R65) (@R116)))) (aI (aI (@DBranch) (aI (@DStack) (@DOrigin))) (aI (aI (@DAttr) (@DNode)) (aI (@DPlace) (@DEntry))))
set_option maxHeartbeats 2000000 in
theorem xyh (a0 : Stack) (a1 : List Place) (a2 : ByteArray) (r : List Place) (hm0 : x6c a0 a1 a2 = some r) : Ok Tryd.prog 73 [xx a0, .sl 2 (a1.map xj), str a2] (.sl 2 (r.map xj)) := by
 unfold x6c at hm0
 refine okG xjq ?_
 unfold x2k
 obtain ⟨v1, h2, hm0⟩ := bsE hm0
 simp only [xqi, ↓EVd, isCall, sevalprocAttr]
 refine qc (xap _ _ _ _ h2) rfl ?_
 rcases iteE hm0 with ⟨e4, hm0⟩ | ⟨e4, hm0⟩
 · obtain rfl := Option.some.inj hm0
   simp only [e4, xqi, ↓EVd, isCall, sevalprocAttr]
   all_goals first | done | rfl | exact xg (by simp only [CLO])
 obtain rfl := Option.some.inj hm0
 simp only [e4, xqi, ↓EVd, isCall, sevalprocAttr]
 all_goals first | done | rfl | exact xgb (by simp only [CLO]) (Sub.nilS _)
def xve (a0 : Stack) (a1 : View) (a2 : Node) (a3 : ByteArray) : Option (List Place) := if a2.kind = 1 then (xid a2).bind fun v3 => if v3 = true then some []
 else if a2.attr.has < 0 then (x6c a0 a1.lower a3).bind fun v9 => some v9
 else if (bAnd .i64 a2.attr.has 2) = 0 then (x6c a0 a1.lower a3).bind fun v13 => some v13
 else (xkc a2.attr.redirect).bind fun v15 => if (!v15.2.2) = true then some []
 else if v15.2.1 = true then (xte a0).bind fun v21 => (xvh a0 v21 v15.1).bind fun v23 => some v23.1
 else (ix v15.1 0).bind fun v25 => (x6c a0 a1.lower v25).bind fun v28 => some v28
 else some []
def xnb := aI (aI (aI (aI (@EV) (@R3)) (aI (@R9) (aI (@R29) (@R45)))) (aI (aI (@R47) (@R61)) (aI (@R63) (aI (@R65) (@R112))))) (aI (aI (aI (@R116) (@DBranch)) (aI (@DStack) (aI (@DOrigin) (@DAttr)))) (aI (aI (@DNode) (@DPlace)) (aI (@DEntry) (aI (@DView) (@mixed)))))
set_option maxHeartbeats 2000000 in
theorem xvp (a0 : Stack) (a1 : View) (a2 : Node) (a3 : ByteArray) (r : List Place) (hm0 : xve a0 a1 a2 a3 = some r) : Ok Tryd.prog 55 [xx a0, xac a1, xe a2, str a3] (.sl 2 (r.map xj)) := by
 unfold xve at hm0
 refine okG xrp ?_
 unfold x6k
 rcases iteE hm0 with ⟨e2, hm0⟩ | ⟨e2, hm0⟩
 · obtain ⟨v3, h4, hm0⟩ := bsE hm0
   simp only [e2, xnb, ↓EVd, isCall, sevalprocAttr]
   refine qc (xei _ _ h4) rfl ?_
   rcases itbE hm0 with ⟨e6, hm0⟩ | ⟨e6, hm0⟩
   · obtain rfl := Option.some.inj hm0
     simp only [e2, e6, xnb, ↓EVd, isCall, sevalprocAttr]
     all_goals first | done | rfl | exact xgb (by simp only [CLO]) (Sub.nilS _)
   rcases iteE hm0 with ⟨e8, hm0⟩ | ⟨e8, hm0⟩
   · obtain ⟨v9, h10, hm0⟩ := bsE hm0
     simp only [e2, e6, e8, xnb, ↓EVd, isCall, sevalprocAttr]
     refine qc (xyh _ _ _ _ h10) rfl ?_
     obtain rfl := Option.some.inj hm0
     simp only [e2, e6, e8, xnb, ↓EVd, isCall, sevalprocAttr]
     all_goals first | done | rfl | exact xg (by simp only [CLO])
   rcases iteE hm0 with ⟨e12, hm0⟩ | ⟨e12, hm0⟩
   · obtain ⟨v13, h14, hm0⟩ := bsE hm0
     simp only [e2, e6, e8, e12, xnb, ↓EVd, isCall, sevalprocAttr]
     refine qc (xyh _ _ _ _ h14) rfl ?_
     obtain rfl := Option.some.inj hm0
     simp only [e2, e6, e8, e12, xnb, ↓EVd, isCall, sevalprocAttr]
     all_goals first | done | rfl | exact xg (by simp only [CLO])
   obtain ⟨v15, h16, hm0⟩ := bsE hm0
   simp only [e2, e6, e8, e12, xnb, ↓EVd, isCall, sevalprocAttr]
   refine qc (x9i _ _ h16) rfl ?_
   rcases itbE hm0 with ⟨e18, hm0⟩ | ⟨e18, hm0⟩
   · obtain rfl := Option.some.inj hm0
     simp only [e2, e6, e8, e12, e18, xnb, ↓EVd, isCall, sevalprocAttr]
     all_goals first | done | rfl | exact xgb (by simp only [CLO]) (Sub.nilS _)
   rcases itbE hm0 with ⟨e20, hm0⟩ | ⟨e20, hm0⟩
   · obtain ⟨v21, h22, hm0⟩ := bsE hm0
     simp only [e2, e6, e8, e12, e18, e20, xnb, ↓EVd, isCall, sevalprocAttr]
     refine qd (xgk _ _ h22) rfl ?_
     obtain ⟨v23, h24, hm0⟩ := bsE hm0
     simp only [e2, e6, e8, e12, e18, e20, xnb, ↓EVd, isCall, sevalprocAttr]
     refine qd (xby _ _ _ _ h24) rfl ?_
     obtain rfl := Option.some.inj hm0
     simp only [e2, e6, e8, e12, e18, e20, xnb, ↓EVd, isCall, sevalprocAttr]
     all_goals first | done | rfl | exact xg (by simp only [CLO])
   obtain ⟨v25, e27, hm0⟩ := ixE str hm0
   try simp only [sevalprocAttr, eq_self, true_and] at e27
   obtain ⟨v28, h29, hm0⟩ := bsE hm0
   simp only [e2, e6, e8, e12, e18, e20, e27, xnb, ↓EVd, isCall, sevalprocAttr]
   refine qd (xyh _ _ _ _ h29) rfl ?_
   obtain rfl := Option.some.inj hm0
   simp only [e2, e6, e8, e12, e18, e20, e27, xnb, ↓EVd, isCall, sevalprocAttr]
   all_goals first | done | rfl | exact xg (by simp only [CLO])
 obtain rfl := Option.some.inj hm0
 simp only [e2, xnb, ↓EVd, isCall, sevalprocAttr]
 all_goals first | done | rfl | exact xgb (by simp only [CLO]) (Sub.nilS _)
def xag (a0 : Stack) (v2 : List Way) : (List View × Int) → Option (St (List View × Int) (List View))
 | (v6, v7) => if v7 < (v2.length : Int) then (ix v2 v7).bind fun v13 => (xxi a0).bind fun v16 => if 0 ≤ v13.up then (ix v6 v13.up).bind fun v20 => (xyd (⟨(⟨a0.geo.lowers, a0.geo.inodes, a0.geo.blocks, a0.geo.log⟩ : Geo), (⟨a0.upper.nodes⟩ : Branch), a0.lowers⟩ : Stack) v13.ino).bind fun v23 => (xve (⟨(⟨a0.geo.lowers, a0.geo.inodes, a0.geo.blocks, a0.geo.log⟩ : Geo), (⟨a0.upper.nodes⟩ : Branch), a0.lowers⟩ : Stack) v20 v23 v13.name).bind fun v25 => (ap 32 v6 ([(⟨v13.ino, v25⟩ : View)] : List View)).bind fun _ => some (.nx ((v6 ++ ([(⟨v13.ino, v25⟩ : View)] : List View)), (wr (v7 + 1))))
 else (ap 32 v6 ([v16] : List View)).bind fun _ => some (.nx ((v6 ++ ([v16] : List View)), (wr (v7 + 1))))
 else some (.out v6)
def xch (a0 : Stack) : Option (List Way × List View) := (x1i a0.upper ([1] : List Int)).bind fun v2 => (iter (xag a0 v2) big ([], 0)).bind fun o => (match o with
 | v10 => some (v2, v10))
def xcc := aI (aI (aI (aI (@EV) (@R3)) (aI (@R9) (aI (@R26) (@R29)))) (aI (aI (@R34) (aI (@R47) (@R68))) (aI (@R71) (aI (@R75) (@R112))))) (aI (aI (aI (@R116) (@DBranch)) (aI (@DStack) (aI (@DOrigin) (@DAttr)))) (aI (aI (@DNode) (aI (@DPlace) (@DWay))) (aI (@DEntry) (aI (@DView) (@mixed)))))
set_option maxHeartbeats 2000000 in
theorem xtp (a0 : Stack) (r : List Way × List View) (hm0 : xch a0 = some r) : Ok Tryd.prog 42 [xx a0] (.tup [.sl 3 (r.1.map encWay), .sl 2 (r.2.map xac)]) := by
 unfold xch at hm0
 refine okG xcz ?_
 unfold xrs
 have e1 : (.agg [int a0.geo.lowers, int a0.geo.inodes, int a0.geo.blocks, int a0.geo.log, .sl 13 (a0.upper.nodes.map xe), .sl 1 (a0.lowers.map xk)] : AV) = xx (⟨(⟨a0.geo.lowers, a0.geo.inodes, a0.geo.blocks, a0.geo.log⟩ : Geo), (⟨a0.upper.nodes⟩ : Branch), a0.lowers⟩ : Stack) := _root_.id rfl
 obtain ⟨v2, h3, hm0⟩ := bsE hm0
 simp only [e1, xcc, ↓EVd, isCall, sevalprocAttr]
 refine qcq (x9y _ _ _ h3) rfl (by simp only [e1, FQ, CLO, xcc, ↓EVd, isCall, sevalprocAttr]; first | done | rfl) ?_
 obtain ⟨o0, ho0, hm0⟩ := bsE hm0
 simp only [e1, xcc, ↓EVd, isCall, sevalprocAttr]
 refine cwp_cx 0 (fun s => ∃ v10 : List View, ∃ l9 : Nat, (s.T 5 = .sl 3 (v2.map encWay) ∧ s.T 6 = .msl l9 v10.length ∧ s.H l9 = some (.row 112 2 (v10.map xac)) ∧ Lq l9 s.nx) ∧ v10 = o0) ?_ fun J0_0 hJ0_0 => ?_
 · rintro T0 H0 x8 ⟨v10, l9, kk0_0, rfl⟩
   dsimp only [Lq, Nq] at kk0_0
   try dsimp only at hm0
   obtain rfl := Option.some.inj hm0
   simp only [kk0_0, e1, xcc, ↓EVd, isCall, sevalprocAttr]
   all_goals first | done | rfl | exact xik 9 (by simp only [kk0_0, e1, FZ, CLO, xcc, ↓EVd, isCall, sevalprocAttr]) (Sub.tup (Subs.cons (Sub.refl _) (Subs.cons (Sub.refl _) (Subs.nil))))
 refine cwp_lp ho0 (fun (v6, v7) s => ∃ l5 : Nat, s.T 1 = .loc 0 6 0 0 ∧ s.T 4 = .loc 5 6 0 0 ∧ s.T 5 = .sl 3 (v2.map encWay) ∧ s.T 6 = .msl l5 v6.length ∧ s.T 16 = .sl 3 (v2.map encWay) ∧ s.T 17 = int (v2.length : Int) ∧ s.T 18 = int v7 ∧ s.H 0 = some (.row 29 6 [xx a0]) ∧ s.H 5 = some (.row 116 6 [xx (⟨(⟨a0.geo.lowers, a0.geo.inodes, a0.geo.blocks, a0.geo.log⟩ : Geo), (⟨a0.upper.nodes⟩ : Branch), a0.lowers⟩ : Stack)]) ∧ s.H l5 = some (.row 112 2 (v6.map xac)) ∧ Lq 0 s.nx ∧ Lq 5 s.nx ∧ Lq l5 s.nx ∧ Nq 0 l5 ∧ Nq 5 l5) ?_ ?_
 · refine TI.by (Tn.adopt 6 112 2 (by simp only [e1, xcc, ↓EVd, isCall, sevalprocAttr])) ?_
   refine TI.here ⟨16, ?_, ?_, ?_, ?_, ?_, ?_, ?_, ?_, ?_, ?_, ?_, ?_, ?_, ?_, ?_⟩
   all_goals try simp only [e1, xcc, ↓EVd, isCall, sevalprocAttr]
   all_goals first | omega | exact lq (by omega) | exact nq (by omega) | rfl | (congr 1; omega)
 rintro I0 ⟨v6, v7⟩ T0 H0 x4 st0 ⟨l5, kk0⟩ hm1 hI0 hO0
 dsimp only [Lq, Nq] at kk0
 simp only [xag] at hm1
 rcases iteE hm1 with ⟨e12, hm1⟩ | ⟨e12, hm1⟩
 · obtain ⟨v13, e15, hm1⟩ := ixE encWay hm1
   obtain ⟨v16, h17, hm1⟩ := bsE hm1
   simp only [kk0, e1, e12, e15, xcc, ↓EVd, isCall, sevalprocAttr]
   refine qc (x00 _ _ h17) rfl ?_
   rcases iteE hm1 with ⟨e19, hm1⟩ | ⟨e19, hm1⟩
   · obtain ⟨v20, e22, hm1⟩ := ixE xac hm1
     obtain ⟨v23, h24, hm1⟩ := bsE hm1
     simp only [kk0, e1, e12, e15, e19, e22, xcc, ↓EVd, isCall, sevalprocAttr]
     refine qd (xuk _ _ _ h24) rfl ?_
     obtain ⟨v25, h26, hm1⟩ := bsE hm1
     simp only [kk0, e1, e12, e15, e19, e22, xcc, ↓EVd, isCall, sevalprocAttr]
     refine qd (xvp _ _ _ _ _ h26) rfl ?_
     have e27 : (.agg [int v13.ino, .sl 2 (v25.map xj)] : AV) = xac (⟨v13.ino, v25⟩ : View) := _root_.id rfl
     obtain ⟨e30, hm1⟩ := apE hm1
     try simp only [ZL] at e30
     obtain rfl := Option.some.inj hm1
     simp only [kk0, e1, e12, e15, e19, e22, e27, e30, xcc, ↓EVd, isCall, sevalprocAttr]
     refine TI.here (hI0 _ rfl _ ⟨(x4 + 32), ?_, ?_, ?_, ?_, ?_, ?_, ?_, ?_, ?_, ?_, ?_, ?_, ?_, ?_, ?_⟩)
     all_goals try simp only [kk0, e1, e12, e15, e19, e22, e27, e30, xcc, ↓EVd, isCall, sevalprocAttr]
     all_goals first | omega | exact lq (by omega) | exact nq (by omega) | rfl | (congr 1; omega)
   obtain ⟨e34, hm1⟩ := apE hm1
   try simp only [ZL] at e34
   obtain rfl := Option.some.inj hm1
   simp only [kk0, e1, e12, e15, e19, e34, xcc, ↓EVd, isCall, sevalprocAttr]
   refine TI.here (hI0 _ rfl _ ⟨(x4 + 15), ?_, ?_, ?_, ?_, ?_, ?_, ?_, ?_, ?_, ?_, ?_, ?_, ?_, ?_, ?_⟩)
   all_goals try simp only [kk0, e1, e12, e15, e19, e34, xcc, ↓EVd, isCall, sevalprocAttr]
   all_goals first | omega | exact lq (by omega) | exact nq (by omega) | rfl | (congr 1; omega)
 obtain rfl := Option.some.inj hm1
 simp only [kk0, e1, e12, xcc, ↓EVd, isCall, sevalprocAttr]
 refine TI.here (hJ0_0 _ ⟨v6, l5, ⟨?_, ?_, ?_, ?_⟩, hO0 _ rfl⟩)
 all_goals try simp only [kk0, e1, e12, xcc, ↓EVd, isCall, sevalprocAttr]
 all_goals first | omega | exact lq (by omega) | exact nq (by omega) | rfl | (congr 1; omega)
end Go.Proofs.YtmacnoajlofdbaaDoor.AL


/- Plain laws, part 0: nodes. -/
set_option linter.all false
namespace Go.Proofs.YtmacnoajlofdbaaDoor.AL
open Go Go.Proofs
def xsd : Node := ⟨0, 0, 0, 0, [], [], ⟨0, 0, xl, ⟨0, 0, 0⟩, 0⟩⟩
def nodeP (b : Branch) (ino : Int) : Node := if ino < 1 then xsd else if (b.nodes.length : Int) < ino then xsd else (b.nodes[(ino - 1).toNat]?).getD xsd
structure PB (b : Branch) : Prop where
  len : b.nodes.length ≤ 24
  ents : ∀ x ∈ b.nodes, x.entries.length ≤ 16
theorem at_eq {b : Branch} (hb : PB b) (ino : Int) : xsf b ino = some (nodeP b ino) := by
  unfold xsf nodeP
  split
  · rfl
  · split
    · rfl
    · rename_i h1 h2
      have := hb.len
      rw [wr_in (by omega) (by omega), ix_of (by omega) (by omega)]
      have hlt : (ino - 1).toNat < b.nodes.length := by omega
      simp only [Option.bind_some, List.getElem?_eq_getElem hlt, Option.getD_some]
theorem x3h {b : Branch} (hb : PB b) (ino : Int) : (nodeP b ino).entries.length ≤ 16 := by
  unfold nodeP
  split
  · simp [xsd]
  · split
    · simp [xsd]
    · rename_i h1 h2
      have hlt : (ino - 1).toNat < b.nodes.length := by omega
      simp only [List.getElem?_eq_getElem hlt, Option.getD_some]
      exact hb.ents _ (List.getElem_mem hlt)
theorem xof {b : Branch} {ino : Int} (h : (nodeP b ino).kind = 1) : 1 ≤ ino ∧ ino ≤ (b.nodes.length : Int) := by
  unfold nodeP at h
  split at h
  · simp [xsd] at h
  · split at h
    · simp [xsd] at h
    · omega
end Go.Proofs.YtmacnoajlofdbaaDoor.AL

/- Plain laws of chapter 17: nodes, roots, parts. -/
set_option linter.all false
namespace Go.Proofs.YtmacnoajlofdbaaDoor.AL
open Go Go.Proofs
structure NV (x : Node) : Prop where
  ents : x.entries.length ≤ 32
  has0 : 0 ≤ x.attr.has
  has1 : x.attr.has ≤ 31
structure PU (b : Branch) : Prop where
  len : b.nodes.length ≤ 30
  nodes : ∀ x ∈ b.nodes, NV x
structure SV (s : Stack) : Prop where
  up : PU s.upper
  low : PQ s.lowers
theorem NB.nv {x : Node} (h : NB x) : NV x := ⟨Nat.le_trans h.ents (by omega), h.has0, h.has1⟩
theorem SB.sv {s : Stack} (h : SB s) : SV s := ⟨⟨Nat.le_trans h.up.1 (by omega), fun x hx => (h.up.2 x hx).nv⟩, h.pq⟩
theorem SB.pb {s : Stack} (h : SB s) : PB s.upper := ⟨h.up.1, fun x hx => (h.up.2 x hx).ents⟩
theorem xqk (s : Stack) : (⟨(⟨s.geo.lowers, s.geo.inodes, s.geo.blocks, s.geo.log⟩ : Geo), (⟨s.upper.nodes⟩ : Branch), s.lowers⟩ : Stack) = s := rfl
theorem x4z {s : Stack} (h : SV s) (ino : Int) : xyd s ino = some (nodeP s.upper ino) := by
  unfold xyd nodeP
  split
  · rfl
  · split
    · rfl
    · rename_i h1 h2
      have := h.up.len
      rw [wr_in (by omega) (by omega), ix_of (by omega) (by omega)]
      have hlt : (ino - 1).toNat < s.upper.nodes.length := by omega
      simp only [Option.bind_some, List.getElem?_eq_getElem hlt, Option.getD_some]
theorem xz2 : NV xsd := ⟨by simp [xsd], by simp [xsd], by simp [xsd]⟩
theorem xtl {b : Branch} (h : PU b) (ino : Int) : NV (nodeP b ino) := by
  unfold nodeP
  split
  · exact xz2
  · split
    · exact xz2
    · rename_i h1 h2
      have hlt : (ino - 1).toNat < b.nodes.length := by omega
      simp only [List.getElem?_eq_getElem hlt, Option.getD_some]
      exact h.nodes _ (List.getElem_mem hlt)
def opqV (n : Node) : Bool := decide (n.kind = 1) && opqQ n
theorem xmeb {n : Node} (h : NV n) : xqd n = some (opqQ n) := by
  have := xeo (n := { n with entries := [] }) ⟨by simp, h.has0, h.has1⟩
  exact this
theorem xco {n : Node} (h : NV n) : xid n = some (opqV n) := by
  have e : xid n = if n.kind = 1 then xqd n else some false := rfl
  rw [e, xmeb h]
  unfold opqV
  by_cases hk : n.kind = 1 <;> simp [hk]
def rootV (s : Stack) : View := ⟨if (nodeP s.upper 1).kind = 1 then 1 else 0, if opqV (nodeP s.upper 1) = true then [] else rootsQ s.lowers⟩
theorem x09 {s : Stack} (h : SV s) : xxi s = some (rootV s) := by
  unfold xxi rootV
  rw [xqk, x4z h]
  simp only [Option.bind_some]
  rw [xco (xtl h.up 1), xsz h.low]
  simp only [Option.bind_some]
  by_cases hk : (nodeP s.upper 1).kind = 1
  · rw [if_pos hk, if_pos hk]
    cases opqV (nodeP s.upper 1) <;> rfl
  · rw [if_neg hk, if_neg hk]
    cases opqV (nodeP s.upper 1) <;> rfl
theorem xl6 {s : Stack} (h : SV s) : (rootV s).lower.length ≤ 3 := by
  show (if opqV (nodeP s.upper 1) = true then [] else rootsQ s.lowers).length ≤ 3
  split
  · simp
  · exact xgo h.low
theorem bits2 (k : Fin 32) : bAnd .i64 (k.val : Int) 2 = 0 ↔ ¬ (wr ((k.val : Int).tdiv 2)).tmod 2 = 1 := by
  revert k
  decide +kernel
def redB (n : Node) : Bool := decide ((wr (n.attr.has.tdiv 2)).tmod 2 = 1)
theorem xcs {n : Node} (h : NV n) : bAnd .i64 n.attr.has 2 = 0 ↔ ¬ redB n = true := by
  have e : ((n.attr.has.toNat : Nat) : Int) = n.attr.has := by have := h.has0; omega
  have hb := bits2 ⟨n.attr.has.toNat, by have := h.has0; have := h.has1; omega⟩
  simp only [e] at hb
  rw [hb]
  simp [redB]
theorem xvbb {n : Node} (h : NV n) : xyf n.attr 2 = some (redB n) := by
  unfold xyf xnk redB ck
  rw [if_pos h.has0, if_pos (by decide)]
  simp only [Option.bind_some]
  by_cases hq : (wr (n.attr.has.tdiv 2)).tmod 2 = 1
  · rw [if_pos hq]; exact congrArg some (decide_eq_true hq).symm
  · rw [if_neg hq]; exact congrArg some (decide_eq_false hq).symm
theorem xst (s : ByteArray) : xkc s = some (redirP s) := by
  by_cases h : s.size ≤ 2000000
  · exact xfy h
  · unfold xkc redirP
    rw [if_pos (by omega), if_pos (by omega)]
theorem x6t (s : ByteArray) : (redirP s).1.length ≤ 1000 := by
  unfold redirP
  split
  · simp
  · split
    · rename_i h1 h2
      unfold splitP
      split
      · simp
      · split
        · have := xev s; simp only; omega
        · simp
    · split <;> simp
theorem xju {s : ByteArray} (h : (redirP s).2.2 = true) (h2 : ¬ (redirP s).2.1 = true) : ∃ x, (redirP s).1 = [x] := by
  unfold redirP at h h2 ⊢
  split
  · rename_i h1; rw [if_pos h1] at h; cases h
  · rename_i h1
    rw [if_neg h1] at h h2
    split
    · rename_i h3; rw [if_pos h3] at h h2; exact absurd h h2
    · rename_i h3
      rw [if_neg h3] at h
      split
      · exact ⟨_, rfl⟩
      · rename_i h4; rw [if_neg h4] at h; cases h
def dirsV (s : Stack) (l : List Place) (nm : ByteArray) : List Place := if (findQ s.lowers l nm).1 = 1 then (findQ s.lowers l nm).2 else []
def partV (s : Stack) (v : View) (n : Node) (nm : ByteArray) : List Place :=
  if n.kind = 1 then if opqQ n = true then [] else if redB n = true then
    if (redirP n.attr.redirect).2.2 = true then if (redirP n.attr.redirect).2.1 = true then (lookQ s.lowers (rootsQ s.lowers) (redirP n.attr.redirect).1).1 else dirsV s v.lower ((redirP n.attr.redirect).1.headD xl) else []
    else dirsV s v.lower nm else []
theorem x12 {s : Stack} (h : SV s) {l : List Place} (hl : l.length ≤ 1000) (nm : ByteArray) : x6c s l nm = some (dirsV s l nm) := by
  unfold x6c dirsV
  rw [xu2 h.low hl]
  simp only [Option.bind_some]
  split <;> rfl
theorem xueb {s : Stack} (h : SV s) {v : View} (hv : v.lower.length ≤ 1000) {n : Node} (hn : NV n) (nm : ByteArray) : xve s v n nm = some (partV s v n nm) := by
  unfold xve partV
  by_cases hk : n.kind = 1
  · rw [if_pos hk, if_pos hk, xco hn]
    have eo : opqV n = opqQ n := by simp [opqV, hk]
    rw [eo]
    simp only [Option.bind_some]
    by_cases ho : opqQ n = true
    · rw [if_pos ho, if_pos ho]
    · rw [if_neg ho, if_neg ho, if_neg (by have := hn.has0; omega), x12 h hv]
      simp only [Option.bind_some]
      by_cases hr : redB n = true
      · rw [if_neg (fun e => (xcs hn).1 e hr), if_pos hr, xst]
        simp only [Option.bind_some]
        by_cases hok : (redirP n.attr.redirect).2.2 = true
        · rw [if_neg (by simp [hok]), if_pos hok]
          by_cases ha : (redirP n.attr.redirect).2.1 = true
          · have hrl := xgo h.low
            rw [if_pos ha, if_pos ha, xsz h.low]
            simp only [Option.bind_some]
            rw [x5cb h.low (by omega) (x6t _)]
            rfl
          · rw [if_neg ha, if_neg ha]
            obtain ⟨x, hx⟩ := xju hok ha
            rw [hx]
            have : ix [x] 0 = some x := rfl
            rw [this]
            simp only [Option.bind_some, List.headD_cons]
            rw [x12 h hv]
            rfl
        · rw [if_pos (by simpa using hok), if_neg hok]
      · rw [if_pos ((xcs hn).2 hr), if_neg hr]
  · rw [if_neg hk, if_neg hk]
theorem xzx (s : Stack) (l : List Place) (nm : ByteArray) : (dirsV s l nm).length ≤ l.length := by
  unfold dirsV
  split
  · exact xar _ _ _
  · simp
theorem xl5 {s : Stack} (h : SV s) {v : View} {m : Nat} (hv : v.lower.length ≤ m) (hm : 3 ≤ m) (n : Node) (nm : ByteArray) : (partV s v n nm).length ≤ m := by
  unfold partV
  split
  · split
    · simp
    · split
      · split
        · split
          · have h1 := xqw (bs := s.lowers) (redirP n.attr.redirect).1 (rootsQ s.lowers)
            have h2 := xgo h.low
            omega
          · exact Nat.le_trans (xzx _ _ _) hv
        · simp
      · exact Nat.le_trans (xzx _ _ _) hv
  · simp
theorem xv5 {s : Stack} {v : View} {n : Node} {nm : ByteArray} (h : opqV n = true) : partV s v n nm = [] := by
  unfold opqV at h
  simp only [Bool.and_eq_true, decide_eq_true_eq] at h
  unfold partV
  rw [if_pos h.1, if_pos h.2]
end Go.Proofs.YtmacnoajlofdbaaDoor.AL

/- AL: the program's own cells, where all cells are kept; written by g0.py. -/
set_option linter.all false
namespace Go.Proofs.YtmacnoajlofdbaaDoor.AL
open Go Go.Proofs Go.RowKit
theorem x19 {w : World} {b o : Nat} {v : Value} (h : w.cell? ⟨b, o, none⟩ = some v) : ∃ ob, w.heap[b]? = some ob ∧ ob.isCells = true := by
  unfold World.cell? at h
  simp only at h
  split at h
  · rename_i c T fr hb
    exact ⟨_, hb, rfl⟩
  · cases h
theorem GW.keep {w w' : World} (h : GW w) (hs : w.heap.size ≤ w'.heap.size) (hk : ∀ b o, b < gN → w.heap[b]? = some o → o.isCells = true → w'.heap[b]? = some o) : GW w' := by
  obtain ⟨h0, ⟨m0, h1⟩⟩ := h
  refine ⟨Nat.le_trans h0 hs, ⟨m0, ?_⟩⟩
  · obtain ⟨ob, ho, hc⟩ := x19 h1
    exact (World.cell?_of_block (a := ⟨0, 0, none⟩) ((hk 0 ob (by unfold gN; omega) ho hc).trans ho.symm)).trans h1
end Go.Proofs.YtmacnoajlofdbaaDoor.AL

/- AL: the walk of an iterator: whatever the rounds do to the world is told by a word JJ of its own. -/
set_option linter.all false
namespace Go.Proofs.YtmacnoajlofdbaaDoor.AL
open Go.RowKit
mutual
def posz : AV → Bool
  | .val _ => true
  | .agg cs => poszs cs
  | .tup cs => poszs cs
  | .sl sz xs => decide (0 < sz) && poszs xs
  | .ptr x _ => posz x && (match x with
    | .agg cs => !cs.isEmpty
    | x => x.one)
  | .fn _ a b => poszs a && poszs b
  | .ifc _ x => posz x
  | .e0 => true
  | .junk => true
  | _ => false
def poszs : List AV → Bool
  | [] => true
  | x :: xs => posz x && poszs xs
end
def Zc (Z : Nat → Prop) (w : World) (b : Nat) : Prop := Z b ∧ ∃ o, w.heap[b]? = some o ∧ o.isCells = true
theorem xyo {w : World} {b o : Nat} {v : Value} (h : w.cell? ⟨b, o, none⟩ = some v) : ∃ ob, w.heap[b]? = some ob ∧ ob.isCells = true := by
  unfold World.cell? at h
  simp only at h
  split at h
  · rename_i c T fr hb
    exact ⟨_, hb, rfl⟩
  · cases h
mutual
theorem VRep.cellsZ {Z : Nat → Prop} {w : World} : ∀ (x : AV) (u : Value), posz x = true → VRep (Ec Z w) x u → VRep (Ec (Zc Z w) w) x u
  | .val v, u, _, h => by simpa only [VRep] using h
  | .agg cs, u, hc, h => by
    simp only [VRep] at h ⊢
    obtain ⟨us, h1, h2⟩ := h
    exact ⟨us, VReps.cellsZ cs us (by simpa only [posz] using hc) h1, h2⟩
  | .tup cs, u, hc, h => by
    simp only [VRep] at h ⊢
    obtain ⟨us, h1, h2⟩ := h
    exact ⟨us, VReps.cellsZ cs us (by simpa only [posz] using hc) h1, h2⟩
  | .sl sz xs, u, hc, h => by
    simp only [posz, Bool.and_eq_true, decide_eq_true_eq] at hc
    simp only [VRep] at h ⊢
    obtain ⟨us, A, cap, h1, h2, h3, h4⟩ := h
    refine ⟨us, A, cap, VReps.cellsZ xs us hc.2 h1, h2, h3, ?_⟩
    rcases h4 with h4 | ⟨b, o, g1, g2, g3⟩
    · exact .inl h4
    · cases us with
      | nil => exact .inl rfl
      | cons u0 us' =>
        obtain ⟨k1, k2, k3⟩ := g3 0 u0 rfl
        have hlt : 0 < u0.cells.size := by omega
        have := k3 0 u0.cells[0] (by simp [hlt])
        obtain ⟨ob, hob⟩ := xyo this
        exact .inr ⟨b, o, g1, ⟨g2, ob, hob⟩, g3⟩
  | .ptr x off, u, hc, h => by
    simp only [posz, Bool.and_eq_true] at hc
    simp only [VRep] at h ⊢
    obtain ⟨v, b, o, h1, h2, h3, h4⟩ := h
    have hne : 0 < v.cells.size := by
      have hx : x.one = true ∨ ∃ cs, x = .agg cs := by
        cases x <;> first
          | exact .inr ⟨_, rfl⟩
          | exact .inl hc.2
      have := (h1.cells hx).length
      have hl : 0 < x.cells.length := by
        cases x <;> simp_all [AV.cells]
        cases ‹List AV› <;> simp_all
      simp at this
      omega
    have := h4 0 v.cells[0] (by simp [hne])
    obtain ⟨ob, hob⟩ := xyo this
    exact ⟨v, b, o, VRep.cellsZ x v hc.1 h1, h2, ⟨h3, ob, hob⟩, h4⟩
  | .fn f fi ca, u, hc, h => by
    simp only [posz, Bool.and_eq_true] at hc
    simp only [VRep] at h ⊢
    obtain ⟨a, b, h1, h2, h3⟩ := h
    exact ⟨a, b, VReps.cellsZ fi a hc.1 h1, VReps.cellsZ ca b hc.2 h2, h3⟩
  | .ifc t x, u, hc, h => by
    simp only [VRep] at h ⊢
    obtain ⟨v, h1, h2⟩ := h
    exact ⟨v, VRep.cellsZ x v (by simpa only [posz] using hc) h1, h2⟩
  | .e0, u, _, h => by simpa only [VRep] using h
  | .junk, u, _, h => by simp only [VRep]
  | .loc .., _, hc, _ => by simp [posz] at hc
  | .msl .., _, hc, _ => by simp [posz] at hc
  | .mp .., _, hc, _ => by simp [posz] at hc
  | .mtl .., _, hc, _ => by simp [posz] at hc
theorem VReps.cellsZ {Z : Nat → Prop} {w : World} : ∀ (xs : List AV) (us : List Value), poszs xs = true → VReps (Ec Z w) xs us → VReps (Ec (Zc Z w) w) xs us
  | [], us, _, h => by simpa only [VReps] using h
  | x :: xs, us, hc, h => by
    simp only [poszs, Bool.and_eq_true] at hc
    simp only [VReps] at h ⊢
    obtain ⟨u, us', h1, h2, h3⟩ := h
    exact ⟨u, us', VRep.cellsZ x u hc.1 h1, VReps.cellsZ xs us' hc.2 h2, h3⟩
end
section
variable {P : Program} {n : Nat} {σ : Type} (live : σ → Bool) (JJ : σ → World → Prop) (Zx : σ → Nat → Prop)
def SYl (n : Nat) (s : AS) (y : σ) (a : Act) (w : World) : Prop :=
  ∃ (C : Ctx) (E0 : Env) (k0 : Nat) (E : Env), JJ y C.w0 ∧ C.base = C.w0.heap.size ∧ k0 ≤ s.nx ∧ SR C E0 k0 n s a E ∧ E.w = w ∧ (∀ b, C.zone b → ¬ Zx y b) ∧ (∀ b, Zx y b → b < C.base)
def SYd (n : Nat) (s : AS) (y : σ) (a : Act) (w : World) : Prop :=
  JJ y w ∧ a.tmps.size = n ∧ a.defers = [] ∧ ∀ t, VRep (Ec (fun _ => False) w) (s.T t) (a.tmps.getD t undef)
def SY (n : Nat) (s : AS) (y : σ) (a : Act) (w : World) : Prop := if live y = true then SYl JJ Zx n s y a w else SYd JJ n s y a w
def wY (P : Program) (n : Nat) (c : Code) (Q : Exit → AS → σ → Prop) (s : AS) (y : σ) : Prop :=
  ∀ (a : Act) (w : World), SY live JJ Zx n s y a w → c.wp P (fun e a' w' => ∃ s' y', Q e s' y' ∧ SY live JJ Zx n s' y' a' w') a w
def cY (P : Program) (n : Nat) (x : AC) (Q : Exit → AS → σ → Prop) (s : AS) (y : σ) : Prop := ∀ c, comp n c = some x → wY live JJ Zx P n c Q s y
def yQ (next : AS → σ → Prop) (Q : Exit → AS → σ → Prop) : Exit → AS → σ → Prop
  | .normal, s, y => next s y
  | e, s, y => Q e s y
def byQ (id : Nat) (Q : Exit → AS → σ → Prop) : Exit → AS → σ → Prop
  | .exit id', s, y => if id' = id then Q .normal s y else Q (.exit id') s y
  | e, s, y => Q e s y
def gyQ (Q : Exit → AS → σ → Prop) : Exit → AS → σ → Prop
  | .goto _, _, _ => False
  | e, s, y => Q e s y
variable {live JJ Zx} {Q : Exit → AS → σ → Prop} {s : AS} {y : σ}
theorem xlw {a : Act} {w : World} (h : live y = true) (hS : SY live JJ Zx n s y a w) : SYl JJ Zx n s y a w := by unfold SY at hS; rwa [if_pos h] at hS
theorem SYl_SY {a : Act} {w : World} (h : live y = true) (hS : SYl JJ Zx n s y a w) : SY live JJ Zx n s y a w := by unfold AL.SY; rwa [if_pos h]
theorem cY_of {x : AC} {Q' : Exit → AS → Prop} (hy : live y = true) (h : cwp P n x Q' s) (hq : ∀ e s', Q' e s' → Q e s' y) : cY live JJ Zx P n x Q s y := by
  intro c hc a w hSY
  obtain ⟨C, E0, k0, E, hJ, hb, hk, hS, rfl, hz⟩ := xlw hy hSY
  refine wp_mono (h c hc C E0 k0 E a hk hS) ?_
  rintro e a' w' ⟨s', E', h1, h2, h3, rfl⟩
  exact ⟨s', y, hq e s' h1, SYl_SY hy ⟨C, E0, k0, E', hJ, hb, h2, h3, rfl, hz⟩⟩
theorem cY_seq {x z : AC} (h : cY live JJ Zx P n x (yQ (fun s' y' => cY live JJ Zx P n z Q s' y') Q) s y) : cY live JJ Zx P n (.seq x z) Q s y := by
  intro c hc a w hS
  obtain ⟨c1, c2, rfl, h1, h2⟩ := xzn hc
  refine wp_seq (wp_mono (h c1 h1 a w hS) ?_)
  rintro e a' w' ⟨s', y', g1, g2⟩
  cases e with
  | normal => exact g1 c2 h2 a' w' g2
  | exit id => exact ⟨s', y', g1, g2⟩
  | goto l => exact ⟨s', y', g1, g2⟩
  | ret => exact ⟨s', y', g1, g2⟩
  | panic ch => exact ⟨s', y', g1, g2⟩
  | outgrown => exact ⟨s', y', g1, g2⟩
theorem xhl {x z : AC} {o : Operand} {b : Bool} (hb : ev s.T o = .val (.bool b)) (h : if b = true then cY live JJ Zx P n x Q s y else cY live JJ Zx P n z Q s y) : cY live JJ Zx P n (.cond o x z) Q s y := by
  intro c hc a w hS
  obtain ⟨c1, c2, rfl, h1, h2⟩ := xqq hc
  have hS' := hS
  have he : a.eval o = .bool b := by
    unfold SY at hS
    split at hS
    · obtain ⟨C, E0, k0, E, hJ, hb', hk, hSR, rfl, hz⟩ := hS
      have he := ev_rep hSR.tmps o
      rw [hb] at he
      simpa only [VRep] using he
    · have he := ev_rep hS.2.2.2 o
      rw [hb] at he
      simpa only [VRep] using he
  refine wp_cond_split he (fun e => ?_) (fun e => ?_)
  · subst e; simp only [if_true] at h; exact h c1 h1 a _ hS'
  · subst e; simp only [Bool.false_eq_true, if_false] at h; exact h c2 h2 a _ hS'
theorem xvv (h : Q .normal s y) : cY live JJ Zx P n .skip Q s y := fun c hc a w hS => by rw [xaq hc]; exact wp_skip ⟨s, y, h, hS⟩
theorem xwv {id : Nat} (h : Q (.exit id) s y) : cY live JJ Zx P n (.exit id) Q s y := fun c hc a w hS => by rw [xup hc]; exact wp_exit ⟨s, y, h, hS⟩
theorem xyn {id : Nat} {x : AC} (h : cY live JJ Zx P n x (byQ id Q) s y) : cY live JJ Zx P n (.block id x) Q s y := by
  intro c hc a w hS
  obtain ⟨c1, rfl, h1⟩ := xao hc
  refine wp_block (wp_mono (h c1 h1 a w hS) ?_)
  rintro e a' w' ⟨s', y', g1, g2⟩
  cases e with
  | exit id' =>
    simp only [byQ] at g1
    simp only [Exit.inBlock]
    split
    · rename_i e; rw [if_pos e] at g1; exact ⟨s', y', g1, g2⟩
    · rename_i e; rw [if_neg e] at g1; exact ⟨s', y', g1, g2⟩
  | normal => exact ⟨s', y', g1, g2⟩
  | goto l => exact ⟨s', y', g1, g2⟩
  | ret => exact ⟨s', y', g1, g2⟩
  | panic ch => exact ⟨s', y', g1, g2⟩
  | outgrown => exact ⟨s', y', g1, g2⟩
theorem xx9 {x : AC} (h : cY live JJ Zx P n x (gyQ Q) s y) : cY live JJ Zx P n (.scope x) Q s y := by
  intro c hc a w hS
  obtain ⟨c1, rfl, h1⟩ := xpo hc
  refine wp_scope_straight (wp_mono (h c1 h1 a w hS) ?_)
  rintro e a' w' ⟨s', y', g1, g2⟩
  cases e with
  | goto l => exact g1.elim
  | normal => exact ⟨s', y', g1, g2⟩
  | exit id => exact ⟨s', y', g1, g2⟩
  | ret => exact ⟨s', y', g1, g2⟩
  | panic ch => exact ⟨s', y', g1, g2⟩
  | outgrown => exact ⟨s', y', g1, g2⟩
open Classical in
theorem xy2 {x : AC} (I : Nat → AS → σ → Prop) (k : Nat) (h0 : I k s y) (zero : ∀ s y, ¬ I 0 s y) (round : ∀ k s y, I (k + 1) s y → cY live JJ Zx P n x (yQ (I k) Q) s y) : cY live JJ Zx P n (.loop x) Q s y := by
  intro c hc a w hS
  obtain ⟨c1, rfl, h1⟩ := xwx hc
  let p : Act → World → Nat → Prop := fun a w m => ∃ s y, I m s y ∧ SY live JJ Zx n s y a w
  let μ' : Act → World → Nat := fun a w => if h : ∃ m, p a w m then Classical.choose (x4b h) else 0
  have hμ : ∀ a w, (∃ m, p a w m) → p a w (μ' a w) ∧ ∀ k, p a w k → μ' a w ≤ k := by
    intro a w h
    simp only [μ', dif_pos h]
    exact Classical.choose_spec (x4b h)
  refine wp_loop (fun a w => ∃ m, p a w m) μ' ⟨k, s, y, h0, hS⟩ ?_
  intro a w hI
  obtain ⟨⟨s1, y1, g1, g2⟩, _⟩ := hμ a w hI
  generalize hm : μ' a w = m at g1
  cases m with
  | zero => exact absurd g1 (zero s1 y1)
  | succ m =>
    refine wp_mono (round m s1 y1 g1 c1 h1 a w g2) ?_
    rintro e a' w' ⟨s', y', q1, q2⟩
    cases e with
    | normal =>
      have hp : p a' w' m := ⟨s', y', q1, q2⟩
      refine ⟨⟨m, hp⟩, ?_⟩
      have := (hμ a' w' ⟨m, hp⟩).2 m hp
      omega
    | exit id => exact ⟨s', y', q1, q2⟩
    | goto l => exact ⟨s', y', q1, q2⟩
    | ret => exact ⟨s', y', q1, q2⟩
    | panic ch => exact ⟨s', y', q1, q2⟩
    | outgrown => exact ⟨s', y', q1, q2⟩
end
def keepT (T : Nat → AV) : Nat → AV := fun t => if closed (T t) = true ∧ posz (T t) = true then T t else .junk
theorem xlh {T : Nat → AV} {t : Nat} {x : AV} (h : T t = x) (h1 : closed x = true) (h2 : posz x = true) : keepT T t = x := by
  subst h
  unfold keepT
  rw [if_pos ⟨h1, h2⟩]
section
variable {P : Program} {n : Nat} {σ : Type} {live : σ → Bool} {JJ : σ → World → Prop} {Zx : σ → Nat → Prop} {Q : Exit → AS → σ → Prop} {s : AS} {y : σ}
def xteb (T Tb tx d1 d2 d3 d4 : Nat) : AC := .region [⟨.move (.tmp 0), some d1, none⟩, ⟨.load T (.tmp tx), some d2, none⟩, ⟨.call (Go.Call.mk (.value (.tmp d1)) #[.tmp d2] #[T]), some d3, none⟩, ⟨.unOp .not Tb (.tmp d3), some d4, none⟩]
theorem xoj {ops : Array Oper} {o : Oper} {x : O1} (h : resolve1 ops o = some x) (hx : x.g = none) : o.guard = none ∧ o.op = x.op ∧ o.dst = x.dst := by
  have h2 := xyi h
  unfold resolve1 at h
  split at h
  · rename_i hg
    exact ⟨hg, h2.1.symm, h2.2.symm⟩
  · split at h
    · injection h with h
      subst h
      cases hx
    · cases h
theorem x5i {ops : Array Oper} {l : List Oper} {x : O1} {xs : List O1} (h : xfb ops l = some (x :: xs)) : ∃ o l', l = o :: l' ∧ resolve1 ops o = some x ∧ xfb ops l' = some xs := by
  cases l with
  | nil => simp [xfb] at h
  | cons o l =>
    simp only [xfb] at h
    split at h
    · rename_i x' xs' g1 g2
      injection h with h
      injection h with e1 e2
      subst e1; subst e2
      exact ⟨o, l, rfl, g1, g2⟩
    · cases h
theorem xq0 {ops : Array Oper} {l : List Oper} (h : xfb ops l = some []) : l = [] := by
  cases l with
  | nil => rfl
  | cons o l =>
    simp only [xfb] at h
    split at h
    · injection h with h; cases h
    · cases h
theorem SY.round {y' : σ} {C : Ctx} {E0 : Env} {k0 : Nat} {E : Env} {a : Act} {T : Nat → AV} {H : Nat → Option AO} {nx : Nat} (hS : SR C E0 k0 n ⟨T, H, nx⟩ a E) (hz : ∀ b, C.zone b → ¬ Zx y b) (hx : ∀ b, Zx y b → b < C.base) (hsub : ∀ b, Zx y' b → Zx y b) {W' : World}
    (hlv : live y' = true) (hG : GW W') (hJ : JJ y' W') (hsz : E.w.heap.size ≤ W'.heap.size) (hkeep : ∀ b o, ¬ Zx y b → E.w.heap[b]? = some o → o.isCells = true → W'.heap[b]? = some o) :
    SY live JJ Zx n ⟨keepT T, fun _ => none, nx⟩ y' a W' := by
  let Z' := Zc E.Z E.w
  have hzx : ∀ b, E.Z b → ¬ Zx y b := by
    intro b hb hxb
    rcases hS.heap.zsrc b hb with h | h
    · exact hz b h hxb
    · have := hx b hxb; omega
  have hsame : ∀ b, Z' b → W'.heap[b]? = E.w.heap[b]? := by
    rintro b ⟨hb, o, ho, hc⟩
    rw [ho]
    exact hkeep b o (hzx b hb) ho hc
  have hlt : ∀ b, Z' b → b < W'.heap.size := fun b hb => by have := hS.heap.zlt b hb.1; omega
  let E' : Env := Ec Z' W'
  refine SYl_SY hlv ⟨{ base := W'.heap.size, w0 := W', zone := Z', gw := hG, gb := hG.size }, E', nx, E', hJ, rfl, Nat.le_refl _, ?_, rfl, fun b hb h => hzx b hb.1 (hsub b h), fun b hb => by have := hx b (hsub b hb); have := hS.heap.base; show b < W'.heap.size; omega⟩
  refine ⟨⟨Below.refl _ _, Nat.le_refl _, hlt, fun b _ l c e => by simp [E', Ec] at e, fun b hb => .inl hb, fun l => rfl, fun l x e => by simp [E', Ec] at e, fun l l' b c c' e => by simp [E', Ec] at e, fun l o p e => by simp at e, fun l b c e => by simp [E', Ec] at e⟩, Stab.refl _, fun l k => k.elim, fun l k => .inl k, hS.size, hS.defers, ?_⟩
  intro t
  have ht := hS.tmps t
  simp only [keepT]
  split
  · rename_i hc
    obtain ⟨h1, h2⟩ := hc
    have h3 := VRep.close (Z := E.Z) (fun b hb => hb) _ _ h1 ht
    have h4 := VRep.cellsZ _ _ h2 h3
    exact VRep.stab (E := Ec Z' E.w) (E' := E') ⟨fun _ h => h, fun _ h => h.elim, fun b hb => ⟨hb, hsame b hb⟩⟩ _ _ h4
  · simp only [VRep]
theorem SY.dead {y' : σ} {C : Ctx} {E0 : Env} {k0 : Nat} {E : Env} {a : Act} (hS : SR C E0 k0 n s a E) {W' : World} (hlv : live y' = false) (hJ : JJ y' W') :
    SY live JJ Zx n ⟨fun _ => .junk, fun _ => none, s.nx⟩ y' a W' := by
  unfold AL.SY
  rw [if_neg (by rw [hlv]; simp)]
  exact ⟨hJ, hS.size, hS.defers, fun t => by simp only [VRep]⟩
theorem SY.put {T : Nat → AV} {H : Nat → Option AO} {nx : Nat} {a : Act} {w : World} (h : SY live JJ Zx n ⟨T, H, nx⟩ y a w) {d : Nat} (hd : d < n) {x : AV} {v : Value} (hv : ∀ E, VRep E x v) : SY live JJ Zx n ⟨upd T d x, H, nx⟩ y (a.put (some d) v) w := by
  unfold AL.SY at h ⊢
  split at h
  · rename_i hl
    rw [if_pos hl]
    obtain ⟨C, E0, k0, E, hJ, hb, hk, hS, rfl, hz⟩ := h
    exact ⟨C, E0, k0, E, hJ, hb, hk, ⟨hS.heap, hS.stab, hS.bound, hS.fresh, by rw [x2h]; exact hS.size, by rw [xmc]; exact hS.defers, x0h hS.tmps hS.size (d := some d) (fun x e => by cases e; exact hd) (hv E)⟩, rfl, hz⟩
  · rename_i hl
    rw [if_neg hl]
    obtain ⟨h1, h2, h3, h4⟩ := h
    exact ⟨h1, by rw [x2h]; exact h2, by rw [xmc]; exact h3, x0h h4 h2 (d := some d) (fun x e => by cases e; exact hd) (hv _)⟩
theorem xos {B : Nat} {w w' : World} (h : Below B w w') (hB : B = w.heap.size) : w.grownBy w' none := by
  subst hB
  exact ⟨h.os, h.tape, h.output, h.size, fun k hk _ => h.block k hk⟩
theorem xko {ops : Array Oper} (h : fits n ops = true) {o : Oper} (ho : o ∈ ops.toList) {d : Nat} (hd : o.dst = some d) : d < n := by
  have := List.all_eq_true.1 h o ho
  simpa [hd] using this
theorem xj9 {T Tb tx d1 d2 d3 d4 l m : Nat} {u : Value} {x : AV} {yT yF : σ} {S : AS}
    (hly : live y = true) (hlT : live yT = true) (hlF : live yF = false) (hGW : ∀ W, JJ yT W → GW W) (hab : ∀ y W W', JJ y W → W.grownBy W' none → JJ y W')
    (h0 : S.T 0 = .fn (.yield l) [] []) (e1 : tx ≠ d1) (e2 : d1 ≠ d2) (hx : xvc P T S.H (S.T tx) = some x) (hu : ∀ E v, VRep E x v → v = u)
    (hY : ∀ W, JJ y W → YieldAt Fence.wide m P l #[u] W fun e W' => (e = .returned (.bool true) ∧ JJ yT W' ∧ W.heap.size ≤ W'.heap.size ∧ ∀ b o, ¬ Zx y b → W.heap[b]? = some o → o.isCells = true → W'.heap[b]? = some o) ∨ (e = .returned (.bool false) ∧ JJ yF W'))
    (hsub : ∀ b, Zx yT b → Zx y b)
    (hT : Q .normal ⟨upd (upd (upd (upd (keepT S.T) d1 .junk) d2 .junk) d3 (.val (.bool true))) d4 (.val (.bool false)), fun _ => none, S.nx⟩ yT)
    (hF : Q .normal ⟨upd (upd (upd (upd (fun _ => .junk) d1 .junk) d2 .junk) d3 (.val (.bool false))) d4 (.val (.bool true)), fun _ => none, S.nx⟩ yF) :
    cY live JJ Zx P n (xteb T Tb tx d1 d2 d3 d4) Q S y := by
  intro c hc a w hSY
  obtain ⟨C, E0, k0, E, hJ, hb, hk, hS, rfl, hz, hzx⟩ := xlw hly hSY
  obtain ⟨id, ops, rfl, hfit, hres⟩ := xym hc
  obtain ⟨o0, l0, hl0, r0, hres⟩ := x5i hres
  obtain ⟨o1, l1, rfl, r1, hres⟩ := x5i hres
  obtain ⟨o2, l2, rfl, r2, hres⟩ := x5i hres
  obtain ⟨o3, l3, rfl, r3, hres⟩ := x5i hres
  obtain rfl := xq0 hres
  obtain ⟨g0, p0, q0⟩ := xoj r0 rfl
  obtain ⟨g1, p1, q1⟩ := xoj r1 rfl
  obtain ⟨g2, p2, q2⟩ := xoj r2 rfl
  obtain ⟨g3, p3, q3⟩ := xoj r3 rfl
  have n1 : d1 < n := xko hfit (by rw [hl0]; simp) q0
  have n2 : d2 < n := xko hfit (o := o1) (by rw [hl0]; simp) q1
  have n3 : d3 < n := xko hfit (o := o2) (by rw [hl0]; simp) q2
  have n4 : d4 < n := xko hfit (o := o3) (by rw [hl0]; simp) q3
  have hw : ∀ (o : Oper) (p : Nat → Option Bool), o.guard = none → Region.wanted o p = true := fun o p h => by simp [Region.wanted, h]
  have hv0 : a.tmps.getD 0 undef = .func (.yield l) #[] #[] := by
    have := hS.tmps 0
    rw [h0] at this
    simp only [VRep, VReps] at this
    obtain ⟨_, _, rfl, rfl, h⟩ := this
    exact h
  refine (wpIn_wide (n := m + 1)).1 (wpIn_region_list ?_)
  rw [hl0]
  simp only [wpListIn, hw _ _ g0, hw _ _ g1, hw _ _ g2, hw _ _ g3, if_true]
  have hro : Fence.wide.round = none := rfl
  refine ⟨fun _ _ => trivial, ?_⟩
  rw [hro, Oper.semAt_none]
  have run0 : (execOp a.eval o0).run P E.w = .ok (.value (.func (.yield l) #[] #[])) E.w := by
    have : a.eval (.tmp 0) = .func (.yield l) #[] #[] := hv0
    simp [execOp, p0, this]
  rw [run0, Oper.uponIn_value, q0]
  refine ⟨fun _ _ => trivial, ?_⟩
  rw [hro, Oper.semAt_none]
  obtain ⟨z, hz1, hz2⟩ := xhk (P := P) hS.heap (fun _ _ e => e) (hS.tmps tx) hx
  obtain rfl := hu _ _ hz2
  have ev1 : (a.put (some d1) (.func (.yield l) #[] #[])).eval (.tmp tx) = a.tmps.getD tx undef := by
    simp [Act.put, Act.eval, Array.getElem?_setIfInBounds_ne (Ne.symm e1)]
  have run1 : (execOp (a.put (some d1) (.func (.yield l) #[] #[])).eval o1).run P E.w = .ok (.value z) E.w := by
    simp only [execOp, p1, ev1, Sem.run_bind, hz1, Result.andThen_ok, Sem.run_pure]
  rw [run1, Oper.uponIn_value, q1]
  refine ⟨fun _ _ => trivial, ?_⟩
  rw [hro, Oper.semAt_none]
  have hJ' : JJ y E.w := hab y _ _ hJ (xos hS.heap.below hb)
  obtain ⟨fn, tm, asg, bo, hrun, hround⟩ := hY E.w hJ'
  have hsz : (a.tmps.setIfInBounds d1 (.func (.yield l) #[] #[])).size = n := by simp [hS.size]
  have ev2 : ((a.put (some d1) (.func (.yield l) #[] #[])).put (some d2) z).eval (.tmp d1) = .func (.yield l) #[] #[] := by
    simp [Act.put, Act.eval, Array.getElem?_setIfInBounds_ne (Ne.symm e2), Array.getElem_setIfInBounds, Ne.symm e2, hS.size, n1]
  have ev3 : ((a.put (some d1) (.func (.yield l) #[] #[])).put (some d2) z).eval (.tmp d2) = z := by
    simp [Act.put, Act.eval, hS.size, n2]
  have run2 : (execOp ((a.put (some d1) (.func (.yield l) #[] #[])).put (some d2) z).eval o2).run P E.w = .ok (.round l fn tm asg bo) E.w := by
    simp only [execOp, p2, resolve, ev2, ev3, Sem.run_bind, Sem.run_pure, Result.andThen_ok, Deferred.ofValue, invoke]
    simpa [ev3, invoke] using hrun
  rw [run2, Oper.uponIn_round, q2]
  refine ⟨fun h => by simp [Fence.wide] at h, ?_⟩
  refine RoundIn.mono (by simpa using hround) ?_
  rintro e W' (⟨rfl, k1, k2, k3⟩ | ⟨rfl, k1⟩)
  · refine ⟨fun _ _ => trivial, ?_⟩
    rw [hro, Oper.semAt_none]
    have run3 : (execOp ((((a.put (some d1) (.func (.yield l) #[] #[])).put (some d2) z).put (some d3) (.bool true))).eval o3).run P W' = .ok (.value (.bool false)) W' := by
      have : ((((a.put (some d1) (.func (.yield l) #[] #[])).put (some d2) z).put (some d3) (.bool true))).eval (.tmp d3) = .bool true := by simp [Act.put, Act.eval, hS.size, n3]
      simp [execOp, p3, this, Op.unary]
    rw [run3, Oper.uponIn_value, q3]
    refine ⟨_, yT, hT, ?_⟩
    refine SY.put (SY.put (SY.put (SY.put (SY.round (T := S.T) (H := S.H) (nx := S.nx) hS hz hzx hsub hlT (hGW _ k1) k1 k2 k3) n1 (fun E => by simp only [VRep])) n2 (fun E => by simp only [VRep])) n3 (fun E => by simp only [VRep])) n4 (fun E => by simp only [VRep])
  · refine ⟨fun _ _ => trivial, ?_⟩
    rw [hro, Oper.semAt_none]
    have run3 : (execOp ((((a.put (some d1) (.func (.yield l) #[] #[])).put (some d2) z).put (some d3) (.bool false))).eval o3).run P W' = .ok (.value (.bool true)) W' := by
      have : ((((a.put (some d1) (.func (.yield l) #[] #[])).put (some d2) z).put (some d3) (.bool false))).eval (.tmp d3) = .bool false := by simp [Act.put, Act.eval, hS.size, n3]
      simp [execOp, p3, this, Op.unary]
    rw [run3, Oper.uponIn_value, q3]
    refine ⟨_, yF, hF, ?_⟩
    refine SY.put (SY.put (SY.put (SY.put (SY.dead hS hlF k1) n1 (fun E => by simp only [VRep])) n2 (fun E => by simp only [VRep])) n3 (fun E => by simp only [VRep])) n4 (fun E => by simp only [VRep])
end
end Go.Proofs.YtmacnoajlofdbaaDoor.AL

/- AL: straight text in a round of a range over a function, and behind one. -/
set_option linter.all false
namespace Go.Proofs.YtmacnoajlofdbaaDoor.AL
open Go.RowKit
def Fl (ro : Option Nat) : Fence := { Fence.wide with round := ro }
theorem xb4 {ro : Option Nat} {n : Nat} {P : Program} {f : FuncId} {args : Array Value} {w : World} {R : Ending → World → Prop} (h : Calls P f args w R) : CallsIn (Fl ro) n P f args w R := (callsIn_wide (n := n)).2 h
theorem xc7 {ro : Option Nat} {n : Nat} {P : Program} {row : String} {args : Array Value} {w : World} {R : Value → World → Prop} (h : Rows P row args w R) : RowsIn (Fl ro) n P row args w R := fun c cs _ => let ⟨v, w', r, s⟩ := h c cs; ⟨v, w', r, stepsIn_wide.2 s⟩
section
variable {P : Program} {ops : Array Oper} {Q Q' : Exit → Act → World → Prop}
theorem x1o (hq : ∀ a w, Q .normal a w → a.defers = []) (hp : ∀ ch a w, ¬ Q (.panic ch) a w) (ho : ¬ LetsOut Q) : ∀ (l : List Oper) (a : Act) (w : World), wpList P ops Q l a w → a.defers = []
  | [], a, w, h => hq a w h
  | o :: rest, a, w, h => by
    have ih := x1o hq hp ho rest
    unfold wpList at h
    split at h
    · rcases h with h | h
      · unfold Oper.wp Oper.upon at h
        split at h
        · exact (xmc (d := o.dst)).symm.trans (ih _ _ h)
        · exact (xmc (d := o.dst)).symm.trans (ih _ _ h)
        · have := (xmc (d := o.dst)).symm.trans (ih _ _ h)
          cases this
        · obtain ⟨e, w', fr, h1, _⟩ := h []
          cases e with
          | returned v => exact (xmc (d := o.dst)).symm.trans (ih _ _ h1)
          | panicked ch => exact (hp _ _ _ h1).elim
          | outgrown => exact (ho h1).elim
        · obtain ⟨v, w', h1, _⟩ := h default []
          exact (xmc (d := o.dst)).symm.trans (ih _ _ h1)
        · exact (hp _ _ _ h).elim
        · exact h.elim
      · exact (ho h.2).elim
    · exact (xmc (d := o.dst)).symm.trans (ih _ _ h)
theorem xsl (a : Act) (ds : List Deferred) (d : Option Tmp) (v : Value) : ({ a with defers := ds } : Act).put d v = { a.put d v with defers := ds } := by cases d <;> rfl
theorem xjr (a : Act) (ds : List Deferred) : ({ a with defers := ds } : Act).eval = a.eval := by funext o; cases o <;> rfl
theorem xzs {ro : Option Nat} {m : Nat} {ds : List Deferred} (hq : ∀ a w, Q .normal a w → a.defers = [] ∧ Q' .normal { a with defers := ds } w) (hp : ∀ ch a w, ¬ Q (.panic ch) a w) (ho : ¬ LetsOut Q) :
    ∀ (l : List Oper), (∀ o ∈ l, ∀ c, o.op ≠ .defer c) → ∀ (a : Act) (w : World), wpList P ops Q l a w → wpListIn (Fl ro) m P ops Q' l { a with defers := ds } w
  | [], _, a, w, h => (hq a w h).2
  | o :: rest, hd, a, w, h => by
    have ih := xzs (ro := ro) (m := m) (ds := ds) hq hp ho rest (fun o h => hd o (by simp [h]))
    have df := fun a w h => x1o (P := P) (ops := ops) (fun a w h => (hq a w h).1) hp ho rest a w h
    unfold wpList at h
    unfold wpListIn
    split at h
    · rename_i hw
      rw [if_pos hw]
      refine ⟨fun _ _ => trivial, ?_⟩
      rw [Oper.semAt_eq _ _ _ (hd o (by simp)), xjr]
      rcases h with h | h
      · unfold Oper.wp Oper.upon at h
        split at h
        · rename_i e; rw [e, Oper.uponIn_value, xsl]; exact ih _ _ h
        · rename_i e; rw [e, Oper.uponIn_skip, xsl]; exact ih _ _ h
        · have := (xmc (d := o.dst)).symm.trans (df _ _ h)
          cases this
        · rename_i e; rw [e, Oper.uponIn_enter]
          refine ⟨fun h => (by cases ro <;> cases h), xb4 (h.mono ?_)⟩
          rintro e' w' h1
          cases e' with
          | returned v => show wpListIn _ _ _ _ _ _ _ _; rw [xsl]; exact ih _ _ h1
          | panicked ch => exact (hp _ _ _ h1).elim
          | outgrown => exact (ho h1).elim
        · rename_i e; rw [e, Oper.uponIn_row]
          refine ⟨fun h => (by cases ro <;> cases h), xc7 (h.mono ?_)⟩
          intro v w' h1
          rw [xsl]; exact ih _ _ h1
        · exact (hp _ _ _ h).elim
        · exact h.elim
      · exact (ho h.2).elim
    · rename_i hw
      rw [if_neg hw]
      refine ⟨fun _ _ => trivial, ?_⟩
      rw [xsl]
      exact ih _ _ h
end
def xx0 : Op → Bool
  | .defer _ => false
  | _ => true
def frag : AC → Bool
  | .skip => true
  | .ret => true
  | .exit _ => true
  | .region l => l.all fun o => xx0 o.op
  | .seq a b => frag a && frag b
  | .cond _ a b => frag a && frag b
  | .block _ c => frag c
  | _ => false
theorem xxr {ops : Array Oper} : ∀ {l : List Oper} {xs : List O1}, xfb ops l = some xs → ∀ o ∈ l, ∃ x ∈ xs, x.op = o.op
  | [], xs, h, o, ho => by simp at ho
  | o' :: l, xs, h, o, ho => by
    simp only [xfb] at h
    split at h
    · rename_i x xs' g1 g2
      injection h with h
      subst h
      rcases List.mem_cons.1 ho with rfl | ho
      · exact ⟨x, by simp, (xyi g1).1⟩
      · obtain ⟨y, hy, e⟩ := xxr g2 o ho
        exact ⟨y, by simp [hy], e⟩
    · cases h
section
variable {P : Program} {ro : Option Nat} {m n : Nat} {ds : List Deferred}
def RS (C : Ctx) (E0 : Env) (k0 n : Nat) (ds : List Deferred) (Q : Exit → AS → Prop) : Exit → Act → World → Prop := fun e a' w' => ∃ s' E' a0, Q e s' ∧ k0 ≤ s'.nx ∧ SR C E0 k0 n s' a0 E' ∧ a' = { a0 with defers := ds } ∧ E'.w = w'
theorem wps_in {ops : Array Oper} {l : List O1} {Q : Exit → AS → Prop} {s : AS} {id : Nat} (h1 : fits n ops = true) (h2 : xfb ops ops.toList = some l) (hd : l.all (fun o => xx0 o.op) = true)
    (h : wps1 P s.nx 0 l ⟨s.T, s.H, s.nx + l.length⟩ (Q .normal)) {C : Ctx} {E0 : Env} {k0 : Nat} {E : Env} {a : Act} (hk : k0 ≤ s.nx) (hS : SR C E0 k0 n s a E) :
    (Code.region id ops false).wpIn (Fl ro) m P (RS C E0 k0 n ds Q) { a with defers := ds } E.w := by
  have hl : ∀ (l : List Oper) (xs : List O1), xfb ops l = some xs → xs.length = l.length := by
    intro l
    induction l with
    | nil => intro xs h; simp only [xfb] at h; injection h with h; subst h; rfl
    | cons o l ih =>
      intro xs h
      simp only [xfb] at h
      split at h
      · rename_i x xs' g1 g2
        injection h with h
        subst h
        simp [ih _ g2]
      · cases h
  have h' := xll _ _ _ _ h2 h
  rw [hl _ _ h2] at h'
  simp only [Array.length_toList] at h'
  have hS' : SR C E0 k0 n ⟨s.T, s.H, s.nx + ops.size⟩ a E := ⟨hS.heap, hS.stab, fun l kl => by have := hS.bound l kl; show l < s.nx + ops.size; omega, hS.fresh, hS.size, hS.defers, hS.tmps⟩
  refine wpIn_region_list (xzs (Q := fun e a' w' => e = .normal ∧ ∃ s' E', Q .normal s' ∧ k0 ≤ s'.nx ∧ SR C E0 k0 n s' a' E' ∧ E'.w = w') ?_ ?_ ?_ ops.toList ?_ a E.w
    (xlm h1 hk (K := fun s2 => Q .normal s2) ?_ ops.toList 0 _ a E (fun o h => h) hS' ?_ (by simp) h'))
  · rintro a' w' ⟨_, s', E', g1, g2, g3, rfl⟩
    exact ⟨g3.defers, s', E', a', g1, g2, g3, rfl, rfl⟩
  · rintro ch a w ⟨e, _⟩; cases e
  · rintro ⟨a, w, e, _⟩; cases e
  · intro o ho c e
    obtain ⟨x, hx, ex⟩ := xxr h2 o ho
    have := List.all_eq_true.1 hd x hx
    rw [ex, e] at this
    cases this
  · intro s2 a2 E2 hq hk2 hS2
    exact ⟨rfl, s2, E2, hq, hk2, hS2, rfl⟩
  · intro j h1 h2 kj
    have := hS.bound _ kj
    omega
theorem cw_in : ∀ (x : AC) {Q : Exit → AS → Prop} {s : AS}, frag x = true → cw P n x Q s → ∀ c, comp n c = some x → ∀ {C : Ctx} {E0 : Env} {k0 : Nat} {E : Env} {a : Act}, k0 ≤ s.nx → SR C E0 k0 n s a E →
    c.wpIn (Fl ro) m P (RS C E0 k0 n ds Q) { a with defers := ds } E.w
  | .skip, Q, s, _, h, c, hc, C, E0, k0, E, a, hk, hS => by rw [xaq hc]; exact wpIn_skip ⟨s, E, a, h, hk, hS, rfl, rfl⟩
  | .ret, Q, s, _, h, c, hc, C, E0, k0, E, a, hk, hS => by rw [xvz hc]; exact wpIn_ret ⟨s, E, a, h, hk, hS, rfl, rfl⟩
  | .exit id, Q, s, _, h, c, hc, C, E0, k0, E, a, hk, hS => by rw [xup hc]; exact wpIn_exit ⟨s, E, a, h, hk, hS, rfl, rfl⟩
  | .region l, Q, s, hf, h, c, hc, C, E0, k0, E, a, hk, hS => by
    obtain ⟨id, ops, rfl, h1, h2⟩ := xym hc
    exact wps_in h1 h2 hf h hk hS
  | .seq x y, Q, s, hf, h, c, hc, C, E0, k0, E, a, hk, hS => by
    simp only [frag, Bool.and_eq_true] at hf
    obtain ⟨c1, c2, rfl, h1, h2⟩ := xzn hc
    refine wpIn_seq (wpIn_mono (cw_in x hf.1 h c1 h1 hk hS) ?_)
    rintro e a' w' ⟨s', E', a0, g1, g2, g3, rfl, rfl⟩
    cases e with
    | normal => exact cw_in y hf.2 g1 c2 h2 g2 g3
    | exit id => exact ⟨s', E', a0, g1, g2, g3, rfl, rfl⟩
    | goto l => exact ⟨s', E', a0, g1, g2, g3, rfl, rfl⟩
    | ret => exact ⟨s', E', a0, g1, g2, g3, rfl, rfl⟩
    | panic ch => exact ⟨s', E', a0, g1, g2, g3, rfl, rfl⟩
    | outgrown => exact ⟨s', E', a0, g1, g2, g3, rfl, rfl⟩
  | .cond o x y, Q, s, hf, h, c, hc, C, E0, k0, E, a, hk, hS => by
    simp only [frag, Bool.and_eq_true] at hf
    obtain ⟨c1, c2, rfl, h1, h2⟩ := xqq hc
    unfold cw condV at h
    split at h
    · rename_i e
      have he := ev_rep hS.tmps o
      rw [e] at he
      simp only [VRep] at he
      exact wpIn_cond_true (by rw [xjr]; exact he) (cw_in x hf.1 h c1 h1 hk hS)
    · rename_i e
      have he := ev_rep hS.tmps o
      rw [e] at he
      simp only [VRep] at he
      exact wpIn_cond_false (by rw [xjr]; exact he) (cw_in y hf.2 h c2 h2 hk hS)
    · exact h.elim
  | .block id x, Q, s, hf, h, c, hc, C, E0, k0, E, a, hk, hS => by
    simp only [frag] at hf
    obtain ⟨c1, rfl, h1⟩ := xao hc
    refine wpIn_block (wpIn_mono (cw_in x hf h c1 h1 hk hS) ?_)
    rintro e a' w' ⟨s', E', a0, g1, g2, g3, rfl, rfl⟩
    cases e with
    | exit id' =>
      simp only [blockQ] at g1
      simp only [Exit.inBlock]
      split
      · rename_i e; rw [if_pos e] at g1; exact ⟨s', E', a0, g1, g2, g3, rfl, rfl⟩
      · rename_i e; rw [if_neg e] at g1; exact ⟨s', E', a0, g1, g2, g3, rfl, rfl⟩
    | normal => exact ⟨s', E', a0, g1, g2, g3, rfl, rfl⟩
    | goto l => exact ⟨s', E', a0, g1, g2, g3, rfl, rfl⟩
    | ret => exact ⟨s', E', a0, g1, g2, g3, rfl, rfl⟩
    | panic ch => exact ⟨s', E', a0, g1, g2, g3, rfl, rfl⟩
    | outgrown => exact ⟨s', E', a0, g1, g2, g3, rfl, rfl⟩
end
end Go.Proofs.YtmacnoajlofdbaaDoor.AL

/- (*walk.trail).names: what is handed on, round by round. -/
set_option linter.all false
namespace Go.Proofs.YtmacnoajlofdbaaDoor.AL
open Go Go.Proofs Go.RowKit
def xec (b : Branch) (ways : List Way) : AV := .agg [(sll 13 xe) b.nodes, (sll 3 encWay) ways, .junk, .junk]
def nodeAt (b : Branch) (ino : Int) : Option Node := if ino < 1 then some (⟨0, 0, 0, 0, [], [], (⟨0, 0, xl, (⟨0, 0, 0⟩ : Origin), 0⟩ : Attr)⟩ : Node)
 else if (b.nodes.length : Int) < ino then some (⟨0, 0, 0, 0, [], [], (⟨0, 0, xl, (⟨0, 0, 0⟩ : Origin), 0⟩ : Attr)⟩ : Node)
 else (ix b.nodes (wr (ino - 1))).bind fun v5 => some v5
theorem xbeb (cs : List AV) (hne : cs.isEmpty = false) (h : posz (.agg cs) = true) : posz (((AV.agg cs).ptr 0).ptr 0) = true := by
  simp only [posz] at h
  simp [posz, h, hne, AV.one]
theorem xyw (x : AV) (h : closed x = true) : closed ((x.ptr 0).ptr 0) = true := by simp [closed, h]
theorem xk4 (x : AV) (n : Int) (h : closed x = true) : closeds [x.ptr 0, int n] = true := by simp [closed, closeds, h, int]
def Y_node := aI (aI (aI (@R3) (@R24)) (aI (@R26) (@R47))) (aI (aI (@DBranch) (@DOrigin)) (aI (@DAttr) (aI (@DNode) (@DEntry))))
set_option maxHeartbeats 2000000 in
theorem xicb (b : Branch) (ways : List Way) (ino : Int) (r : Node) (hm0 : nodeAt b ino = some r) : Ok Tryd.prog 59 [.ptr (xec b ways) 0, int ino] (xe r) := by
  unfold nodeAt at hm0
  refine okF xxc (by simp) ?_
  unfold xrc xec
  by_cases h1 : ino < 1
  · have e2 : (ino < 1) = True := eq_true h1
    rw [if_pos h1] at hm0
    simp only [Option.some.injEq] at hm0
    subst hm0
    simp only [e2, Y_node, R122, EV, ↓EVd, isCall, Nat.reduceAdd, Nat.reduceSub, Nat.reduceMul, Nat.reduceEqDiff, Nat.reduceBEq, Nat.reduceLT, Nat.reduceLeDiff, ↓reduceIte, reduceCtorEq]
    all_goals first | done | rfl | exact xg (by simp only [CLO]) | exact xgb (by simp only [CLO]) (Sub.agg (Subs.cons (Sub.refl _) (Subs.cons (Sub.refl _) (Subs.cons (Sub.refl _) (Subs.cons (Sub.refl _) (Subs.cons (Sub.nilS _) (Subs.cons (Sub.nilS _) (Subs.cons (Sub.refl _) (Subs.cons (Sub.refl _) (Subs.cons (Sub.refl _) (Subs.cons (Sub.refl _) (Subs.cons (Sub.refl _) (Subs.cons (Sub.refl _) (Subs.cons (Sub.refl _) (Subs.nil)))))))))))))))
  · have e2 : (ino < 1) = False := eq_false h1
    rw [if_neg h1] at hm0
    by_cases h3 : (b.nodes.length : Int) < ino
    · have e4 : ((b.nodes.length : Int) < ino) = True := eq_true h3
      rw [if_pos h3] at hm0
      simp only [Option.some.injEq] at hm0
      subst hm0
      simp only [e2, e4, Y_node, R122, EV, ↓EVd, isCall, Nat.reduceAdd, Nat.reduceSub, Nat.reduceMul, Nat.reduceEqDiff, Nat.reduceBEq, Nat.reduceLT, Nat.reduceLeDiff, ↓reduceIte, reduceCtorEq]
      all_goals first | done | rfl | exact xg (by simp only [CLO]) | exact xgb (by simp only [CLO]) (Sub.agg (Subs.cons (Sub.refl _) (Subs.cons (Sub.refl _) (Subs.cons (Sub.refl _) (Subs.cons (Sub.refl _) (Subs.cons (Sub.nilS _) (Subs.cons (Sub.nilS _) (Subs.cons (Sub.refl _) (Subs.cons (Sub.refl _) (Subs.cons (Sub.refl _) (Subs.cons (Sub.refl _) (Subs.cons (Sub.refl _) (Subs.cons (Sub.refl _) (Subs.cons (Sub.refl _) (Subs.nil)))))))))))))))
    · have e4 : ((b.nodes.length : Int) < ino) = False := eq_false h3
      rw [if_neg h3] at hm0
      obtain ⟨v5, h5, hm0⟩ := Option.bind_eq_some_iff.1 hm0
      simp only [Option.some.injEq] at hm0
      subst hm0
      have i1 := ix_enc xe h5
      have i2 := x3w h5
      simp only [e2, e4, i1, i2, Y_node, R122, EV, ↓EVd, isCall, Nat.reduceAdd, Nat.reduceSub, Nat.reduceMul, Nat.reduceEqDiff, Nat.reduceBEq, Nat.reduceLT, Nat.reduceLeDiff, ↓reduceIte, reduceCtorEq]
      all_goals exact xg (by simp only [CLO])
section
variable {P : Program} {n : Nat} {σ : Type} {live : σ → Bool} {JJ : σ → World → Prop} {Zx : σ → Nat → Prop} {Q : Exit → AS → σ → Prop} {s : AS} {y : σ}
theorem cY_cw {x : AC} (hy : live y = true) (h : cw P n x (fun e s' => Q e s' y) s) : cY live JJ Zx P n x Q s y := cY_of hy (cw_cwp x h) fun _ _ h => h
theorem x5ab {id : Nat} (hy : live y = true) (h : Q .normal s y) : cY live JJ Zx P n (.label id) Q s y := cY_of hy (x9l (Q := fun e s' => Q e s' y) h) fun _ _ h => h
theorem yQ_n (next : AS → σ → Prop) : yQ next Q .normal s y = next s y := _root_.id rfl
end
def entsN (nd : Way → Node) (ways : List Way) (i : Nat) : List Entry := (ways.take i).flatMap fun w => (nd w).entries
theorem xbu (nd : Way → Node) (ways : List Way) (i : Nat) (h : i < ways.length) : entsN nd ways (i + 1) = entsN nd ways i ++ (nd ways[i]).entries := by
  unfold entsN
  rw [List.take_succ_eq_append_getElem h, List.flatMap_append, List.flatMap_cons, List.flatMap_nil, List.append_nil]
theorem xl9 (nd : Way → Node) (ways : List Way) (i j : Nat) (h : i < ways.length) (hj : j < (nd ways[i]).entries.length) : (entsN nd ways i ++ (nd ways[i]).entries.take j).length < (entsN nd ways ways.length).length := by
  have h1 : (entsN nd ways (i + 1)).length ≤ (entsN nd ways ways.length).length := by
    unfold entsN
    rw [List.take_length]
    conv => rhs; rw [← List.take_append_drop (i + 1) ways]
    rw [List.flatMap_append, List.length_append]
    omega
  rw [xbu _ _ _ h] at h1
  simp at h1 ⊢
  omega
def entV (e : Entry) : Value := .agg #[.int .i64 e.slot, .int .i64 e.ino, .string e.name]
theorem xt2 {E : Env} {v : Value} {e : Entry} (h : VRep E (xp e) v) : v = entV e := by
  simp only [xp, int, str, VRep, VReps] at h
  obtain ⟨us, ⟨u1, us1, rfl, ⟨u2, us2, rfl, ⟨u3, us3, rfl, rfl, rfl⟩, rfl⟩, rfl⟩, rfl⟩ := h
  rfl
theorem xpw {α : Type} (f : α → AV) (h : ∀ x, posz (f x) = true) : ∀ l : List α, poszs (l.map f) = true
  | [] => rfl
  | x :: l => by simp only [List.map_cons, poszs, h x, xpw f h l, Bool.and_self]
theorem x5t (e : Entry) : posz (xp e) = true := rfl
theorem xaz (e : Way) : posz (encWay e) = true := rfl
theorem x7i {α : Type} (k : Nat) (f : α → AV) (hk : 0 < k) (h : ∀ x, posz (f x) = true) (l : List α) : posz (sll k f l) = true := by
  simp only [sll, posz, xpw f h l, Bool.and_true, decide_eq_true_eq]; exact hk
theorem posz_D (l : List UInt8) : posz (encD l) = true := by
  simp only [encD]
  exact x7i 1 _ (by omega) (fun _ => rfl) l
theorem x07 (x : Node) : posz (xe x) = true := by
  have h1 := posz_D x.data
  have h2 := x7i 3 xp (by omega) x5t x.entries
  simp only [xe]
  generalize encD x.data = X at h1
  generalize sll 3 xp x.entries = Y at h2
  simp [posz, poszs, h1, h2, int, str]
theorem x14 (b : Branch) (ways : List Way) : posz (xec b ways) = true := by
  have h1 := x7i 13 xe (by omega) x07 b.nodes
  have h2 := x7i 3 encWay (by omega) xaz ways
  simp only [xec]
  generalize sll 13 xe b.nodes = X at h1
  generalize sll 3 encWay ways = Y at h2
  simp [posz, poszs, h1, h2]
theorem xrj (b : Branch) (ways : List Way) : closed (xec b ways) = true := by
  simp only [xec, sll, closed, closeds, xah, cM_Way, Bool.and_self]
section
variable {JJ : Bool × List Entry → World → Prop} {Zx : Bool × List Entry → Nat → Prop} {b : Branch} {ways : List Way} {nd : Way → Node} {l m : Nat}
set_option maxHeartbeats 2000000 in
theorem xn3 (hab : ∀ y W W', JJ y W → W.grownBy W' none → JJ y W') (hZ : ∀ ys zs, Zx (true, ys) = Zx (true, zs)) (hGW : ∀ ys W, JJ (true, ys) W → GW W)
    (hn : ∀ w ∈ ways, nodeAt b w.ino = some (nd w)) (hb1 : ways.length < 4611686018427387904) (hb2 : ∀ w ∈ ways, (nd w).entries.length < 4611686018427387904)
    (hY : ∀ pre e W, JJ (true, pre) W → pre.length < (entsN nd ways ways.length).length → YieldAt Fence.wide m Tryd.prog l #[entV e] W fun r W' =>
      (r = .returned (.bool true) ∧ JJ (true, pre ++ [e]) W' ∧ W.heap.size ≤ W'.heap.size ∧ ∀ b o, ¬ Zx (true, pre) b → W.heap[b]? = some o → o.isCells = true → W'.heap[b]? = some o) ∨ (r = .returned (.bool false) ∧ JJ (false, pre ++ [e]) W')) :
    cY Prod.fst JJ Zx Tryd.prog 32 xxg (fun e s y => e = .normal ∧ (y = (true, entsN nd ways ways.length) ∨ ∃ pre, y = (false, pre))) ⟨argT [.fn (.yield l) [] [], .ptr (.ptr (xec b ways) 0) 0], fun _ => none, 0⟩ (true, []) := by
  unfold xxg
  refine xx9 (cY_seq (x5ab rfl ?_))
  refine cY_seq (cY_cw rfl ?_)
  unfold xec
  simp only [yQ_n, R122, R101, R68, R71, R3, DWay, EV, ↓EVd, isCall, Nat.reduceAdd, Nat.reduceSub, Nat.reduceMul, Nat.reduceEqDiff, Nat.reduceBEq, Nat.reduceLT, Nat.reduceLeDiff, ↓reduceIte, reduceCtorEq]
  have TRp := xbeb _ rfl (x14 b ways)
  have TRc1 := xrj b ways
  have TRc := xyw _ TRc1
  have hnode : ∀ w ∈ ways, Ok Tryd.prog 59 [.ptr (xec b ways) 0, int w.ino] (xe (nd w)) := fun w hw => xicb b ways _ _ (hn w hw)
  unfold xec at TRp TRc1 TRc hnode
  generalize hTR : (AV.agg [sll 13 xe b.nodes, sll 3 encWay ways, AV.junk, AV.junk]) = TR at TRp TRc TRc1 hnode
  refine xyn (xy2 (fun k s y => ∃ i : Nat, i ≤ ways.length ∧ k = ways.length - i + 1 ∧ y = (true, entsN nd ways i) ∧ s.T 0 = .fn (.yield l) [] [] ∧ s.T 1 = (TR.ptr 0).ptr 0 ∧ s.T 10 = sll 3 encWay ways ∧ s.T 11 = int ways.length ∧ s.T 12 = int i) (ways.length + 1) ⟨0, by omega, by omega, rfl, rfl, rfl, rfl, rfl, rfl⟩ ?_ ?_)
  · rintro s y ⟨i, h1, h2, _⟩; omega
  rintro k ⟨T, H, nx⟩ y ⟨i, hi, hk, rfl, h0, h1, h10, h11, h12⟩
  dsimp only at h0 h1 h10 h11 h12
  refine cY_seq (cY_cw rfl ?_)
  simp only [yQ_n, h0, h1, h10, h11, h12, R3, EV, ↓EVd, isCall, Nat.reduceAdd, Nat.reduceSub, Nat.reduceMul, Nat.reduceEqDiff, Nat.reduceBEq, Nat.reduceLT, Nat.reduceLeDiff, ↓reduceIte, reduceCtorEq]
  refine ⟨fun hlt => ?_, fun hlt => ?_⟩
  rotate_left
  · refine cY_seq (xhl (b := false) rfl ?_)
    rw [if_neg (by simp)]
    refine xwv ?_
    have : i = ways.length := by omega
    subst this
    exact ⟨rfl, .inl rfl⟩
  have hi' : i < ways.length := by omega
  refine cY_seq (xhl (b := true) rfl ?_)
  rw [if_pos rfl]
  refine xvv ?_
  refine cY_seq (xyn (cY_seq (cY_cw rfl ?_)))
  have e7 : ((0 : Int) ≤ (i : Int)) = True := eq_true (by omega)
  have e8 : (ways.map encWay)[(i : Int).toNat]? = some (encWay ways[i]) := by simp [hi']
  simp only [yQ_n, h0, h1, h10, h11, h12, e7, e8, R3, R68, R71, DWay, EV, ↓EVd, isCall, Nat.reduceAdd, Nat.reduceSub, Nat.reduceMul, Nat.reduceEqDiff, Nat.reduceBEq, Nat.reduceLT, Nat.reduceLeDiff, ↓reduceIte, reduceCtorEq]
  refine cY_seq (cY_cw rfl ?_)
  simp only [yQ_n, h0, h1, h10, h11, h12, R3, R101, R71, DWay, EV, ↓EVd, isCall, Nat.reduceAdd, Nat.reduceSub, Nat.reduceMul, Nat.reduceEqDiff, Nat.reduceBEq, Nat.reduceLT, Nat.reduceLeDiff, ↓reduceIte, reduceCtorEq]
  refine S1_ok (hnode _ (List.getElem_mem hi')) rfl (xk4 _ _ TRc1) ?_
  simp only [yQ_n, h0, h1, h10, h11, h12, R3, R47, R41, DNode, DEntry, EV, ↓EVd, isCall, Nat.reduceAdd, Nat.reduceSub, Nat.reduceMul, Nat.reduceEqDiff, Nat.reduceBEq, Nat.reduceLT, Nat.reduceLeDiff, ↓reduceIte, reduceCtorEq]
  have hbe := hb2 _ (List.getElem_mem hi')
  have hel := xl9 nd ways i
  have hsu := xbu nd ways i hi'
  generalize hes : (nd ways[i]).entries = es at hbe hel hsu
  refine xyn (xy2 (fun k s y => ∃ j : Nat, j ≤ es.length ∧ k = es.length - j + 1 ∧ y = (true, entsN nd ways i ++ es.take j) ∧ s.T 0 = .fn (.yield l) [] [] ∧ s.T 1 = (TR.ptr 0).ptr 0 ∧ s.T 10 = sll 3 encWay ways ∧ s.T 11 = int ways.length ∧ s.T 12 = int i ∧ s.T 20 = sll 3 xp es ∧ s.T 21 = int es.length ∧ s.T 22 = int j) (es.length + 1) ⟨0, by omega, by omega, by simp, h0, h1, h10, h11, h12, by rw [← hes]; rfl, by rw [← hes]; rfl, rfl⟩ ?_ ?_)
  · rintro s y ⟨j, h1, h2, _⟩; omega
  clear h0 h1 h10 h11 h12
  rintro k2 ⟨T2, H2, nx2⟩ y ⟨j, hj, hk2, rfl, h0, h1, h10, h11, h12, h20, h21, h22⟩
  dsimp only at h0 h1 h10 h11 h12 h20 h21 h22
  refine cY_seq (cY_cw rfl ?_)
  simp only [yQ_n, h0, h1, h10, h11, h12, h20, h21, h22, R3, EV, ↓EVd, isCall, Nat.reduceAdd, Nat.reduceSub, Nat.reduceMul, Nat.reduceEqDiff, Nat.reduceBEq, Nat.reduceLT, Nat.reduceLeDiff, ↓reduceIte, reduceCtorEq]
  refine ⟨fun hlt2 => ?_, fun hlt2 => ?_⟩
  rotate_left
  · refine cY_seq (xhl (b := false) rfl ?_)
    rw [if_neg (by simp)]
    refine xwv ?_
    have : j = es.length := by omega
    subst this
    show cY _ _ _ _ _ _ _ _ _
    refine cY_cw rfl ?_
    have e9 : wr ((i : Int) + 1) = ((i + 1 : Nat) : Int) := by rw [wr_in (by omega) (by omega)]; omega
    simp only [yQ_n, h0, h1, h10, h11, h12, e9, R3, EV, ↓EVd, isCall, Nat.reduceAdd, Nat.reduceSub, Nat.reduceMul, Nat.reduceEqDiff, Nat.reduceBEq, Nat.reduceLT, Nat.reduceLeDiff, ↓reduceIte, reduceCtorEq]
    exact ⟨i + 1, by omega, by omega, by rw [hsu, List.take_length], rfl⟩
  have hj' : j < es.length := by omega
  refine cY_seq (xhl (b := true) rfl ?_)
  rw [if_pos rfl]
  refine xvv ?_
  refine cY_seq (xyn (cY_seq (cY_cw rfl ?_)))
  have e7 : ((0 : Int) ≤ (j : Int)) = True := eq_true (by omega)
  have e8 : (es.map xp)[(j : Int).toNat]? = some (xp es[j]) := by simp [hj']
  simp only [yQ_n, h0, h1, h10, h11, h12, h20, h21, h22, e7, e8, R3, R41, R74, DEntry, EV, ↓EVd, isCall, Nat.reduceAdd, Nat.reduceSub, Nat.reduceMul, Nat.reduceEqDiff, Nat.reduceBEq, Nat.reduceLT, Nat.reduceLeDiff, ↓reduceIte, reduceCtorEq]
  refine cY_seq ?_
  refine xj9 (T := 74) (Tb := 4) (tx := 6) (d1 := 26) (d2 := 27) (d3 := 28) (d4 := 29) (l := l) (m := m) (u := entV es[j]) (x := xp es[j]) (yT := (true, entsN nd ways i ++ es.take j ++ [es[j]])) (yF := (false, entsN nd ways i ++ es.take j ++ [es[j]])) rfl rfl rfl (fun W h => hGW _ W h) hab h0 (by omega) (by omega) ?_ (fun E v h => xt2 h) ?_ (fun b h => by rw [hZ _ (entsN nd ways i ++ es.take j)] at h; exact h) ?_ ?_
  · simp only [h0, h1, h10, h11, h12, h20, h21, h22, e7, e8, R3, R41, R74, DEntry, EV, ↓EVd, isCall, Nat.reduceAdd, Nat.reduceSub, Nat.reduceMul, Nat.reduceEqDiff, Nat.reduceBEq, Nat.reduceLT, Nat.reduceLeDiff, ↓reduceIte, reduceCtorEq]
  · intro W hJ
    exact hY _ _ W hJ (by subst hes; exact hel j hi' hj')
  · show cY _ _ _ _ _ _ _ _ _
    refine xhl (b := false) rfl ?_
    rw [if_neg (by simp)]
    refine xvv ?_
    show cY _ _ _ _ _ _ _ _ _
    refine cY_cw rfl ?_
    generalize hK : keepT _ = K
    have k0 : K 0 = .fn (.yield l) [] [] := by rw [← hK]; exact xlh h0 rfl rfl
    have k1 : K 1 = (TR.ptr 0).ptr 0 := by rw [← hK]; exact xlh h1 TRc TRp
    have k10 : K 10 = sll 3 encWay ways := by rw [← hK]; exact xlh h10 (by simp only [sll, closed, cM_Way]) (x7i 3 encWay (by omega) xaz ways)
    have k11 : K 11 = int ways.length := by rw [← hK]; exact xlh h11 rfl rfl
    have k12 : K 12 = int i := by rw [← hK]; exact xlh h12 rfl rfl
    have k20 : K 20 = sll 3 xp es := by rw [← hK]; exact xlh h20 (by simp only [sll, closed, x8d]) (x7i 3 xp (by omega) x5t es)
    have k21 : K 21 = int es.length := by rw [← hK]; exact xlh h21 rfl rfl
    have k22 : K 22 = int j := by rw [← hK]; exact xlh h22 rfl rfl
    have e9 : wr ((j : Int) + 1) = ((j + 1 : Nat) : Int) := by rw [wr_in (by omega) (by omega)]; omega
    simp only [yQ_n, k0, k1, k10, k11, k12, k20, k21, k22, e9, R3, EV, ↓EVd, isCall, Nat.reduceAdd, Nat.reduceSub, Nat.reduceMul, Nat.reduceEqDiff, Nat.reduceBEq, Nat.reduceLT, Nat.reduceLeDiff, ↓reduceIte, reduceCtorEq]
    exact ⟨j + 1, by omega, by omega, by rw [List.take_succ_eq_append_getElem hj', List.append_assoc], rfl⟩
  · show cY _ _ _ _ _ _ _ _ _
    refine xhl (b := true) rfl ?_
    rw [if_pos rfl]
    refine xwv ?_
    exact ⟨rfl, .inr ⟨_, rfl⟩⟩
end
theorem x3z {P : Program} {fn : Func} (h : fn.results.toList = []) (tmps : Array Value) (w : World) : (results fn tmps).run P w = .ok (.tuple #[]) w := by
  simp only [results, Array.mapM_eq_mapM_toList, h]
  rfl
theorem x99 {w w' : World} (h : GW w) (hg : w.grownBy w' none) : GW w' := GW.keep h hg.size fun b o hb ho _ => (hg.block b (Array.getElem?_eq_some_iff.1 ho).1 (by simp)).trans ho
def KpX (X : Nat → Prop) (A B : World) : Prop := A.heap.size ≤ B.heap.size ∧ ∀ b o, ¬ X b → A.heap[b]? = some o → o.isCells = true → B.heap[b]? = some o
theorem xav {E : Env} {args : List AV} {vals : List Value} (hv : VReps E args vals) (k : Nat) : ∀ t, VRep E (argT args t) ((vals.toArray ++ Array.replicate k undef).getD t undef) := by
  have hl := hv.length
  intro t
  simp only [argT]
  by_cases ht : t < args.length
  · rw [List.getElem?_eq_getElem ht]
    obtain ⟨u, h1, h2⟩ := hv.get t _ (List.getElem?_eq_getElem ht)
    have : (vals.toArray ++ Array.replicate k undef).getD t undef = u := by
      have hlt : t < vals.length := by omega
      simp only [Array.getD_eq_getD_getElem?, Array.getElem?_append, List.size_toArray, if_pos hlt, List.getElem?_toArray, h1, Option.getD_some]
    rw [this]
    exact h2
  · rw [List.getElem?_eq_none (by omega)]
    have : (vals.toArray ++ Array.replicate k undef).getD t undef = undef := by
      simp only [Array.getD_eq_getD_getElem?, Array.getElem?_append]
      rw [if_neg (by simp; omega)]
      simp only [Array.getElem?_replicate]
      split <;> rfl
    rw [this]
    exact xvk E
theorem xr1 {n : Nat} {b : Branch} {ways : List Way} {nd : Way → Node} {X Z : Nat → Prop} {w : World} {v : Value}
    (hn : ∀ w ∈ ways, nodeAt b w.ino = some (nd w)) (hb1 : ways.length < 4611686018427387904) (hb2 : ∀ w ∈ ways, (nd w).entries.length < 4611686018427387904)
    (hv : VRep (Ec Z w) (.ptr (.ptr (xec b ways) 0) 0) v) (hZ : ∀ b, Z b → b < w.heap.size) (hX : ∀ b, Z b → ¬ X b) (hXw : ∀ b, X b → b < w.heap.size) (hXg : ∀ b, X b → gN ≤ b) (hgw : GW w) :
    SeqStopsK Fence.wide n Tryd.prog 76 #[v] (fun e : Entry => #[entV e]) (KpX X) (fun ys => ys = entsN nd ways ways.length) (fun _ => True) (entsN nd ways ways.length).length w := by
  intro l J Jx W hW hJ hJx hY h0
  let JJ : Bool × List Entry → World → Prop := fun y W => if y.1 = true then J y.2 W ∧ GW W else Jx y.2 W
  let Zx : Bool × List Entry → Nat → Prop := fun y b => y.1 = true ∧ X b
  have hwalk := xn3 (JJ := JJ) (Zx := Zx) (b := b) (ways := ways) (nd := nd) (l := l) (m := n - 1) ?_ ?_ ?_ hn hb1 hb2 ?_
  rotate_left
  · rintro ⟨t, ys⟩ W1 W2 h hg
    cases t with
    | true => exact ⟨hJ ys W1 W2 none h.1 hg (fun r e => by cases e), x99 h.2 hg⟩
    | false => exact hJx ys W1 W2 none h hg (fun r e => by cases e)
  · intro ys zs; rfl
  · intro ys W1 h; exact h.2
  · intro pre e W1 hj hlt
    obtain ⟨fn, tm, asg, bo, g1, g2⟩ := hY pre e W1 hj.1 hlt
    refine ⟨fn, tm, asg, bo, g1, g2.mono ?_⟩
    rintro r W' (⟨rfl, k1, k2, k3⟩ | ⟨rfl, k1⟩)
    · exact .inl ⟨rfl, ⟨k1, GW.keep hj.2 k2 fun b o hb ho hc => k3 b o (fun hx => absurd (hXg b hx) (by omega)) ho hc⟩, k2, fun b o hb => k3 b o fun hx => hb ⟨rfl, hx⟩⟩
    · exact .inr ⟨rfl, k1⟩
  refine callsIn_wide.2 ?_
  obtain ⟨fn, c, h1, h2, h3, h4, h5⟩ := xln.code
  refine calls_of_wp h1 h2 ?_
  have hsame : ∀ b, Z b → W.heap[b]? = w.heap[b]? := fun b hb => hW.block b (hZ b hb)
  have hv' : VRep (Ec Z W) (.ptr (.ptr (xec b ways) 0) 0) v := VRep.stab (E := Ec Z w) (E' := Ec Z W) ⟨fun _ h => h, fun _ h => h.elim, fun b hb => ⟨hb, hsame b hb⟩⟩ _ _ hv
  have hargs : VReps (Ec Z W) [.fn (.yield l) [] [], .ptr (.ptr (xec b ways) 0) 0] [.func (.yield l) #[] #[], v] := by
    simp only [VReps]
    exact ⟨_, _, VRep.fn_mk (va := #[]) (vb := #[]) .nil .nil, ⟨_, _, hv', rfl, rfl⟩, rfl⟩
  have hGW0 : GW W := hgw.mono hW hgw.size
  have hSY : SY Prod.fst JJ Zx 32 ⟨argT [.fn (.yield l) [] [], .ptr (.ptr (xec b ways) 0) 0], fun _ => none, 0⟩ (true, []) { tmps := (#[Value.func (.yield l) #[] #[]] ++ #[v]) ++ Array.replicate (fn.ntmps - (#[Value.func (.yield l) #[] #[]] ++ #[v]).size) undef, defers := [] } W := by
    refine SYl_SY rfl ⟨{ base := W.heap.size, w0 := W, zone := Z, gw := hGW0, gb := hGW0.size }, Ec Z W, 0, Ec Z W, ?_, rfl, Nat.le_refl _, ?_, rfl, fun b hb hx => hX b hb hx.2, fun b hx => Nat.lt_of_lt_of_le (hXw b hx.2) hW.size⟩
    · exact ⟨h0, hGW0⟩
    · refine ⟨⟨Below.refl _ _, Nat.le_refl _, fun b hb => Nat.lt_of_lt_of_le (hZ b hb) hW.size, fun b _ l c e => by simp [Ec] at e, fun b hb => .inl hb, fun l => rfl, fun l x e => by simp [Ec] at e, fun l l' b c c' e => by simp [Ec] at e, fun l o p e => by simp at e, fun l b c e => by simp [Ec] at e⟩, Stab.refl _, fun l k => k.elim, fun l k => .inl k, by simp [h3], rfl, ?_⟩
      exact xav hargs _
  refine wp_mono (hwalk c h5 _ _ hSY) ?_
  rintro e a' w' ⟨s', y', ⟨rfl, hq⟩, hSY'⟩
  rcases hq with rfl | ⟨pre, rfl⟩
  · obtain ⟨C, E0, k0, E, q1, q2, q3, q4, rfl, q5⟩ := xlw (y := (true, entsN nd ways ways.length)) rfl hSY'
    have hg := xos q4.heap.below q2
    obtain ⟨v0, hv1, hv2⟩ := xcp (P := Tryd.prog) (fn := fn) (s := s') (rs := []) q4.heap q4.tmps (by rw [h4]; rfl)
    refine ⟨q4.defers, v0, hv1, ⟨v0, rfl⟩, ?_⟩
    exact .inl ⟨_, rfl, hJ _ _ _ none q1.1 hg (fun r e => by cases e)⟩
  · have hd : SYd JJ 32 s' (false, pre) a' w' := by
      unfold SY at hSY'
      rwa [if_neg (by simp)] at hSY'
    obtain ⟨q1, q2, q3, q4⟩ := hd
    have hv1 : _ := x3z (P := Tryd.prog) (fn := fn) (by rw [h4]) a'.tmps w'
    refine ⟨q3, _, hv1, ⟨_, rfl⟩, ?_⟩
    exact .inr ⟨pre, trivial, q1⟩
end Go.Proofs.YtmacnoajlofdbaaDoor.AL

/- (*walk.trail).reach: its pieces; written by reachgen.py. -/
set_option linter.all false
set_option maxRecDepth 100000
namespace Go.Proofs.YtmacnoajlofdbaaDoor.AL
open Go Go.Proofs
def xmq : AC := (.region [zo (.assign (.const (Value.slice none 0 0))) 2])
def x6q : AC := (.region [zo (.move (zt 0)) 7, zo (.nilCheck (zt 7)) 8, zo (.fieldAddr 122 (zt 8) 0) 9, zo (.fieldAddr 26 (zt 9) 0) 10, zo (.load 24 (zt 10)) 11, zo (.call (zc (.builtin .len) #[zt 11] #[24])) 12, zo (.makeSlice 32 (zt 12) (zt 12)) 13, zo (.alloc 32) 3, ⟨.store 32 (zt 3) (zt 13), none, none⟩])
def xsp : AC := (.seq (.region [zo (.move (zt 0)) 14, zo (.nilCheck (zt 14)) 15, zo (.fieldAddr 122 (zt 15) 1) 16, zo (.load 68 (zt 16)) 17, zo (.call (zc (.builtin .len) #[zt 17] #[68])) 18, zo (.move (zi (0))) 19]) (.block 0 (.loop (.seq (.region [zo (.binOp .lss 3 (zt 19) (zt 18) 3) 20]) (.seq (.cond (zt 20) .skip (.exit 0)) (.seq (.block 1 (.seq (.region [zo (.indexAddr 68 (zt 17) (zt 19)) 21, zo (.load 71 (zt 21)) 22, zo (.alloc 71) 5, ⟨.store 71 (zt 5) (zt 22), none, none⟩]) (.region [zo (.load 32 (zt 3)) 23, zo (.fieldAddr 71 (zt 5) 0) 24, zo (.load 3 (zt 24)) 25, zo (.binOp .sub 3 (zt 25) (zi (1)) 3) 26, zo (.indexAddr 32 (zt 23) (zt 26)) 27, ⟨.store 4 (zt 27) (.const (Value.bool true)), none, none⟩]))) (.region [zo (.binOp .add 3 (zt 19) (zi (1)) 3) 28, zo (.move (zt 28)) 19])))))))
def xlq : AC := (.region [zo (.move (zt 0)) 29, zo (.call (zc (.value (.func 62)) #[zt 29] #[101])) 30])
def xlk : AC := (.region [zo (.alloc 74) 6, ⟨.store 74 (zt 6) (zt 31), none, none⟩])
def x1j : AC := (.block 3 (.seq (.region [zo (.fieldAddr 74 (zt 6) 1) 32, zo (.load 3 (zt 32)) 33, zo (.binOp .geq 3 (zt 33) (zi (1)) 3) 34, zo (.move (zt 34)) 35, ⟨.fieldAddr 74 (zt 6) 1, some 36, (some (35, true))⟩, ⟨.load 3 (zt 36), some 37, (some (35, true))⟩, ⟨.load 32 (zt 3), some 38, (some (35, true))⟩, ⟨.call (zc (.builtin .len) #[zt 38] #[32]), some 39, (some (35, true))⟩, ⟨.binOp .leq 3 (zt 37) (zt 39) 3, some 40, (some (35, true))⟩, zo (.pick (zt 35) (zt 40) (.const (Value.bool false))) 41]) (.cond (zt 41) (.region [zo (.load 32 (zt 3)) 42, zo (.fieldAddr 74 (zt 6) 1) 43, zo (.load 3 (zt 43)) 44, zo (.binOp .sub 3 (zt 44) (zi (1)) 3) 45, zo (.indexAddr 32 (zt 42) (zt 45)) 46, ⟨.store 4 (zt 46) (.const (Value.bool true)), none, none⟩]) .skip)))
def xtj : AC := (.seq (.region [zo (.load 32 (zt 3)) 47, zo (.assign (zt 47)) 2]) .ret)
theorem xaab : ∃ (fn : Func) (c0 c1 c2 c7 asg bd ct : Code), Tryd.prog.funcs[45]? = some fn ∧ fn.body = some (.seq c0 (.seq c1 (.seq c2 (.seq (.seq c7 (.block 2 (.rangeFunc (.tmp 30) #[31] asg bd))) ct)))) ∧ fn.ntmps = 48 ∧ fn.results.toList = [.tmp 2] ∧ callable Tryd.prog 45 = true ∧ comp 48 c0 = some xmq ∧ comp 48 c1 = some x6q ∧ comp 48 c2 = some xsp ∧ comp 48 c7 = some xlq ∧ comp 48 asg = some xlk ∧ comp 48 bd = some x1j ∧ comp 48 ct = some xtj :=
  ⟨Tryd.f45, _, _, _, _, _, _, _, Tryd.func45, rfl, rfl, rfl, by kernel_rfl, by kernel_rfl, by kernel_rfl, by kernel_rfl, by kernel_rfl, by kernel_rfl, by kernel_rfl, by kernel_rfl⟩
end Go.Proofs.YtmacnoajlofdbaaDoor.AL

/- (*walk.trail).reach: the walk ahead of the range over a function. -/
set_option linter.all false
namespace Go.Proofs.YtmacnoajlofdbaaDoor.AL
open Go Go.Proofs Go.RowKit
theorem xm8 (b : Branch) (ways : List Way) : Ok Tryd.prog 62 [.ptr (xec b ways) 0] (.fn (.func 76) [] [.ptr (.ptr (xec b ways) 0) 0]) := by
  refine okF xjp (by simp) ?_
  have h := xrj b ways
  unfold xtk
  generalize xec b ways = X at h
  simp only [R101, EV, ↓EVd, isCall, Nat.reduceAdd, Nat.reduceSub, Nat.reduceMul, Nat.reduceEqDiff, Nat.reduceBEq, Nat.reduceLT, Nat.reduceLeDiff, ↓reduceIte, reduceCtorEq]
  exact ⟨4, _, by simp [frz, frzs, closed, closeds, h, upd], Sub.refl _⟩
def stepW (bs : List Bool) (w : Way) : List Bool := bs.set (w.ino - 1).toNat true
def stepE (bs : List Bool) (e : Entry) : List Bool := if 1 ≤ e.ino ∧ e.ino ≤ (bs.length : Int) then bs.set (e.ino - 1).toNat true else bs
theorem x7l (bs : List Bool) (w : Way) : (stepW bs w).length = bs.length := by simp [stepW]
theorem xrx (bs : List Bool) (e : Entry) : (stepE bs e).length = bs.length := by unfold stepE; split <;> simp
theorem x6w (ws : List Way) : ∀ bs : List Bool, (ws.foldl stepW bs).length = bs.length := by
  induction ws with
  | nil => intro bs; rfl
  | cons w ws ih => intro bs; rw [List.foldl_cons, ih, x7l]
theorem xdm (es : List Entry) : ∀ bs : List Bool, (es.foldl stepE bs).length = bs.length := by
  induction es with
  | nil => intro bs; rfl
  | cons w ws ih => intro bs; rw [List.foldl_cons, ih, xrx]
def KS (b : Branch) (ways : List Way) (s : AS) : Prop :=
  s.T 3 = .loc 8 1 0 0 ∧ s.T 30 = .fn (.func 76) [] [.ptr (.ptr (xec b ways) 0) 0] ∧ s.H 7 = some (.row 4 1 ((ways.foldl stepW (List.replicate b.nodes.length false)).map bool)) ∧ s.H 8 = some (.row 32 1 [.msl 7 b.nodes.length]) ∧ 8 < s.nx
set_option maxHeartbeats 2000000 in
theorem xm5 (b : Branch) (ways : List Way) (hi : ∀ w ∈ ways, 1 ≤ w.ino ∧ w.ino ≤ (b.nodes.length : Int)) (hN : b.nodes.length ≤ 281474976710656) (hW : ways.length < 4611686018427387904) :
    cw Tryd.prog 48 (.seq xmq (.seq x6q (.seq xsp xlq))) (fun e s => e = .normal ∧ KS b ways s) ⟨argT [.ptr (xec b ways) 0], fun _ => none, 0⟩ := by
  have e2_0 := eq_true (show (0 : Int) ≤ (b.nodes.length : Int) by omega)
  have e2_1 := eq_true (show (b.nodes.length : Int) ≤ (b.nodes.length : Int) by omega)
  have e2_2 := eq_true (show (1 : Int) * (b.nodes.length : Int) ≤ 281474976710656 by omega)
  have e2_3 := eq_true (show (b.nodes.length : Int) ≤ 9223372036854775807 by omega)
  have hTRc := xrj b ways
  have hnm := xm8 b ways
  have e3 : List.replicate ((b.nodes.length : Int).toNat) (bool false) = (List.replicate b.nodes.length false).map bool := by simp
  unfold xmq x6q xsp xlq KS
  unfold xec at hTRc hnm ⊢
  simp only [e2_0, e2_1, e2_2, e2_3, e3, Int.toNat_natCast, R3, R4, R24, R26, R68, R71, R32, R122, R101, DBranch, DNode, DWay, EV, ↓EVd, isCall, Nat.reduceAdd, Nat.reduceSub, Nat.reduceMul, Nat.reduceEqDiff, Nat.reduceBEq, Nat.reduceLT, Nat.reduceLeDiff, ↓reduceIte, reduceCtorEq]
  generalize hTR : (AV.agg [sll 13 xe b.nodes, sll 3 encWay ways, AV.junk, AV.junk]) = TR at hTRc hnm
  refine xqr (fun k s => ∃ i : Nat, i ≤ ways.length ∧ k = ways.length - i + 1 ∧ s.T 0 = TR.ptr 0 ∧ s.T 3 = .loc 8 1 0 0 ∧ s.T 17 = sll 3 encWay ways ∧ s.T 18 = int ways.length ∧ s.T 19 = int i ∧
    s.H 7 = some (.row 4 1 (((ways.take i).foldl stepW (List.replicate b.nodes.length false)).map bool)) ∧ s.H 8 = some (.row 32 1 [.msl 7 b.nodes.length]) ∧ 8 < s.nx) (ways.length + 1) ⟨0, by omega, by omega, rfl, rfl, rfl, rfl, rfl, by simp [upd], by simp [upd], by show 8 < 16; omega⟩ ?_ ?_
  · rintro s ⟨i, h1, h2, _⟩; omega
  rintro k ⟨T, H, nx⟩ ⟨i, hi', hk, h0, h3, h17, h18, h19, g7, g8, hnx⟩
  dsimp only at h0 h3 h17 h18 h19 g7 g8 hnx
  have hL : ((ways.take i).foldl stepW (List.replicate b.nodes.length false)).length = b.nodes.length := by rw [x6w]; simp
  generalize hbs : (ways.take i).foldl stepW (List.replicate b.nodes.length false) = bs at g7 hL
  have q7 : 7 < nx := by omega
  have kk := And.intro (And.intro (ne2 hnx) (And.intro (ne2' hnx) (lt2 hnx))) (And.intro (ne2 q7) (And.intro (ne2' q7) (lt2 q7)))
  apply cw_cwp
  simp only [h0, h3, h17, h18, h19, g7, g8, kk, Int.toNat_natCast, R3, R4, R24, R26, R68, R71, R32, R122, R101, DBranch, DNode, DWay, EV, ↓EVd, isCall, Nat.reduceAdd, Nat.reduceSub, Nat.reduceMul, Nat.reduceEqDiff, Nat.reduceBEq, Nat.reduceLT, Nat.reduceLeDiff, ↓reduceIte, reduceCtorEq]
  refine ⟨fun hlt => ?_, fun hlt => ?_⟩
  rotate_left
  · have : i = ways.length := by omega
    subst this
    rw [List.take_length] at hbs
    refine S1_ok hnm rfl (by simp [closeds, closed, hTRc]) ?_
    simp only [h0, h3, h17, h18, h19, g7, g8, kk, Int.toNat_natCast, R3, R4, R24, R26, R68, R71, R32, R122, R101, DBranch, DNode, DWay, EV, ↓EVd, isCall, Nat.reduceAdd, Nat.reduceSub, Nat.reduceMul, Nat.reduceEqDiff, Nat.reduceBEq, Nat.reduceLT, Nat.reduceLeDiff, ↓reduceIte, reduceCtorEq]
    rw [hbs]
  have hi2 : i < ways.length := by omega
  obtain ⟨w1, w2⟩ := hi _ (List.getElem_mem hi2)
  have e7 : ((0 : Int) ≤ (i : Int)) = True := eq_true (by omega)
  have e8 : (ways.map encWay)[i]? = some (encWay ways[i]) := by simp [hi2]
  have e9 : wr ((i : Int) + 1) = ((i + 1 : Nat) : Int) := by rw [wr_in (by omega) (by omega)]; omega
  have e10 : wr (ways[i].ino - 1) = ways[i].ino - 1 := wr_in (by omega) (by omega)
  have e11 : ((0 : Int) ≤ ways[i].ino - 1) = True := eq_true (by omega)
  obtain ⟨x0, hx0⟩ : ∃ x0, bs[(ways[i].ino - 1).toNat]? = some x0 := ⟨bs[(ways[i].ino - 1).toNat]'(by omega), List.getElem?_eq_getElem _⟩
  have e13 : (bs.map bool)[(ways[i].ino - 1).toNat]? = some (bool x0) := by rw [List.getElem?_map, hx0]; rfl
  have e12 : (ways[i].ino - 1 < (b.nodes.length : Int)) = True := eq_true (by omega)
  simp only [e7, e8, e9, e10, e11, e12, e13, h0, h3, h17, h18, h19, g7, g8, kk, Int.toNat_natCast, R3, R4, R24, R26, R68, R71, R32, R122, R101, DBranch, DNode, DWay, EV, ↓EVd, isCall, Nat.reduceAdd, Nat.reduceSub, Nat.reduceMul, Nat.reduceEqDiff, Nat.reduceBEq, Nat.reduceLT, Nat.reduceLeDiff, ↓reduceIte, reduceCtorEq]
  exact ⟨i + 1, by omega, by omega, rfl, by rw [List.take_succ_eq_append_getElem hi2, List.foldl_append, hbs]; rfl⟩
end Go.Proofs.YtmacnoajlofdbaaDoor.AL

/- (*walk.trail).reach: the range over a function, and what is handed back. -/
set_option linter.all false
namespace Go.Proofs.YtmacnoajlofdbaaDoor.AL
open Go Go.Proofs Go.RowKit
def kp (l : Nat) : Bool := l == 7 || l == 8
def Hk (n : Nat) (bs : List Bool) : Nat → Option AO := fun l => if l = 7 then some (.row 4 1 (bs.map bool)) else if l = 8 then some (.row 32 1 [.msl 7 n]) else none
def Er (Es : Env) (Z : Nat → Prop) (W : World) : Env := { Z := Z, w := W, L := fun l => if kp l = true then Es.L l else none, K := Es.K }
theorem VReps.bools {E E' : Env} : ∀ (bs : List Bool) (us : List Value), VReps E (bs.map bool) us → VReps E' (bs.map bool) us
  | [], us, h => by simpa only [List.map_nil, VReps] using h
  | x :: bs, us, h => by
    simp only [List.map_cons, VReps] at h ⊢
    obtain ⟨u, us', h1, h2, h3⟩ := h
    exact ⟨u, us', by simpa only [bool, VRep] using h1, VReps.bools bs us' h2, h3⟩
theorem kp7 : kp 7 = true := rfl
theorem kp8 : kp 8 = true := rfl
theorem HR.shrink {C : Ctx} {Es E : Env} {Z : Nat → Prop} {H : Nat → Option AO} {n : Nat} {bs : List Bool} (hR : HR C E H) (h7 : H 7 = some (.row 4 1 (bs.map bool))) (h8 : H 8 = some (.row 32 1 [.msl 7 n]))
    (hL : ∀ l, kp l = true → E.L l = Es.L l) (hK : Es.K 7 ∧ Es.K 8) (hZ : ∀ b, Z b → E.Z b) : HR C (Er Es Z E.w) (Hk n bs) := by
  have e7 := hR.dom 7
  have e8 := hR.dom 8
  rw [h7, hL 7 rfl] at e7
  rw [h8, hL 8 rfl] at e8
  simp only [Option.isSome_some] at e7 e8
  refine ⟨hR.below, hR.base, fun b hb => hR.zlt b (hZ b hb), ?_, fun b hb => hR.zsrc b (hZ b hb), ?_, ?_, ?_, ?_, ?_⟩
  · intro b hb l c e
    simp only [Er] at e
    split at e
    · rename_i hk; rw [← hL l hk] at e; exact hR.zlive b (hZ b hb) l c e
    · cases e
  · intro l
    simp only [Hk, Er, kp]
    by_cases h : l = 7
    · subst h; simpa using e7
    · by_cases h' : l = 8
      · subst h'; simpa using e8
      · simp [h, h']
  · intro l x e
    simp only [Er, kp] at e
    by_cases h : l = 7
    · subst h; exact hK.1
    · by_cases h' : l = 8
      · subst h'; exact hK.2
      · simp [h, h'] at e
  · intro l l' b c c' e e'
    simp only [Er] at e e'
    split at e
    · split at e'
      · rename_i g g'
        rw [← hL l g] at e
        rw [← hL l' g'] at e'
        exact hR.inj l l' b c c' e e'
      · cases e'
    · cases e
  · intro l o p ho hp
    simp only [Er] at hp
    split at hp
    · rename_i hk
      rw [← hL l hk] at hp
      simp only [Hk] at ho
      by_cases h : l = 7
      · subst h
        simp only [if_true] at ho
        injection ho with ho
        subst ho
        have := hR.obj 7 _ p h7 hp
        cases p with
        | none => simpa only [ORep] using this
        | some q =>
          obtain ⟨b, c⟩ := q
          simp only [ORep] at this ⊢
          obtain ⟨cur, us, g1, g2, g3⟩ := this
          exact ⟨cur, us, g1, VReps.bools _ _ g2, g3⟩
      · by_cases h' : l = 8
        · subst h'
          simp only [if_neg h, if_true] at ho
          injection ho with ho
          subst ho
          have := hR.obj 8 _ p h8 hp
          cases p with
          | none => simpa only [ORep] using this
          | some q =>
            obtain ⟨b, c⟩ := q
            simp only [ORep] at this ⊢
            obtain ⟨cur, us, g1, g2, g3⟩ := this
            refine ⟨cur, us, g1, ?_, g3⟩
            simp only [VReps, VRep] at g2 ⊢
            obtain ⟨u, us', ⟨A, c0, q1, q2, q3, q4, q5, q6⟩, r1, r2⟩ := g2
            refine ⟨u, us', ⟨A, c0, hK.1, q2, q3, q4, ?_, ?_⟩, r1, r2⟩
            · intro b c e; simp only [Er, kp7, if_true] at e; rw [← hL 7 rfl] at e; exact q5 b c e
            · intro e; simp only [Er, kp7, if_true] at e; rw [← hL 7 rfl] at e; exact q6 e
        · simp [h, h'] at ho
    · cases hp
  · intro l b c e
    simp only [Er] at e
    split at e
    · rename_i hk; rw [← hL l hk] at e; exact hR.old l b c e
    · cases e
theorem HR.grown {C : Ctx} {Es : Env} {Z : Nat → Prop} {W W' : World} {n B : Nat} {bs : List Bool} {row : Option Nat} (hR : HR C (Er Es Z W) (Hk n bs)) (hg : W.grownBy W' row) (hrow : ∀ r, row = some r → B ≤ r ∧ ∃ o : Obj, W.heap[r]? = some o ∧ o.isCells = false)
    (hB : C.base ≤ B) (hZ : ∀ b, Z b → b < B) : HR C (Er Es Z W') (Hk n bs) := by
  have hblock : ∀ b, b < W.heap.size → (∀ r, row = some r → b ≠ r) → W'.heap[b]? = W.heap[b]? := fun b hb hr => hg.block b hb (fun e => hr b e.symm rfl)
  refine ⟨?_, Nat.le_trans hR.base hg.size, fun b hb => Nat.lt_of_lt_of_le (hR.zlt b hb) hg.size, hR.zlive, hR.zsrc, hR.dom, hR.known, hR.inj, ?_, fun l b c e => ⟨(hR.old l b c e).1, Nat.lt_of_lt_of_le (hR.old l b c e).2 hg.size⟩⟩
  · refine ⟨hg.os.trans hR.below.os, hg.tape.trans hR.below.tape, hg.output.trans hR.below.output, Nat.le_trans hR.below.size hg.size, fun k hk => ?_⟩
    refine (hblock k (Nat.lt_of_lt_of_le hk hR.base) fun r e => ?_).trans (hR.below.block k hk)
    have := (hrow r e).1
    omega
  · intro l o p ho hp
    have hst : Stab (Er Es Z W) (Er Es Z W') := ⟨fun _ h => h, fun _ _ _ h => h, fun b hb => ⟨hb, hblock b (hR.zlt b hb) fun r e => by have := (hrow r e).1; have := hZ b hb; omega⟩⟩
    have h0 := hR.obj l o p ho hp
    refine ORep.stab hst ?_ h0
    rintro b c rfl
    refine hblock b (hR.old l b c hp).2 fun r e => ?_
    rintro rfl
    obtain ⟨_, ob, g1, g2⟩ := hrow b e
    have : ∃ T sz xs, o = .row T sz xs := by
      simp only [Hk] at ho
      split at ho
      · injection ho with ho; exact ⟨_, _, _, ho.symm⟩
      · split at ho
        · injection ho with ho; exact ⟨_, _, _, ho.symm⟩
        · cases ho
    obtain ⟨T, sz, xs, rfl⟩ := this
    simp only [ORep] at h0
    obtain ⟨cur, us, q1, _⟩ := h0
    have e1 : (Er Es Z W).w.heap[b]? = W.heap[b]? := rfl
    rw [e1, g1] at q1
    injection q1 with q1
    subst q1
    cases g2
section
variable {T : Nat → AV} {H : Nat → Option AO} {nx n : Nat} {x : Entry} {bs : List Bool}
theorem x48 (h3 : T 3 = .loc 8 1 0 0) (h31 : T 31 = xp x) (g7 : H 7 = some (.row 4 1 (bs.map bool))) (g8 : H 8 = some (.row 32 1 [.msl 7 n])) (hnx : 8 < nx) :
    cw Tryd.prog 48 xlk (fun e s => e = .normal ∧ s.T 3 = .loc 8 1 0 0 ∧ (∃ lb, s.T 6 = .loc lb 3 0 0 ∧ lb ≠ 7 ∧ lb ≠ 8 ∧ s.H lb = some (.row 74 3 [xp x])) ∧ s.H 7 = some (.row 4 1 (bs.map bool)) ∧ s.H 8 = some (.row 32 1 [.msl 7 n])) ⟨T, H, nx⟩ := by
  have q7 : 7 < nx := by omega
  have kk := And.intro (And.intro (ne2 hnx) (And.intro (ne2' hnx) (lt2 hnx))) (And.intro (ne2 q7) (And.intro (ne2' q7) (lt2 q7)))
  unfold xlk
  simp only [h3, h31, g7, g8, kk, Int.toNat_natCast, R3, R4, R74, R32, DEntry, EV, ↓EVd, isCall, Nat.reduceAdd, Nat.reduceSub, Nat.reduceMul, Nat.reduceEqDiff, Nat.reduceBEq, Nat.reduceLT, Nat.reduceLeDiff, ↓reduceIte, reduceCtorEq]
  have n7 : (7 = nx) = False := by simp; omega
  have n8 : (8 = nx) = False := by simp; omega
  simp only [n7, n8, if_false, and_true]
  exact ⟨nx, rfl, by omega, by omega, by simp⟩
set_option maxHeartbeats 1000000 in
theorem x55 (h3 : T 3 = .loc 8 1 0 0) (h6 : T 6 = .ptr (xp x) 0) (g7 : H 7 = some (.row 4 1 (bs.map bool))) (g8 : H 8 = some (.row 32 1 [.msl 7 n])) (hnx : 8 < nx) (hn : bs.length = n) (hN : n ≤ 281474976710656) :
    cw Tryd.prog 48 x1j (fun e s => e = .normal ∧ s.H 7 = some (.row 4 1 ((stepE bs x).map bool)) ∧ s.H 8 = some (.row 32 1 [.msl 7 n])) ⟨T, H, nx⟩ := by
  have q7 : 7 < nx := by omega
  have kk := And.intro (And.intro (ne2 hnx) (And.intro (ne2' hnx) (lt2 hnx))) (And.intro (ne2 q7) (And.intro (ne2' q7) (lt2 q7)))
  unfold x1j
  unfold stepE
  by_cases h1 : 1 ≤ x.ino
  · have e1 := eq_true h1
    by_cases h2 : x.ino ≤ (n : Int)
    · have e2 := eq_true h2
      obtain ⟨x0, hx0⟩ : ∃ x0, bs[(x.ino - 1).toNat]? = some x0 := ⟨bs[(x.ino - 1).toNat]'(by omega), List.getElem?_eq_getElem _⟩
      have e13 : (bs.map bool)[(x.ino - 1).toNat]? = some (bool x0) := by rw [List.getElem?_map, hx0]; rfl
      have e10 : wr (x.ino - 1) = x.ino - 1 := wr_in (by omega) (by omega)
      have e11 : ((0 : Int) ≤ x.ino - 1) = True := eq_true (by omega)
      have e12 : (x.ino - 1 < (n : Int)) = True := eq_true (by omega)
      simp only [e1, e2, e10, e11, e12, e13, h3, h6, g7, g8, kk, hn, and_self, true_and, and_true, if_true, Int.toNat_natCast, R3, R4, R74, R32, DEntry, EV, ↓EVd, isCall, Nat.reduceAdd, Nat.reduceSub, Nat.reduceMul, Nat.reduceEqDiff, Nat.reduceBEq, Nat.reduceLT, Nat.reduceLeDiff, ↓reduceIte, reduceCtorEq]
    · have e2 := eq_false h2
      simp only [e1, e2, h3, h6, g7, g8, kk, hn, and_false, if_false, and_self, true_and, and_true, Int.toNat_natCast, R3, R4, R74, R32, DEntry, EV, ↓EVd, isCall, Nat.reduceAdd, Nat.reduceSub, Nat.reduceMul, Nat.reduceEqDiff, Nat.reduceBEq, Nat.reduceLT, Nat.reduceLeDiff, ↓reduceIte, reduceCtorEq]
  · have e1 := eq_false h1
    simp only [e1, h3, h6, g7, g8, kk, false_and, if_false, and_self, true_and, and_true, Int.toNat_natCast, R3, R4, R74, R32, DEntry, EV, ↓EVd, isCall, Nat.reduceAdd, Nat.reduceSub, Nat.reduceMul, Nat.reduceEqDiff, Nat.reduceBEq, Nat.reduceLT, Nat.reduceLeDiff, ↓reduceIte, reduceCtorEq]
theorem xg5 (h3 : T 3 = .loc 8 1 0 0) (g7 : H 7 = some (.row 4 1 (bs.map bool))) (g8 : H 8 = some (.row 32 1 [.msl 7 n])) :
    cw Tryd.prog 48 xtj (fun e s => e = .ret ∧ s.T 2 = .msl 7 n ∧ s.H 7 = some (.row 4 1 (bs.map bool)) ∧ s.H 8 = some (.row 32 1 [.msl 7 n])) ⟨T, H, nx⟩ := by
  unfold xtj
  simp only [h3, g7, g8, Int.toNat_natCast, R3, R4, R74, R32, DEntry, EV, ↓EVd, isCall, Nat.reduceAdd, Nat.reduceSub, Nat.reduceMul, Nat.reduceEqDiff, Nat.reduceBEq, Nat.reduceLT, Nat.reduceLeDiff, ↓reduceIte, reduceCtorEq]
end
def Xb (Es : Env) (b : Nat) : Prop := ∃ l c, kp l = true ∧ Es.L l = some (some (b, c))
def Z1 (C : Ctx) (Es : Env) (Z : Nat → Prop) (W : World) (b : Nat) : Prop := Z b ∨ (C.base ≤ b ∧ b < W.heap.size ∧ ¬ Xb Es b)
theorem HR.wide {C : Ctx} {Es : Env} {Z : Nat → Prop} {W : World} {H : Nat → Option AO} (hR : HR C (Er Es Z W) H) : HR C (Er Es (Z1 C Es Z W) W) H ∧ Stab (Er Es Z W) (Er Es (Z1 C Es Z W) W) := by
  have hst : Stab (Er Es Z W) (Er Es (Z1 C Es Z W) W) := ⟨fun _ h => h, fun _ _ _ h => h, fun b hb => ⟨.inl hb, rfl⟩⟩
  refine ⟨⟨hR.below, hR.base, ?_, ?_, ?_, hR.dom, hR.known, hR.inj, fun l o p ho hp => ORep.stab hst (fun _ _ _ => rfl) (hR.obj l o p ho hp), hR.old⟩, hst⟩
  · rintro b (hb | hb)
    · exact hR.zlt b hb
    · exact hb.2.1
  · rintro b (hb | hb) l c e
    · exact hR.zlive b hb l c e
    · simp only [Er] at e
      split at e
      · exact hb.2.2 ⟨l, c, ‹_›, e⟩
      · cases e
  · rintro b (hb | hb)
    · exact hR.zsrc b hb
    · exact .inr hb.1
theorem after {C : Ctx} {Es : Env} {Z : Nat → Prop} {W : World} {n k0 : Nat} {bs bs' : List Bool} {s2 : AS} {a2 : Act} {E2 : Env} (hR : HR C (Er Es Z W) (Hk n bs)) (hK : Es.K 7 ∧ Es.K 8)
    (hS : SR C (Er Es (Z1 C Es Z W) W) k0 48 s2 a2 E2) (g7 : s2.H 7 = some (.row 4 1 (bs'.map bool))) (g8 : s2.H 8 = some (.row 32 1 [.msl 7 n])) :
    HR C (Er Es Z E2.w) (Hk n bs') ∧ W.heap.size ≤ E2.w.heap.size ∧ (∀ b o, ¬ Xb Es b → W.heap[b]? = some o → E2.w.heap[b]? = some o) := by
  have hL : ∀ l, kp l = true → E2.L l = Es.L l := by
    intro l hl
    have hk : (Er Es (Z1 C Es Z W) W).K l := by
      simp only [kp, Bool.or_eq_true, beq_iff_eq] at hl
      rcases hl with rfl | rfl
      · exact hK.1
      · exact hK.2
    have hd := hS.heap.dom l
    have : (s2.H l).isSome = true := by
      simp only [kp, Bool.or_eq_true, beq_iff_eq] at hl
      rcases hl with rfl | rfl
      · rw [g7]; rfl
      · rw [g8]; rfl
    rw [this] at hd
    obtain ⟨p, hp⟩ := Option.isSome_iff_exists.1 hd.symm
    have := hS.stab.L l hk p hp
    simp only [Er, hl, if_true] at this
    rw [hp, this]
  have hZ : ∀ b, Z b → E2.Z b := fun b hb => (hS.stab.Z b (.inl hb)).1
  have hkeep : ∀ b o, ¬ Xb Es b → W.heap[b]? = some o → E2.w.heap[b]? = some o := by
    intro b o hx ho
    by_cases hb : b < C.base
    · rw [hS.heap.below.block b hb, ← hR.below.block b hb]; exact ho
    · have hlt : b < W.heap.size := (Array.getElem?_eq_some_iff.1 ho).1
      rw [(hS.stab.Z b (.inr ⟨by omega, hlt, hx⟩)).2]; exact ho
  refine ⟨HR.shrink hS.heap g7 g8 hL hK hZ, ?_, hkeep⟩
  by_cases h0 : W.heap.size ≤ C.base
  · exact Nat.le_trans h0 hS.heap.base
  · have hlt : W.heap.size - 1 < W.heap.size := by omega
    by_cases hx : Xb Es (W.heap.size - 1)
    · obtain ⟨l, c, hl, e⟩ := hx
      rw [← hL l hl] at e
      have := (hS.heap.old l _ c e).2
      omega
    · have := hkeep (W.heap.size - 1) W.heap[W.heap.size - 1] hx (Array.getElem?_eq_getElem hlt)
      have := (Array.getElem?_eq_some_iff.1 this).1
      omega
def nK (K : AS → Prop) : Exit → AS → Prop := fun e s => e = .normal ∧ K s
theorem peel {P : Program} {n m k0 : Nat} {K : AS → Prop} {C : Ctx} {E0 E : Env} {a : Act} {s : AS} {Q : Exit → Act → World → Prop} {c1 c2 : Code} {x y : AC} (hc : comp n c1 = some x) (h : cw P n (.seq x y) (nK K) s) (hk : k0 ≤ s.nx) (hS : SR C E0 k0 n s a E)
    (k : ∀ s' a' E', cw P n y (nK K) s' → k0 ≤ s'.nx → SR C E0 k0 n s' a' E' → c2.wpIn Fence.wide m P Q a' E'.w) : (Code.seq c1 c2).wpIn Fence.wide m P Q a E.w := by
  refine wpIn_seq (wpIn_mono (wpIn_wide.2 (cw_cwp x h c1 hc C E0 k0 E a hk hS)) ?_)
  rintro e a' w' ⟨s', E', h1, h2, h3, rfl⟩
  cases e with
  | normal => exact k s' a' E' h1 h2 h3
  | exit id => exact absurd h1.1 (by simp)
  | goto l => exact absurd h1.1 (by simp)
  | ret => exact absurd h1.1 (by simp)
  | panic ch => exact absurd h1.1 (by simp)
  | outgrown => exact absurd h1.1 (by simp)
end Go.Proofs.YtmacnoajlofdbaaDoor.AL

