/- A law of the given program is proved: part 42 of 51. -/
import Derived.Test.YtfkgckbdknpcnaaGreatDoorA41
set_option linter.all false
/- Models of functions, and that the functions are as their models: written by gen.py. -/
set_option linter.all false
set_option maxRecDepth 100000
namespace Go.Proofs.YtfkgckbdknpcnaaGreatDoor.AL
open Go Go.Proofs
def xtd (a0 : Node) : Option (Bool) := if a0.kind = 1 then if 0 ≤ a0.attr.has then if (bAnd .i64 a0.attr.has 1) = 0 then some false
 else if a0.attr.opaque0 = 121 then some true
 else some false
 else some false
 else some false
def xii := aI (aI (@EV) (aI (@R3) (@R66))) (aI (aI (@R68) (@DAttr)) (aI (@DNode) (@DEntry)))
set_option maxHeartbeats 2000000 in
theorem xqj (a0 : Node) (r : Bool) (hm0 : xtd a0 = some r) : Ok Tryz.prog 64 [xf a0] (bool r) := by
 unfold xtd at hm0
 refine okG xyy ?_
 unfold xpr
 rcases iteE hm0 with ⟨e2, hm0⟩ | ⟨e2, hm0⟩
 · rcases iteE hm0 with ⟨e4, hm0⟩ | ⟨e4, hm0⟩
   · rcases iteE hm0 with ⟨e6, hm0⟩ | ⟨e6, hm0⟩
     · obtain rfl := Option.some.inj hm0
       simp only [e2, e4, e6, xii, ↓EVd, isCall, sevalprocAttr]
       all_goals first | done | rfl
     rcases iteE hm0 with ⟨e8, hm0⟩ | ⟨e8, hm0⟩
     · obtain rfl := Option.some.inj hm0
       simp only [e2, e4, e6, e8, xii, ↓EVd, isCall, sevalprocAttr]
       all_goals first | done | rfl
     obtain rfl := Option.some.inj hm0
     simp only [e2, e4, e6, e8, xii, ↓EVd, isCall, sevalprocAttr]
     all_goals first | done | rfl
   obtain rfl := Option.some.inj hm0
   simp only [e2, e4, xii, ↓EVd, isCall, sevalprocAttr]
   all_goals first | done | rfl
 obtain rfl := Option.some.inj hm0
 simp only [e2, xii, ↓EVd, isCall, sevalprocAttr]
 all_goals first | done | rfl
def xie (a0 : Stack) (a1 : Int) : Option (Node) := if a1 < 1 then some (⟨0, 0, 0, 0, [], [], (⟨0, 0, xk, (⟨0, 0, 0⟩ : Origin), 0⟩ : Attr)⟩ : Node)
 else if (a0.upper.nodes.length : Int) < a1 then some (⟨0, 0, 0, 0, [], [], (⟨0, 0, xk, (⟨0, 0, 0⟩ : Origin), 0⟩ : Attr)⟩ : Node)
 else (ix a0.upper.nodes (wr (a1 - 1))).bind fun v5 => some v5
def x6j := aI (aI (aI (@EV) (aI (@R3) (@R24))) (aI (@R26) (aI (@R29) (@R68)))) (aI (aI (@R109) (aI (@DBranch) (@DStack))) (aI (@DAttr) (aI (@DNode) (@DEntry))))
set_option maxHeartbeats 2000000 in
theorem xlm (a0 : Stack) (a1 : Int) (r : Node) (hm0 : xie a0 a1 = some r) : Ok Tryz.prog 62 [xl a0, int a1] (xf r) := by
 unfold xie at hm0
 refine okG xeu ?_
 unfold xum
 rcases iteE hm0 with ⟨e2, hm0⟩ | ⟨e2, hm0⟩
 · obtain rfl := Option.some.inj hm0
   simp only [e2, x6j, ↓EVd, isCall, sevalprocAttr]
   all_goals first | done | rfl | exact xd (by simp only [CLO]) | exact xn (by simp only [CLO]) (Sub.agg (Subs.cons (Sub.refl _) (Subs.cons (Sub.refl _) (Subs.cons (Sub.refl _) (Subs.cons (Sub.refl _) (Subs.cons (Sub.nilS _) (Subs.cons (Sub.nilS _) (Subs.cons (Sub.refl _) (Subs.cons (Sub.refl _) (Subs.cons (Sub.refl _) (Subs.cons (Sub.refl _) (Subs.cons (Sub.refl _) (Subs.cons (Sub.refl _) (Subs.cons (Sub.refl _) (Subs.nil)))))))))))))))
 rcases iteE hm0 with ⟨e4, hm0⟩ | ⟨e4, hm0⟩
 · obtain rfl := Option.some.inj hm0
   simp only [e2, e4, x6j, ↓EVd, isCall, sevalprocAttr]
   all_goals first | done | rfl | exact xd (by simp only [CLO]) | exact xn (by simp only [CLO]) (Sub.agg (Subs.cons (Sub.refl _) (Subs.cons (Sub.refl _) (Subs.cons (Sub.refl _) (Subs.cons (Sub.refl _) (Subs.cons (Sub.nilS _) (Subs.cons (Sub.nilS _) (Subs.cons (Sub.refl _) (Subs.cons (Sub.refl _) (Subs.cons (Sub.refl _) (Subs.cons (Sub.refl _) (Subs.cons (Sub.refl _) (Subs.cons (Sub.refl _) (Subs.cons (Sub.refl _) (Subs.nil)))))))))))))))
 obtain ⟨v5, e7, hm0⟩ := ixE xf hm0
 obtain rfl := Option.some.inj hm0
 simp only [e2, e4, e7, x6j, ↓EVd, isCall, sevalprocAttr]
 all_goals first | done | rfl | exact xd (by simp only [CLO])
def xck (a0 : Stack) : Option (View) := (xie (⟨(⟨a0.geo.lowers, a0.geo.inodes, a0.geo.blocks, a0.geo.log⟩ : Geo), (⟨a0.upper.nodes⟩ : Branch), a0.lowers⟩ : Stack) 1).bind fun v2 => if v2.kind = 1 then (xtd v2).bind fun v6 => if (!v6) = true then (xrf a0).bind fun v10 => some (⟨1, v10⟩ : View)
 else some (⟨1, []⟩ : View)
 else (xtd v2).bind fun v12 => if (!v12) = true then (xrf a0).bind fun v16 => some (⟨0, v16⟩ : View)
 else some (⟨0, []⟩ : View)
def x2e := aI (aI (aI (@EV) (aI (@R3) (@R29))) (aI (aI (@R39) (@R41)) (aI (@R68) (@R80)))) (aI (aI (aI (@R109) (@DBranch)) (aI (@DStack) (@DPlace))) (aI (aI (@DAttr) (@DNode)) (aI (@DView) (@DEntry))))
set_option maxHeartbeats 2000000 in
theorem xi3 (a0 : Stack) (r : View) (hm0 : xck a0 = some r) : Ok Tryz.prog 60 [xl a0] (xjb r) := by
 unfold xck at hm0
 refine okG xg4 ?_
 unfold xtv
 have e1 : (.agg [int a0.geo.lowers, int a0.geo.inodes, int a0.geo.blocks, int a0.geo.log, .sl 13 (a0.upper.nodes.map xf), .sl 1 (a0.lowers.map xi)] : AV) = xl (⟨(⟨a0.geo.lowers, a0.geo.inodes, a0.geo.blocks, a0.geo.log⟩ : Geo), (⟨a0.upper.nodes⟩ : Branch), a0.lowers⟩ : Stack) := _root_.id rfl
 obtain ⟨v2, h3, hm0⟩ := bsE hm0
 simp only [e1, x2e, ↓EVd, isCall, sevalprocAttr]
 refine qc (xlm _ _ _ h3) rfl ?_
 rcases iteE hm0 with ⟨e5, hm0⟩ | ⟨e5, hm0⟩
 · obtain ⟨v6, h7, hm0⟩ := bsE hm0
   simp only [e1, e5, x2e, ↓EVd, isCall, sevalprocAttr]
   refine qc (xqj _ _ h7) rfl ?_
   rcases itbE hm0 with ⟨e9, hm0⟩ | ⟨e9, hm0⟩
   · obtain ⟨v10, h11, hm0⟩ := bsE hm0
     simp only [e1, e5, e9, x2e, ↓EVd, isCall, sevalprocAttr]
     refine qc (x7l _ _ h11) rfl ?_
     obtain rfl := Option.some.inj hm0
     simp only [e1, e5, e9, x2e, ↓EVd, isCall, sevalprocAttr]
     all_goals first | done | rfl | exact xd (by simp only [CLO]) | exact xn (by simp only [CLO]) (Sub.agg (Subs.cons (Sub.refl _) (Subs.cons (Sub.refl _) (Subs.nil))))
   obtain rfl := Option.some.inj hm0
   simp only [e1, e5, e9, x2e, ↓EVd, isCall, sevalprocAttr]
   all_goals first | done | rfl | exact xd (by simp only [CLO]) | exact xn (by simp only [CLO]) (Sub.agg (Subs.cons (Sub.refl _) (Subs.cons (Sub.nilS _) (Subs.nil))))
 obtain ⟨v12, h13, hm0⟩ := bsE hm0
 simp only [e1, e5, x2e, ↓EVd, isCall, sevalprocAttr]
 refine qc (xqj _ _ h13) rfl ?_
 rcases itbE hm0 with ⟨e15, hm0⟩ | ⟨e15, hm0⟩
 · obtain ⟨v16, h17, hm0⟩ := bsE hm0
   simp only [e1, e5, e15, x2e, ↓EVd, isCall, sevalprocAttr]
   refine qc (x7l _ _ h17) rfl ?_
   obtain rfl := Option.some.inj hm0
   simp only [e1, e5, e15, x2e, ↓EVd, isCall, sevalprocAttr]
   all_goals first | done | rfl | exact xd (by simp only [CLO]) | exact xn (by simp only [CLO]) (Sub.agg (Subs.cons (Sub.refl _) (Subs.cons (Sub.refl _) (Subs.nil))))
 obtain rfl := Option.some.inj hm0
 simp only [e1, e5, e15, x2e, ↓EVd, isCall, sevalprocAttr]
 all_goals first | done | rfl | exact xd (by simp only [CLO]) | exact xn (by simp only [CLO]) (Sub.agg (Subs.cons (Sub.refl _) (Subs.cons (Sub.nilS _) (Subs.nil))))
def xjd (a0 : Stack) (a1 : List Place) (a2 : ByteArray) : Option (List Place) := (xhh a0 a1 a2).bind fun v1 => if v1.1 = 1 then some v1.2
 else some []
def x3j := aI (aI (aI (@EV) (aI (@R3) (@R9))) (aI (@R29) (aI (@R39) (@R41)))) (aI (aI (@R109) (aI (@DBranch) (@DStack))) (aI (aI (@DPlace) (@DAttr)) (aI (@DNode) (@DEntry))))
set_option maxHeartbeats 2000000 in
theorem xjj (a0 : Stack) (a1 : List Place) (a2 : ByteArray) (r : List Place) (hm0 : xjd a0 a1 a2 = some r) : Ok Tryz.prog 87 [xl a0, .sl 2 (a1.map xc), str a2] (.sl 2 (r.map xc)) := by
 unfold xjd at hm0
 refine okG xau ?_
 unfold xvm
 obtain ⟨v1, h2, hm0⟩ := bsE hm0
 simp only [x3j, ↓EVd, isCall, sevalprocAttr]
 refine qc (xsr _ _ _ _ h2) rfl ?_
 rcases iteE hm0 with ⟨e4, hm0⟩ | ⟨e4, hm0⟩
 · obtain rfl := Option.some.inj hm0
   simp only [e4, x3j, ↓EVd, isCall, sevalprocAttr]
   all_goals first | done | rfl | exact xd (by simp only [CLO])
 obtain rfl := Option.some.inj hm0
 simp only [e4, x3j, ↓EVd, isCall, sevalprocAttr]
 all_goals first | done | rfl | exact xn (by simp only [CLO]) (Sub.nilS _)
def xwf (a0 : Stack) (a1 : View) (a2 : Node) (a3 : ByteArray) : Option (List Place) := if a2.kind = 1 then (xtd a2).bind fun v3 => if v3 = true then some []
 else if a2.attr.has < 0 then (xjd a0 a1.lower a3).bind fun v9 => some v9
 else if (bAnd .i64 a2.attr.has 2) = 0 then (xjd a0 a1.lower a3).bind fun v13 => some v13
 else (xsc a2.attr.redirect).bind fun v15 => if (!v15.2.2) = true then some []
 else if v15.2.1 = true then (xrf a0).bind fun v21 => (xbj a0 v21 v15.1).bind fun v23 => some v23.1
 else (ix v15.1 0).bind fun v25 => (xjd a0 a1.lower v25).bind fun v28 => some v28
 else some []
def xsb := aI (aI (aI (aI (@EV) (@R3)) (aI (@R9) (@R29))) (aI (aI (@R30) (@R39)) (aI (@R41) (aI (@R66) (@R68))))) (aI (aI (aI (@R80) (@R109)) (aI (@DBranch) (aI (@DStack) (@DPlace)))) (aI (aI (@DAttr) (@DNode)) (aI (@DView) (aI (@DEntry) (@mixed)))))
set_option maxHeartbeats 2000000 in
theorem x6s (a0 : Stack) (a1 : View) (a2 : Node) (a3 : ByteArray) (r : List Place) (hm0 : xwf a0 a1 a2 a3 = some r) : Ok Tryz.prog 61 [xl a0, xjb a1, xf a2, str a3] (.sl 2 (r.map xc)) := by
 unfold xwf at hm0
 refine okG xhu ?_
 unfold xsm
 rcases iteE hm0 with ⟨e2, hm0⟩ | ⟨e2, hm0⟩
 · obtain ⟨v3, h4, hm0⟩ := bsE hm0
   simp only [e2, xsb, ↓EVd, isCall, sevalprocAttr]
   refine qc (xqj _ _ h4) rfl ?_
   rcases itbE hm0 with ⟨e6, hm0⟩ | ⟨e6, hm0⟩
   · obtain rfl := Option.some.inj hm0
     simp only [e2, e6, xsb, ↓EVd, isCall, sevalprocAttr]
     all_goals first | done | rfl | exact xn (by simp only [CLO]) (Sub.nilS _)
   rcases iteE hm0 with ⟨e8, hm0⟩ | ⟨e8, hm0⟩
   · obtain ⟨v9, h10, hm0⟩ := bsE hm0
     simp only [e2, e6, e8, xsb, ↓EVd, isCall, sevalprocAttr]
     refine qc (xjj _ _ _ _ h10) rfl ?_
     obtain rfl := Option.some.inj hm0
     simp only [e2, e6, e8, xsb, ↓EVd, isCall, sevalprocAttr]
     all_goals first | done | rfl | exact xd (by simp only [CLO])
   rcases iteE hm0 with ⟨e12, hm0⟩ | ⟨e12, hm0⟩
   · obtain ⟨v13, h14, hm0⟩ := bsE hm0
     simp only [e2, e6, e8, e12, xsb, ↓EVd, isCall, sevalprocAttr]
     refine qc (xjj _ _ _ _ h14) rfl ?_
     obtain rfl := Option.some.inj hm0
     simp only [e2, e6, e8, e12, xsb, ↓EVd, isCall, sevalprocAttr]
     all_goals first | done | rfl | exact xd (by simp only [CLO])
   obtain ⟨v15, h16, hm0⟩ := bsE hm0
   simp only [e2, e6, e8, e12, xsb, ↓EVd, isCall, sevalprocAttr]
   refine qc (xpk _ _ h16) rfl ?_
   rcases itbE hm0 with ⟨e18, hm0⟩ | ⟨e18, hm0⟩
   · obtain rfl := Option.some.inj hm0
     simp only [e2, e6, e8, e12, e18, xsb, ↓EVd, isCall, sevalprocAttr]
     all_goals first | done | rfl | exact xn (by simp only [CLO]) (Sub.nilS _)
   rcases itbE hm0 with ⟨e20, hm0⟩ | ⟨e20, hm0⟩
   · obtain ⟨v21, h22, hm0⟩ := bsE hm0
     simp only [e2, e6, e8, e12, e18, e20, xsb, ↓EVd, isCall, sevalprocAttr]
     refine qd (x7l _ _ h22) rfl ?_
     obtain ⟨v23, h24, hm0⟩ := bsE hm0
     simp only [e2, e6, e8, e12, e18, e20, xsb, ↓EVd, isCall, sevalprocAttr]
     refine qd (xs1 _ _ _ _ h24) rfl ?_
     obtain rfl := Option.some.inj hm0
     simp only [e2, e6, e8, e12, e18, e20, xsb, ↓EVd, isCall, sevalprocAttr]
     all_goals first | done | rfl | exact xd (by simp only [CLO])
   obtain ⟨v25, e27, hm0⟩ := ixE str hm0
   try simp only [sevalprocAttr, eq_self, true_and] at e27
   obtain ⟨v28, h29, hm0⟩ := bsE hm0
   simp only [e2, e6, e8, e12, e18, e20, e27, xsb, ↓EVd, isCall, sevalprocAttr]
   refine qd (xjj _ _ _ _ h29) rfl ?_
   obtain rfl := Option.some.inj hm0
   simp only [e2, e6, e8, e12, e18, e20, e27, xsb, ↓EVd, isCall, sevalprocAttr]
   all_goals first | done | rfl | exact xd (by simp only [CLO])
 obtain rfl := Option.some.inj hm0
 simp only [e2, xsb, ↓EVd, isCall, sevalprocAttr]
 all_goals first | done | rfl | exact xn (by simp only [CLO]) (Sub.nilS _)
def xlh (a0 : Stack) (v2 : List Way) : (List View × Int) → Option (St (List View × Int) (List View))
 | (v6, v7) => if v7 < (v2.length : Int) then (ix v2 v7).bind fun v13 => (xck a0).bind fun v16 => if 0 ≤ v13.up then (ix v6 v13.up).bind fun v20 => (xie (⟨(⟨a0.geo.lowers, a0.geo.inodes, a0.geo.blocks, a0.geo.log⟩ : Geo), (⟨a0.upper.nodes⟩ : Branch), a0.lowers⟩ : Stack) v13.ino).bind fun v23 => (xwf (⟨(⟨a0.geo.lowers, a0.geo.inodes, a0.geo.blocks, a0.geo.log⟩ : Geo), (⟨a0.upper.nodes⟩ : Branch), a0.lowers⟩ : Stack) v20 v23 v13.name).bind fun v25 => (ap 32 v6 ([(⟨v13.ino, v25⟩ : View)] : List View)).bind fun _ => some (.nx ((v6 ++ ([(⟨v13.ino, v25⟩ : View)] : List View)), (wr (v7 + 1))))
 else (ap 32 v6 ([v16] : List View)).bind fun _ => some (.nx ((v6 ++ ([v16] : List View)), (wr (v7 + 1))))
 else some (.out v6)
def xli (a0 : Stack) : Option (List Way × List View) := (xak a0.upper ([1] : List Int)).bind fun v2 => (iter (xlh a0 v2) big ([], 0)).bind fun o => (match o with
 | v10 => some (v2, v10))
def xec := aI (aI (aI (aI (@EV) (@R3)) (aI (@R9) (aI (@R26) (@R29)))) (aI (aI (@R51) (@R52)) (aI (@R68) (aI (@R73) (@R77))))) (aI (aI (aI (@R80) (@R109)) (aI (@DBranch) (aI (@DStack) (@DPlace)))) (aI (aI (@DAttr) (aI (@DNode) (@DWay))) (aI (@DView) (aI (@DEntry) (@mixed)))))
set_option maxHeartbeats 2000000 in
theorem x1t (a0 : Stack) (r : List Way × List View) (hm0 : xli a0 = some r) : Ok Tryz.prog 40 [xl a0] (.tup [.sl 3 (r.1.map encWay), .sl 2 (r.2.map xjb)]) := by
 unfold xli at hm0
 refine okG xc3 ?_
 unfold x9u
 have e1 : (.agg [int a0.geo.lowers, int a0.geo.inodes, int a0.geo.blocks, int a0.geo.log, .sl 13 (a0.upper.nodes.map xf), .sl 1 (a0.lowers.map xi)] : AV) = xl (⟨(⟨a0.geo.lowers, a0.geo.inodes, a0.geo.blocks, a0.geo.log⟩ : Geo), (⟨a0.upper.nodes⟩ : Branch), a0.lowers⟩ : Stack) := _root_.id rfl
 obtain ⟨v2, h3, hm0⟩ := bsE hm0
 simp only [e1, xec, ↓EVd, isCall, sevalprocAttr]
 refine qcq (x42 _ _ _ h3) rfl (by simp only [e1, FQ, CLO, xec, ↓EVd, isCall, sevalprocAttr]; first | done | rfl) ?_
 obtain ⟨o0, ho0, hm0⟩ := bsE hm0
 simp only [e1, xec, ↓EVd, isCall, sevalprocAttr]
 refine cwp_cx 0 (fun s => ∃ v10 : List View, ∃ l9 : Nat, (s.T 5 = .sl 3 (v2.map encWay) ∧ s.T 6 = .msl l9 v10.length ∧ s.H l9 = some (.row 80 2 (v10.map xjb)) ∧ Lq l9 s.nx) ∧ v10 = o0) ?_ fun J0_0 hJ0_0 => ?_
 · rintro T0 H0 x8 ⟨v10, l9, kk0_0, rfl⟩
   dsimp only [Lq, Nq] at kk0_0
   try dsimp only at hm0
   obtain rfl := Option.some.inj hm0
   simp only [kk0_0, e1, xec, ↓EVd, isCall, sevalprocAttr]
   all_goals first | done | rfl | exact xve 9 (by simp only [kk0_0, e1, FZ, CLO, xec, ↓EVd, isCall, sevalprocAttr]) (Sub.tup (Subs.cons (Sub.refl _) (Subs.cons (Sub.refl _) (Subs.nil))))
 refine cwp_lp ho0 (fun (v6, v7) s => ∃ l5 : Nat, s.T 1 = .loc 0 6 0 0 ∧ s.T 4 = .loc 5 6 0 0 ∧ s.T 5 = .sl 3 (v2.map encWay) ∧ s.T 6 = .msl l5 v6.length ∧ s.T 16 = .sl 3 (v2.map encWay) ∧ s.T 17 = int (v2.length : Int) ∧ s.T 18 = int v7 ∧ s.H 0 = some (.row 29 6 [xl a0]) ∧ s.H 5 = some (.row 109 6 [xl (⟨(⟨a0.geo.lowers, a0.geo.inodes, a0.geo.blocks, a0.geo.log⟩ : Geo), (⟨a0.upper.nodes⟩ : Branch), a0.lowers⟩ : Stack)]) ∧ s.H l5 = some (.row 80 2 (v6.map xjb)) ∧ Lq 0 s.nx ∧ Lq 5 s.nx ∧ Lq l5 s.nx ∧ Nq 0 l5 ∧ Nq 5 l5) ?_ ?_
 · refine TI.by (Tn.adopt 6 80 2 (by simp only [e1, xec, ↓EVd, isCall, sevalprocAttr])) ?_
   refine TI.here ⟨16, ?_, ?_, ?_, ?_, ?_, ?_, ?_, ?_, ?_, ?_, ?_, ?_, ?_, ?_, ?_⟩
   all_goals try simp only [e1, xec, ↓EVd, isCall, sevalprocAttr]
   all_goals first | omega | exact lq (by omega) | exact nq (by omega) | rfl | (congr 1; omega)
 rintro I0 ⟨v6, v7⟩ T0 H0 x4 st0 ⟨l5, kk0⟩ hm1 hI0 hO0
 dsimp only [Lq, Nq] at kk0
 simp only [xlh] at hm1
 rcases iteE hm1 with ⟨e12, hm1⟩ | ⟨e12, hm1⟩
 · obtain ⟨v13, e15, hm1⟩ := ixE encWay hm1
   obtain ⟨v16, h17, hm1⟩ := bsE hm1
   simp only [kk0, e1, e12, e15, xec, ↓EVd, isCall, sevalprocAttr]
   refine qc (xi3 _ _ h17) rfl ?_
   rcases iteE hm1 with ⟨e19, hm1⟩ | ⟨e19, hm1⟩
   · obtain ⟨v20, e22, hm1⟩ := ixE xjb hm1
     obtain ⟨v23, h24, hm1⟩ := bsE hm1
     simp only [kk0, e1, e12, e15, e19, e22, xec, ↓EVd, isCall, sevalprocAttr]
     refine qd (xlm _ _ _ h24) rfl ?_
     obtain ⟨v25, h26, hm1⟩ := bsE hm1
     simp only [kk0, e1, e12, e15, e19, e22, xec, ↓EVd, isCall, sevalprocAttr]
     refine qd (x6s _ _ _ _ _ h26) rfl ?_
     have e27 : (.agg [int v13.ino, .sl 2 (v25.map xc)] : AV) = xjb (⟨v13.ino, v25⟩ : View) := _root_.id rfl
     obtain ⟨e30, hm1⟩ := apE hm1
     try simp only [ZL] at e30
     obtain rfl := Option.some.inj hm1
     simp only [kk0, e1, e12, e15, e19, e22, e27, e30, xec, ↓EVd, isCall, sevalprocAttr]
     refine TI.here (hI0 _ rfl _ ⟨(x4 + 32), ?_, ?_, ?_, ?_, ?_, ?_, ?_, ?_, ?_, ?_, ?_, ?_, ?_, ?_, ?_⟩)
     all_goals try simp only [kk0, e1, e12, e15, e19, e22, e27, e30, xec, ↓EVd, isCall, sevalprocAttr]
     all_goals first | omega | exact lq (by omega) | exact nq (by omega) | rfl | (congr 1; omega)
   obtain ⟨e34, hm1⟩ := apE hm1
   try simp only [ZL] at e34
   obtain rfl := Option.some.inj hm1
   simp only [kk0, e1, e12, e15, e19, e34, xec, ↓EVd, isCall, sevalprocAttr]
   refine TI.here (hI0 _ rfl _ ⟨(x4 + 15), ?_, ?_, ?_, ?_, ?_, ?_, ?_, ?_, ?_, ?_, ?_, ?_, ?_, ?_, ?_⟩)
   all_goals try simp only [kk0, e1, e12, e15, e19, e34, xec, ↓EVd, isCall, sevalprocAttr]
   all_goals first | omega | exact lq (by omega) | exact nq (by omega) | rfl | (congr 1; omega)
 obtain rfl := Option.some.inj hm1
 simp only [kk0, e1, e12, xec, ↓EVd, isCall, sevalprocAttr]
 refine TI.here (hJ0_0 _ ⟨v6, l5, ⟨?_, ?_, ?_, ?_⟩, hO0 _ rfl⟩)
 all_goals try simp only [kk0, e1, e12, xec, ↓EVd, isCall, sevalprocAttr]
 all_goals first | omega | exact lq (by omega) | exact nq (by omega) | rfl | (congr 1; omega)
end Go.Proofs.YtfkgckbdknpcnaaGreatDoor.AL

