/- What any node of any stack should say of copies, and which say otherwise, is what the document says: part 45 of 52. -/
import Derived.Test.YtapdjibjnfeipaaGreatDoorA44
set_option linter.all false
/- Models of functions, and that the functions are as their models: written by gen.py. -/
set_option linter.all false
set_option maxRecDepth 100000
namespace Go.Proofs.YtapdjibjnfeipaaGreatDoor.AL
open Go Go.Proofs
def xaf (a0 : Node) : Option (Bool) := if a0.kind = 1 then (xod a0).bind fun v3 => some v3
 else some false
def x9l := aI (aI (@EV) (aI (@R3) (@R68))) (aI (@DEntry) (aI (@DAttr) (@DNode)))
set_option maxHeartbeats 2000000 in
theorem x4p (a0 : Node) (r : Bool) (hm0 : xaf a0 = some r) : Ok Tryz.prog 41 [xm a0] (bool r) := by
 unfold xaf at hm0
 refine okG x3x ?_
 unfold xvq
 rcases iteE hm0 with ⟨e2, hm0⟩ | ⟨e2, hm0⟩
 · obtain ⟨v3, h4, hm0⟩ := bsE hm0
   simp only [e2, x9l, ↓EVd, isCall, sevalprocAttr]
   refine qc (xdl _ _ h4) rfl ?_
   obtain rfl := Option.some.inj hm0
   simp only [e2, x9l, ↓EVd, isCall, sevalprocAttr]
   all_goals first | done | rfl
 obtain rfl := Option.some.inj hm0
 simp only [e2, x9l, ↓EVd, isCall, sevalprocAttr]
 all_goals first | done | rfl
def xbi (a0 : Stack) : Option (View) := (xhd a0.upper 1).bind fun v1 => if v1.kind = 1 then (xaf v1).bind fun v5 => if v5 = true then some (⟨1, []⟩ : View)
 else (xye a0).bind fun v9 => some (⟨1, v9⟩ : View)
 else (xye a0).bind fun v12 => some (⟨0, v12⟩ : View)
def xjf := aI (aI (aI (@EV) (aI (@R3) (@R26))) (aI (@R29) (aI (@R32) (@R68)))) (aI (aI (@DBranch) (aI (@DStack) (@DView))) (aI (aI (@DPlace) (@DEntry)) (aI (@DAttr) (@DNode))))
set_option maxHeartbeats 2000000 in
theorem xn1 (a0 : Stack) (r : View) (hm0 : xbi a0 = some r) : Ok Tryz.prog 23 [xe a0] (xl r) := by
 unfold xbi at hm0
 refine okG xi1 ?_
 unfold xlt
 obtain ⟨v1, h2, hm0⟩ := bsE hm0
 simp only [xjf, ↓EVd, isCall, sevalprocAttr]
 refine qc (x2f _ _ _ h2) rfl ?_
 rcases iteE hm0 with ⟨e4, hm0⟩ | ⟨e4, hm0⟩
 · obtain ⟨v5, h6, hm0⟩ := bsE hm0
   simp only [e4, xjf, ↓EVd, isCall, sevalprocAttr]
   refine qc (x4p _ _ h6) rfl ?_
   rcases itbE hm0 with ⟨e8, hm0⟩ | ⟨e8, hm0⟩
   · obtain rfl := Option.some.inj hm0
     simp only [e4, e8, xjf, ↓EVd, isCall, sevalprocAttr]
     all_goals first | done | rfl | exact xd (by simp only [CLO]) | exact xi (by simp only [CLO]) (Sub.agg (Subs.cons (Sub.refl _) (Subs.cons (Sub.nilS _) (Subs.nil))))
   obtain ⟨v9, h10, hm0⟩ := bsE hm0
   simp only [e4, e8, xjf, ↓EVd, isCall, sevalprocAttr]
   refine qc (xxm _ _ h10) rfl ?_
   have e11 : (.agg [int 1, .sl 2 (v9.map xb)] : AV) = xl (⟨1, v9⟩ : View) := _root_.id rfl
   obtain rfl := Option.some.inj hm0
   simp only [e4, e8, e11, xjf, ↓EVd, isCall, sevalprocAttr]
   all_goals first | done | rfl | exact xd (by simp only [CLO])
 obtain ⟨v12, h13, hm0⟩ := bsE hm0
 simp only [e4, xjf, ↓EVd, isCall, sevalprocAttr]
 refine qc (xxm _ _ h13) rfl ?_
 have e14 : (.agg [int 0, .sl 2 (v12.map xb)] : AV) = xl (⟨0, v12⟩ : View) := _root_.id rfl
 obtain rfl := Option.some.inj hm0
 simp only [e4, e14, xjf, ↓EVd, isCall, sevalprocAttr]
 all_goals first | done | rfl | exact xd (by simp only [CLO])
def xgg (a0 : Stack) (a1 : View) (a2 : Int) (a3 : ByteArray) : Option (List Place) := (xhd a0.upper a2).bind fun v1 => if v1.kind = 1 then (xaf v1).bind fun v5 => if v5 = true then some []
 else (x3f v1.attr 2).bind fun v9 => if v9 = true then (xld v1.attr.redirect).bind fun v13 => if (!v13.2.2) = true then some []
 else if v13.2.1 = true then (xye a0).bind fun v19 => (x2h a0 v19 v13.1).bind fun v21 => some v21.1
 else (ix v13.1 0).bind fun v23 => (xdd a0 a1.lower v23).bind fun v26 => if v26.1 = 1 then some v26.2
 else some []
 else (xdd a0 a1.lower a3).bind fun v30 => if v30.1 = 1 then some v30.2
 else some []
 else some []
def xyb := aI (aI (aI (aI (@EV) (@R3)) (aI (@R9) (@R26))) (aI (aI (@R29) (@R30)) (aI (@R32) (aI (@R42) (@R45))))) (aI (aI (aI (@R66) (@R68)) (aI (@DBranch) (aI (@DStack) (@DView)))) (aI (aI (@DPlace) (@DEntry)) (aI (@DAttr) (aI (@DNode) (@mixed)))))
set_option maxHeartbeats 2000000 in
theorem xns (a0 : Stack) (a1 : View) (a2 : Int) (a3 : ByteArray) (r : List Place) (hm0 : xgg a0 a1 a2 a3 = some r) : Ok Tryz.prog 26 [xe a0, xl a1, int a2, str a3] (.sl 2 (r.map xb)) := by
 unfold xgg at hm0
 refine okG xx0 ?_
 unfold xqt
 obtain ⟨v1, h2, hm0⟩ := bsE hm0
 simp only [xyb, ↓EVd, isCall, sevalprocAttr]
 refine qc (x2f _ _ _ h2) rfl ?_
 rcases iteE hm0 with ⟨e4, hm0⟩ | ⟨e4, hm0⟩
 · obtain ⟨v5, h6, hm0⟩ := bsE hm0
   simp only [e4, xyb, ↓EVd, isCall, sevalprocAttr]
   refine qc (x4p _ _ h6) rfl ?_
   rcases itbE hm0 with ⟨e8, hm0⟩ | ⟨e8, hm0⟩
   · obtain rfl := Option.some.inj hm0
     simp only [e4, e8, xyb, ↓EVd, isCall, sevalprocAttr]
     all_goals first | done | rfl | exact xi (by simp only [CLO]) (Sub.nilS _)
   obtain ⟨v9, h10, hm0⟩ := bsE hm0
   simp only [e4, e8, xyb, ↓EVd, isCall, sevalprocAttr]
   refine qc (x2u _ _ _ h10) rfl ?_
   rcases itbE hm0 with ⟨e12, hm0⟩ | ⟨e12, hm0⟩
   · obtain ⟨v13, h14, hm0⟩ := bsE hm0
     simp only [e4, e8, e12, xyb, ↓EVd, isCall, sevalprocAttr]
     refine qc (xrv _ _ h14) rfl ?_
     rcases itbE hm0 with ⟨e16, hm0⟩ | ⟨e16, hm0⟩
     · obtain rfl := Option.some.inj hm0
       simp only [e4, e8, e12, e16, xyb, ↓EVd, isCall, sevalprocAttr]
       all_goals first | done | rfl | exact xi (by simp only [CLO]) (Sub.nilS _)
     rcases itbE hm0 with ⟨e18, hm0⟩ | ⟨e18, hm0⟩
     · obtain ⟨v19, h20, hm0⟩ := bsE hm0
       simp only [e4, e8, e12, e16, e18, xyb, ↓EVd, isCall, sevalprocAttr]
       refine qd (xxm _ _ h20) rfl ?_
       obtain ⟨v21, h22, hm0⟩ := bsE hm0
       simp only [e4, e8, e12, e16, e18, xyb, ↓EVd, isCall, sevalprocAttr]
       refine qd (xz0 _ _ _ _ h22) rfl ?_
       obtain rfl := Option.some.inj hm0
       simp only [e4, e8, e12, e16, e18, xyb, ↓EVd, isCall, sevalprocAttr]
       all_goals first | done | rfl | exact xd (by simp only [CLO])
     obtain ⟨v23, e25, hm0⟩ := ixE str hm0
     try simp only [sevalprocAttr, eq_self, true_and] at e25
     obtain ⟨v26, h27, hm0⟩ := bsE hm0
     simp only [e4, e8, e12, e16, e18, e25, xyb, ↓EVd, isCall, sevalprocAttr]
     refine qc (xih _ _ _ _ h27) rfl ?_
     rcases iteE hm0 with ⟨e29, hm0⟩ | ⟨e29, hm0⟩
     · obtain rfl := Option.some.inj hm0
       simp only [e4, e8, e12, e16, e18, e25, e29, xyb, ↓EVd, isCall, sevalprocAttr]
       all_goals first | done | rfl | exact xd (by simp only [CLO])
     obtain rfl := Option.some.inj hm0
     simp only [e4, e8, e12, e16, e18, e25, e29, xyb, ↓EVd, isCall, sevalprocAttr]
     all_goals first | done | rfl | exact xi (by simp only [CLO]) (Sub.nilS _)
   obtain ⟨v30, h31, hm0⟩ := bsE hm0
   simp only [e4, e8, e12, xyb, ↓EVd, isCall, sevalprocAttr]
   refine qc (xih _ _ _ _ h31) rfl ?_
   rcases iteE hm0 with ⟨e33, hm0⟩ | ⟨e33, hm0⟩
   · obtain rfl := Option.some.inj hm0
     simp only [e4, e8, e12, e33, xyb, ↓EVd, isCall, sevalprocAttr]
     all_goals first | done | rfl | exact xd (by simp only [CLO])
   obtain rfl := Option.some.inj hm0
   simp only [e4, e8, e12, e33, xyb, ↓EVd, isCall, sevalprocAttr]
   all_goals first | done | rfl | exact xi (by simp only [CLO]) (Sub.nilS _)
 obtain rfl := Option.some.inj hm0
 simp only [e4, xyb, ↓EVd, isCall, sevalprocAttr]
 all_goals first | done | rfl | exact xi (by simp only [CLO]) (Sub.nilS _)
def x5d (a0 : Stack) (a2 : ByteArray) (v1 : Node) : Int → Option (St (Int) ((Unit) ⊕ (Entry × Bool)))
 | v4 => if v4 < (v1.entries.length : Int) then if v1.kind = 1 then (ix v1.entries v4).bind fun v10 => if v10.name = a2 then (xhd a0.upper v10.ino).bind fun v15 => if v15.kind = 0 then some (.nx (wr (v4 + 1)))
 else some (.out (.inr (v10, true)))
 else some (.nx (wr (v4 + 1)))
 else some (.out (.inl ()))
 else some (.out (.inl ()))
def xze (a0 : Stack) (a1 : View) (a2 : ByteArray) : Option (Entry × Bool) := (xhd a0.upper a1.upper).bind fun v1 => (iter (x5d a0 a2 v1) big 0).bind fun o => (match o with
 | (.inl _) => some ((⟨0, 0, xo⟩ : Entry), false)
 | (.inr r) => some r)
def x2b := aI (aI (aI (aI (@EV) (@R3)) (aI (@R9) (@R26))) (aI (aI (@R29) (@R32)) (aI (@R55) (@R62)))) (aI (aI (aI (@R68) (@DBranch)) (aI (@DStack) (@DView))) (aI (aI (@DPlace) (@DEntry)) (aI (@DAttr) (aI (@DNode) (@mixed)))))
set_option maxHeartbeats 2000000 in
theorem xym (a0 : Stack) (a1 : View) (a2 : ByteArray) (r : Entry × Bool) (hm0 : xze a0 a1 a2 = some r) : Ok Tryz.prog 30 [xe a0, xl a1, str a2] (.tup [xx r.1, bool r.2]) := by
 unfold xze at hm0
 refine okG x5y ?_
 unfold xls
 obtain ⟨v1, h2, hm0⟩ := bsE hm0
 simp only [x2b, ↓EVd, isCall, sevalprocAttr]
 refine qc (x2f _ _ _ h2) rfl ?_
 obtain ⟨o0, ho0, hm0⟩ := bsE hm0
 simp only [x2b, ↓EVd, isCall, sevalprocAttr]
 refine cwp_cx 0 (fun s => (s.T 6 = .loc 2 3 0 0 ∧ s.H 2 = some (.row 55 3 [.agg [int 0, int 0, str xo]]) ∧ Lq 2 s.nx) ∧ (.inl ()) = o0) ?_ fun J0_0 hJ0_0 => ?_
 · rintro T0 H0 x5 ⟨kk0_0, rfl⟩
   dsimp only [Lq, Nq] at kk0_0
   try dsimp only at hm0
   have e19 : (.agg [int 0, int 0, str xo] : AV) = xx (⟨0, 0, xo⟩ : Entry) := _root_.id rfl
   obtain rfl := Option.some.inj hm0
   simp only [kk0_0, e19, x2b, ↓EVd, isCall, sevalprocAttr]
   all_goals first | done | rfl | exact xd (by simp only [CLO]) | exact xi (by simp only [CLO]) (Sub.tup (Subs.cons (Sub.refl _) (Subs.cons (Sub.refl _) (Subs.nil))))
 refine cwp_lp ho0 (fun v4 s => s.T 2 = str a2 ∧ s.T 3 = .loc 0 6 0 0 ∧ s.T 6 = .loc 2 3 0 0 ∧ s.T 8 = .loc 9 13 0 0 ∧ s.T 9 = int v4 ∧ s.H 0 = some (.row 29 6 [xe a0]) ∧ s.H 2 = some (.row 55 3 [.agg [int 0, int 0, str xo]]) ∧ s.H 9 = some (.row 68 13 [xm v1]) ∧ Lq 0 s.nx ∧ Lq 2 s.nx ∧ Lq 9 s.nx) ?_ ?_
 · refine TI.here ⟨?_, ?_, ?_, ?_, ?_, ?_, ?_, ?_, ?_, ?_, ?_⟩
   all_goals try simp only [x2b, ↓EVd, isCall, sevalprocAttr]
   all_goals first | omega | exact lq (by omega) | exact nq (by omega) | rfl | (congr 1; omega)
 rintro I0 v4 T0 H0 x3 st0 kk0 hm1 hI0 hO0
 dsimp only [Lq, Nq] at kk0
 simp only [x5d] at hm1
 rcases iteE hm1 with ⟨e7, hm1⟩ | ⟨e7, hm1⟩
 · rcases iteE hm1 with ⟨e9, hm1⟩ | ⟨e9, hm1⟩
   · obtain ⟨v10, e12, hm1⟩ := ixE xx hm1
     rcases iteE hm1 with ⟨e14, hm1⟩ | ⟨e14, hm1⟩
     · obtain ⟨v15, h16, hm1⟩ := bsE hm1
       simp only [kk0, e7, e9, e12, e14, x2b, ↓EVd, isCall, sevalprocAttr]
       refine qd (x2f _ _ _ h16) rfl ?_
       rcases iteE hm1 with ⟨e18, hm1⟩ | ⟨e18, hm1⟩
       · obtain rfl := Option.some.inj hm1
         simp only [kk0, e7, e9, e12, e14, e18, x2b, ↓EVd, isCall, sevalprocAttr]
         refine TI.here (hI0 _ rfl _ ⟨?_, ?_, ?_, ?_, ?_, ?_, ?_, ?_, ?_, ?_, ?_⟩)
         all_goals try simp only [kk0, e7, e9, e12, e14, e18, x2b, ↓EVd, isCall, sevalprocAttr]
         all_goals first | omega | exact lq (by omega) | exact nq (by omega) | rfl | (congr 1; omega)
       obtain rfl := Option.some.inj hm1
       obtain rfl := hO0 _ rfl
       try dsimp only at hm0
       obtain rfl := Option.some.inj hm0
       simp only [kk0, e7, e9, e12, e14, e18, x2b, ↓EVd, isCall, sevalprocAttr]
       all_goals first | done | rfl | exact xd (by simp only [CLO]) | exact xi (by simp only [CLO]) (Sub.tup (Subs.cons (Sub.refl _) (Subs.cons (Sub.refl _) (Subs.nil))))
     obtain rfl := Option.some.inj hm1
     simp only [kk0, e7, e9, e12, e14, x2b, ↓EVd, isCall, sevalprocAttr]
     refine TI.here (hI0 _ rfl _ ⟨?_, ?_, ?_, ?_, ?_, ?_, ?_, ?_, ?_, ?_, ?_⟩)
     all_goals try simp only [kk0, e7, e9, e12, e14, x2b, ↓EVd, isCall, sevalprocAttr]
     all_goals first | omega | exact lq (by omega) | exact nq (by omega) | rfl | (congr 1; omega)
   obtain rfl := Option.some.inj hm1
   simp only [kk0, e7, e9, x2b, ↓EVd, isCall, sevalprocAttr]
   refine TI.here (hJ0_0 _ ⟨⟨?_, ?_, ?_⟩, hO0 _ rfl⟩)
   all_goals try simp only [kk0, e7, e9, x2b, ↓EVd, isCall, sevalprocAttr]
   all_goals first | omega | exact lq (by omega) | exact nq (by omega) | rfl | (congr 1; omega)
 obtain rfl := Option.some.inj hm1
 simp only [kk0, e7, x2b, ↓EVd, isCall, sevalprocAttr]
 refine TI.here (hJ0_0 _ ⟨⟨?_, ?_, ?_⟩, hO0 _ rfl⟩)
 all_goals try simp only [kk0, e7, x2b, ↓EVd, isCall, sevalprocAttr]
 all_goals first | omega | exact lq (by omega) | exact nq (by omega) | rfl | (congr 1; omega)
def xng (a0 : Stack) (a1 : View) (a2 : ByteArray) : Option (Int × View × Place) := (xze a0 a1 a2).bind fun v1 => if v1.2 = true then (xhd a0.upper v1.1.ino).bind fun v5 => if v5.kind = 1 then (xgg a0 a1 v1.1.ino a2).bind fun v9 => some (1, (⟨v1.1.ino, v9⟩ : View), (⟨0, v1.1.ino⟩ : Place))
 else if v5.kind = 2 then some (v5.kind, (⟨0, []⟩ : View), (⟨0, v1.1.ino⟩ : Place))
 else if v5.kind = 3 then some (v5.kind, (⟨0, []⟩ : View), (⟨0, v1.1.ino⟩ : Place))
 else some (0, (⟨0, []⟩ : View), (⟨0, 0⟩ : Place))
 else (xdd a0 a1.lower a2).bind fun v20 => if v20.1 = 0 then some (0, (⟨0, []⟩ : View), (⟨0, 0⟩ : Place))
 else if v20.1 = 1 then (ix v20.2 0).bind fun v28 => some (v20.1, (⟨0, v20.2⟩ : View), v28)
 else (ix v20.2 0).bind fun v31 => some (v20.1, (⟨0, []⟩ : View), v31)
def xxb := aI (aI (aI (aI (@EV) (@R3)) (aI (@R9) (@R26))) (aI (aI (@R29) (@R30)) (aI (@R32) (aI (@R45) (@R55))))) (aI (aI (aI (@R68) (@DBranch)) (aI (@DStack) (@DView))) (aI (aI (@DPlace) (@DEntry)) (aI (@DAttr) (aI (@DNode) (@mixed)))))
set_option maxHeartbeats 2000000 in
theorem xys (a0 : Stack) (a1 : View) (a2 : ByteArray) (r : Int × View × Place) (hm0 : xng a0 a1 a2 = some r) : Ok Tryz.prog 20 [xe a0, xl a1, str a2] (.tup [int r.1, xl r.2.1, xb r.2.2]) := by
 unfold xng at hm0
 refine okG x60 ?_
 unfold xft
 obtain ⟨v1, h2, hm0⟩ := bsE hm0
 simp only [xxb, ↓EVd, isCall, sevalprocAttr]
 refine qc (xym _ _ _ _ h2) rfl ?_
 rcases itbE hm0 with ⟨e4, hm0⟩ | ⟨e4, hm0⟩
 · obtain ⟨v5, h6, hm0⟩ := bsE hm0
   simp only [e4, xxb, ↓EVd, isCall, sevalprocAttr]
   refine qc (x2f _ _ _ h6) rfl ?_
   rcases iteE hm0 with ⟨e8, hm0⟩ | ⟨e8, hm0⟩
   · simp only [e4, e8, xxb, ↓EVd, isCall, sevalprocAttr]
     refine fineI [([], []), ([12], []), ([0], []), ([1], []), ([], []), ([12], []), ([], []), ([], []), ([], []), ([], []), ([12], []), ([], []), ([], []), ([], [3]), ([], [4])] rfl (by simp only [MT, sevalprocAttr]; first | done | omega) ?_
     obtain ⟨v9, h10, hm0⟩ := bsE hm0
     simp only [e4, e8, xxb, ↓EVd, isCall, sevalprocAttr]
     refine qv (xns _ _ _ _ _ h10) rfl ?_
     have e11 : (.agg [int v1.1.ino, .sl 2 (v9.map xb)] : AV) = xl (⟨v1.1.ino, v9⟩ : View) := _root_.id rfl
     have e12 : (.agg [int 0, int v1.1.ino] : AV) = xb (⟨0, v1.1.ino⟩ : Place) := _root_.id rfl
     obtain rfl := Option.some.inj hm0
     simp only [e4, e8, e11, e12, xxb, ↓EVd, isCall, sevalprocAttr]
     all_goals first | done | rfl | exact xd (by simp only [CLO]) | exact xi (by simp only [CLO]) (Sub.tup (Subs.cons (Sub.refl _) (Subs.cons (Sub.refl _) (Subs.cons (Sub.refl _) (Subs.nil)))))
   rcases iteE hm0 with ⟨e14, hm0⟩ | ⟨e14, hm0⟩
   · simp only [e4, e8, e14, xxb, ↓EVd, isCall, sevalprocAttr]
     refine fineI [([], []), ([21], []), ([], []), ([], []), ([12], []), ([], []), ([], []), ([], [3]), ([], [4])] rfl (by simp only [MT, sevalprocAttr]; first | done | omega) ?_
     have e15 : (.agg [int 0, int v1.1.ino] : AV) = xb (⟨0, v1.1.ino⟩ : Place) := _root_.id rfl
     obtain rfl := Option.some.inj hm0
     simp only [e4, e8, e14, e15, xxb, ↓EVd, isCall, sevalprocAttr]
     all_goals first | done | rfl | exact xd (by simp only [CLO]) | exact xi (by simp only [CLO]) (Sub.tup (Subs.cons (Sub.refl _) (Subs.cons (Sub.agg (Subs.cons (Sub.refl _) (Subs.cons (Sub.nilS _) (Subs.nil)))) (Subs.cons (Sub.refl _) (Subs.nil)))))
   rcases iteE hm0 with ⟨e17, hm0⟩ | ⟨e17, hm0⟩
   · simp only [e4, e8, e14, e17, xxb, ↓EVd, isCall, sevalprocAttr]
     refine fineI [([], []), ([21], []), ([], []), ([], []), ([12], []), ([], []), ([], []), ([], [3]), ([], [4])] rfl (by simp only [MT, sevalprocAttr]; first | done | omega) ?_
     have e18 : (.agg [int 0, int v1.1.ino] : AV) = xb (⟨0, v1.1.ino⟩ : Place) := _root_.id rfl
     obtain rfl := Option.some.inj hm0
     simp only [e4, e8, e14, e17, e18, xxb, ↓EVd, isCall, sevalprocAttr]
     all_goals first | done | rfl | exact xd (by simp only [CLO]) | exact xi (by simp only [CLO]) (Sub.tup (Subs.cons (Sub.refl _) (Subs.cons (Sub.agg (Subs.cons (Sub.refl _) (Subs.cons (Sub.nilS _) (Subs.nil)))) (Subs.cons (Sub.refl _) (Subs.nil)))))
   have e19 : (.agg [int 0, int 0] : AV) = xb (⟨0, 0⟩ : Place) := _root_.id rfl
   obtain rfl := Option.some.inj hm0
   simp only [e4, e8, e14, e17, e19, xxb, ↓EVd, isCall, sevalprocAttr]
   all_goals first | done | rfl | exact xd (by simp only [CLO]) | exact xi (by simp only [CLO]) (Sub.tup (Subs.cons (Sub.refl _) (Subs.cons (Sub.agg (Subs.cons (Sub.refl _) (Subs.cons (Sub.nilS _) (Subs.nil)))) (Subs.cons (Sub.refl _) (Subs.nil)))))
 obtain ⟨v20, h21, hm0⟩ := bsE hm0
 simp only [e4, xxb, ↓EVd, isCall, sevalprocAttr]
 refine qc (xih _ _ _ _ h21) rfl ?_
 rcases iteE hm0 with ⟨e23, hm0⟩ | ⟨e23, hm0⟩
 · have e24 : (.agg [int 0, int 0] : AV) = xb (⟨0, 0⟩ : Place) := _root_.id rfl
   obtain rfl := Option.some.inj hm0
   simp only [e4, e23, e24, xxb, ↓EVd, isCall, sevalprocAttr]
   all_goals first | done | rfl | exact xd (by simp only [CLO]) | exact xi (by simp only [CLO]) (Sub.tup (Subs.cons (Sub.refl _) (Subs.cons (Sub.agg (Subs.cons (Sub.refl _) (Subs.cons (Sub.nilS _) (Subs.nil)))) (Subs.cons (Sub.refl _) (Subs.nil)))))
 rcases iteE hm0 with ⟨e26, hm0⟩ | ⟨e26, hm0⟩
 · simp only [e4, e23, e26, xxb, ↓EVd, isCall, sevalprocAttr]
   refine fineI [([], []), ([], []), ([], []), ([], []), ([], []), ([], []), ([], []), ([], [3]), ([], [4])] rfl (by simp only [MT, sevalprocAttr]; first | done | omega) ?_
   have e27 : (.agg [int 0, .sl 2 (v20.2.map xb)] : AV) = xl (⟨0, v20.2⟩ : View) := _root_.id rfl
   obtain ⟨v28, e30, hm0⟩ := ixE xb hm0
   try simp only [sevalprocAttr, eq_self, true_and] at e30
   obtain rfl := Option.some.inj hm0
   simp only [e4, e23, e26, e27, e30, xxb, ↓EVd, isCall, sevalprocAttr]
   all_goals first | done | rfl | exact xd (by simp only [CLO]) | exact xi (by simp only [CLO]) (Sub.tup (Subs.cons (Sub.refl _) (Subs.cons (Sub.refl _) (Subs.cons (Sub.refl _) (Subs.nil)))))
 simp only [e4, e23, e26, xxb, ↓EVd, isCall, sevalprocAttr]
 refine fineI [([], []), ([], []), ([], []), ([], []), ([], []), ([], []), ([], [3]), ([], [4])] rfl (by simp only [MT, sevalprocAttr]; first | done | omega) ?_
 obtain ⟨v31, e33, hm0⟩ := ixE xb hm0
 try simp only [sevalprocAttr, eq_self, true_and] at e33
 obtain rfl := Option.some.inj hm0
 simp only [e4, e23, e26, e33, xxb, ↓EVd, isCall, sevalprocAttr]
 all_goals first | done | rfl | exact xd (by simp only [CLO]) | exact xi (by simp only [CLO]) (Sub.tup (Subs.cons (Sub.refl _) (Subs.cons (Sub.agg (Subs.cons (Sub.refl _) (Subs.cons (Sub.nilS _) (Subs.nil)))) (Subs.cons (Sub.refl _) (Subs.nil)))))
def x3o (a0 : Stack) (a1 : View) (v13 : Node) : (List ByteArray × Int) → Option (St (List ByteArray × Int) (List ByteArray))
 | (v17, v18) => if v18 < (v13.entries.length : Int) then if v13.kind = 1 then (ix v13.entries v18).bind fun v26 => (xdd a0 a1.lower v26.name).bind fun v29 => if v29.1 = 0 then some (.nx (v17, (wr (v18 + 1))))
 else (ap 16 v17 ([v26.name] : List ByteArray)).bind fun _ => some (.nx ((v17 ++ ([v26.name] : List ByteArray)), (wr (v18 + 1))))
 else some (.out v17)
 else some (.out v17)
def x1j (a0 : Stack) (a1 : View) : (List ByteArray × Int) → Option (St (List ByteArray × Int) (List ByteArray))
 | (v3, v4) => if v4 < (a1.lower.length : Int) then (ix a1.lower v4).bind fun v10 => (xxc a0 v10).bind fun v13 => (iter (x3o a0 a1 v13) big (v3, 0)).bind fun o => (match o with
 | v21 => some (.nx (v21, (wr (v4 + 1)))))
 else some (.out v3)
def x8o (v7 : List ByteArray) (v39 : List ByteArray) (v40 : Int) : Int → Option (St (Int) (Int))
 | v47 => if v47 < (v39.length : Int) then (ix v39 v47).bind fun v52 => (ix v7 v40).bind fun v55 => if (Op.bytesLess v52.toList v55.toList) = true then some (.nx (wr (v47 + 1)))
 else some (.out v47)
 else some (.out v47)
def x9o (v49 : Int) : (Int × List ByteArray) → Option (St (Int × List ByteArray) (List ByteArray))
 | (v75, v76) => if v49 < v75 then (ix v76 (wr (v75 - 1))).bind fun v81 => (ix v76 v75).bind fun v84 => some (.nx ((wr (v75 - 1)), (v76.set (v75).toNat v81)))
 else some (.out v76)
def x1o (v49 : Int) : (Int × List ByteArray) → Option (St (Int × List ByteArray) (List ByteArray))
 | (v95, v96) => if v49 < v95 then (ix v96 (wr (v95 - 1))).bind fun v101 => (ix v96 v95).bind fun v104 => some (.nx ((wr (v95 - 1)), (v96.set (v95).toNat v101)))
 else some (.out v96)
def xzj (v7 : List ByteArray) : (List ByteArray × Int) → Option (St (List ByteArray × Int) (List ByteArray))
 | (v39, v40) => if v40 < (v7.length : Int) then (iter (x8o v7 v39 v40) big 0).bind fun o => (match o with
 | v49 => if v49 < (v39.length : Int) then (ix v39 v49).bind fun v62 => (ix v7 v40).bind fun v65 => if v62 = v65 then some (.nx (v39, (wr (v40 + 1))))
 else (ap 16 v39 ([xo] : List ByteArray)).bind fun _ => (iter (x9o v49) big ((wr (((v39 ++ ([xo] : List ByteArray)).length : Int) - 1)), (v39 ++ ([xo] : List ByteArray)))).bind fun o => (match o with
 | v78 => (ix v78 v49).bind fun v87 => some (.nx ((v78.set (v49).toNat v65), (wr (v40 + 1)))))
 else (ap 16 v39 ([xo] : List ByteArray)).bind fun _ => (iter (x1o v49) big ((wr (((v39 ++ ([xo] : List ByteArray)).length : Int) - 1)), (v39 ++ ([xo] : List ByteArray)))).bind fun o => (match o with
 | v98 => (ix v7 v40).bind fun v107 => (ix v98 v49).bind fun v110 => some (.nx ((v98.set (v49).toNat v107), (wr (v40 + 1))))))
 else some (.out v39)
def xjd (v113 : Node) : (List ByteArray × Int) → Option (St (List ByteArray × Int) (List ByteArray))
 | (v117, v118) => if v118 < (v113.entries.length : Int) then if v113.kind = 1 then (ix v113.entries v118).bind fun v126 => (ap 16 v117 ([v126.name] : List ByteArray)).bind fun _ => some (.nx ((v117 ++ ([v126.name] : List ByteArray)), (wr (v118 + 1))))
 else some (.out v117)
 else some (.out v117)
def xae (a0 : Stack) (a1 : View) (v121 : List ByteArray) : (List ByteArray × Int) → Option (St (List ByteArray × Int) (List ByteArray))
 | (v135, v136) => if v136 < (v121.length : Int) then (ix v121 v136).bind fun v142 => (xng a0 a1 v142).bind fun v145 => if v145.1 = 0 then some (.nx (v135, (wr (v136 + 1))))
 else (ap 16 v135 ([v142] : List ByteArray)).bind fun _ => some (.nx ((v135 ++ ([v142] : List ByteArray)), (wr (v136 + 1))))
 else some (.out v135)
def xsf (a0 : Stack) (a1 : View) : Option (List ByteArray) := (iter (x1j a0 a1) big (([] : List ByteArray), 0)).bind fun o => (match o with
 | v7 => (iter (xzj v7) big (([] : List ByteArray), 0)).bind fun o => (match o with
 | v43 => (xhd a0.upper a1.upper).bind fun v113 => (iter (xjd v113) big (v43, 0)).bind fun o => (match o with
 | v121 => (iter (xae a0 a1 v121) big (([] : List ByteArray), 0)).bind fun o => (match o with
 | v139 => (xxd v139).bind fun v153 => some v153))))
def xc := aI (aI (aI (aI (@EV) (@R3)) (aI (@R9) (aI (@R26) (@R29)))) (aI (aI (@R30) (@R32)) (aI (@R42) (aI (@R45) (@R55))))) (aI (aI (aI (@R62) (@R68)) (aI (@DBranch) (aI (@DStack) (@DView)))) (aI (aI (@DPlace) (@DEntry)) (aI (@DAttr) (aI (@DNode) (@mixed)))))
set_option maxHeartbeats 2000000 in
theorem xez (a0 : Stack) (a1 : View) (r : List ByteArray) (hm0 : xsf a0 a1 = some r) : Ok Tryz.prog 28 [xe a0, xl a1] (.sl 1 (r.map str)) := by
 unfold xsf at hm0
 refine okG xsy ?_
 unfold xxs
 simp only [xc, ↓EVd, isCall, sevalprocAttr]
 refine x6d (acallF xky (by simp) ?_) rfl
 unfold xis
 obtain ⟨o0, ho0, hm0⟩ := bsE hm0
 simp only [xc, ↓EVd, isCall, sevalprocAttr]
 refine cwp_cx 0 (fun s => ∃ v7 : List ByteArray, ∃ l6 : Nat, (s.T 5 = .msl l6 v7.length ∧ s.H 0 = some (.row 29 6 [xe a0]) ∧ s.H 1 = some (.row 32 2 [xl a1]) ∧ s.H l6 = some (.row 9 1 (v7.map str)) ∧ Lq 0 s.nx ∧ Lq 1 s.nx ∧ Lq l6 s.nx ∧ Nq 0 l6 ∧ Nq 1 l6) ∧ v7 = o0) ?_ fun J0_0 hJ0_0 => ?_
 · rintro T0 H0 x5 ⟨v7, l6, kk0_0, rfl⟩
   dsimp only [Lq, Nq] at kk0_0
   try dsimp only at hm0
   simp only [kk0_0, xc, ↓EVd, isCall, sevalprocAttr]
   refine x6d (acallF xhs (by simp) ?_) rfl
   unfold xmp
   obtain ⟨o2, ho2, hm0⟩ := bsE hm0
   simp only [kk0_0, xc, ↓EVd, isCall, sevalprocAttr]
   refine cwp_cx 0 (fun s => ∃ v43 : List ByteArray, ∃ l42 : Nat, (s.T 3 = .msl l42 v43.length ∧ s.H 0 = some (.row 29 6 [xe a0]) ∧ s.H 1 = some (.row 32 2 [xl a1]) ∧ s.H l6 = some (.row 9 1 (v7.map str)) ∧ s.H l42 = some (.row 9 1 (v43.map str)) ∧ Lq 0 s.nx ∧ Lq 1 s.nx ∧ Lq l6 s.nx ∧ Lq l42 s.nx ∧ Nq 0 l6 ∧ Nq 0 l42 ∧ Nq 1 l6 ∧ Nq 1 l42 ∧ Nq l6 l42) ∧ v43 = o2) ?_ fun J2_0 hJ2_0 => ?_
   · rintro T2 H2 x41 ⟨v43, l42, kk2_0, rfl⟩
     dsimp only [Lq, Nq] at kk2_0
     try dsimp only at hm0
     obtain ⟨v113, h114, hm0⟩ := bsE hm0
     simp only [kk2_0, kk0_0, xc, ↓EVd, isCall, sevalprocAttr]
     refine qc (x2f _ _ _ h114) rfl ?_
     obtain ⟨o6, ho6, hm0⟩ := bsE hm0
     simp only [kk2_0, kk0_0, xc, ↓EVd, isCall, sevalprocAttr]
     refine cwp_cx 0 (fun s => ∃ v121 : List ByteArray, ∃ l120 : Nat, (s.T 2 = .loc 0 6 0 0 ∧ s.T 3 = .loc 1 2 0 0 ∧ s.T 5 = .msl l120 v121.length ∧ s.H 0 = some (.row 29 6 [xe a0]) ∧ s.H 1 = some (.row 32 2 [xl a1]) ∧ s.H l120 = some (.row 9 1 (v121.map str)) ∧ Lq 0 s.nx ∧ Lq 1 s.nx ∧ Lq l120 s.nx ∧ Nq 0 l120 ∧ Nq 1 l120) ∧ v121 = o6) ?_ fun J6_0 hJ6_0 => ?_
     · rintro T6 H6 x119 ⟨v121, l120, kk6_0, rfl⟩
       dsimp only [Lq, Nq] at kk6_0
       try dsimp only at hm0
       obtain ⟨o7, ho7, hm0⟩ := bsE hm0
       simp only [kk6_0, kk2_0, kk0_0, xc, ↓EVd, isCall, sevalprocAttr]
       refine cwp_cx 2 (fun s => ∃ v139 : List ByteArray, ∃ l138 : Nat, (s.T 8 = .msl l138 v139.length ∧ s.H l138 = some (.row 9 1 (v139.map str)) ∧ Lq l138 s.nx) ∧ v139 = o7) ?_ fun J7_0 hJ7_0 => ?_
       · rintro T7 H7 x137 ⟨v139, l138, kk7_0, rfl⟩
         dsimp only [Lq, Nq] at kk7_0
         try dsimp only at hm0
         obtain ⟨v153, h154, hm0⟩ := bsE hm0
         simp only [kk7_0, kk6_0, kk2_0, kk0_0, xc, ↓EVd, isCall, sevalprocAttr]
         refine qcq (x80 _ _ h154) rfl (by simp only [kk7_0, kk6_0, kk2_0, kk0_0, FQ, CLO, xc, ↓EVd, isCall, sevalprocAttr]; first | done | rfl) ?_
         obtain rfl := Option.some.inj hm0
         simp only [kk7_0, kk6_0, kk2_0, kk0_0, xc, ↓EVd, isCall, sevalprocAttr]
         all_goals first | done | rfl | exact xd (by simp only [CLO])
       refine cwp_lp ho7 (fun (v135, v136) s => ∃ l134 : Nat, s.T 2 = .loc 0 6 0 0 ∧ s.T 3 = .loc 1 2 0 0 ∧ s.T 5 = .msl l120 v121.length ∧ s.T 8 = .msl l134 v135.length ∧ s.T 9 = int v136 ∧ s.H 0 = some (.row 29 6 [xe a0]) ∧ s.H 1 = some (.row 32 2 [xl a1]) ∧ s.H l120 = some (.row 9 1 (v121.map str)) ∧ s.H l134 = some (.row 9 1 (v135.map str)) ∧ Lq 0 s.nx ∧ Lq 1 s.nx ∧ Lq l120 s.nx ∧ Lq l134 s.nx ∧ Nq 0 l120 ∧ Nq 0 l134 ∧ Nq 1 l120 ∧ Nq 1 l134 ∧ Nq l120 l134) ?_ ?_
       · refine TI.here ⟨x119, ?_, ?_, ?_, ?_, ?_, ?_, ?_, ?_, ?_, ?_, ?_, ?_, ?_, ?_, ?_, ?_, ?_, ?_⟩
         all_goals try simp only [kk6_0, kk2_0, kk0_0, xc, ↓EVd, isCall, sevalprocAttr]
         all_goals first | omega | exact lq (by omega) | exact nq (by omega) | rfl | (congr 1; omega)
       rintro I7 ⟨v135, v136⟩ T7 H7 x133 st7 ⟨l134, kk7⟩ hm1 hI7 hO7
       dsimp only [Lq, Nq] at kk7
       simp only [xae] at hm1
       rcases iteE hm1 with ⟨e141, hm1⟩ | ⟨e141, hm1⟩
       · obtain ⟨v142, e144, hm1⟩ := ixE str hm1
         obtain ⟨v145, h146, hm1⟩ := bsE hm1
         simp only [kk7, kk6_0, kk2_0, kk0_0, e141, e144, xc, ↓EVd, isCall, sevalprocAttr]
         refine qd (xys _ _ _ _ h146) rfl ?_
         rcases iteE hm1 with ⟨e148, hm1⟩ | ⟨e148, hm1⟩
         · obtain rfl := Option.some.inj hm1
           simp only [kk7, kk6_0, kk2_0, kk0_0, e141, e144, e148, xc, ↓EVd, isCall, sevalprocAttr]
           refine TI.here (hI7 _ rfl _ ⟨l134, ?_, ?_, ?_, ?_, ?_, ?_, ?_, ?_, ?_, ?_, ?_, ?_, ?_, ?_, ?_, ?_, ?_, ?_⟩)
           all_goals try simp only [kk7, kk6_0, kk2_0, kk0_0, e141, e144, e148, xc, ↓EVd, isCall, sevalprocAttr]
           all_goals first | omega | exact lq (by omega) | exact nq (by omega) | rfl | (congr 1; omega)
         obtain ⟨e151, hm1⟩ := apE hm1
         try simp only [ZL] at e151
         obtain rfl := Option.some.inj hm1
         simp only [kk7, kk6_0, kk2_0, kk0_0, e141, e144, e148, e151, xc, ↓EVd, isCall, sevalprocAttr]
         refine TI.here (hI7 _ rfl _ ⟨(x133 + 28), ?_, ?_, ?_, ?_, ?_, ?_, ?_, ?_, ?_, ?_, ?_, ?_, ?_, ?_, ?_, ?_, ?_, ?_⟩)
         all_goals try simp only [kk7, kk6_0, kk2_0, kk0_0, e141, e144, e148, e151, xc, ↓EVd, isCall, sevalprocAttr]
         all_goals first | omega | exact lq (by omega) | exact nq (by omega) | rfl | (congr 1; omega)
       obtain rfl := Option.some.inj hm1
       simp only [kk7, kk6_0, kk2_0, kk0_0, e141, xc, ↓EVd, isCall, sevalprocAttr]
       refine TI.here (hJ7_0 _ ⟨v135, l134, ⟨?_, ?_, ?_⟩, hO7 _ rfl⟩)
       all_goals try simp only [kk7, kk6_0, kk2_0, kk0_0, e141, xc, ↓EVd, isCall, sevalprocAttr]
       all_goals first | omega | exact lq (by omega) | exact nq (by omega) | rfl | (congr 1; omega)
     refine cwp_lp ho6 (fun (v117, v118) s => ∃ l116 : Nat, s.T 2 = .loc 0 6 0 0 ∧ s.T 3 = .loc 1 2 0 0 ∧ s.T 5 = .msl l116 v117.length ∧ s.T 6 = .loc (x41 + 7) 13 0 0 ∧ s.T 7 = int v118 ∧ s.H 0 = some (.row 29 6 [xe a0]) ∧ s.H 1 = some (.row 32 2 [xl a1]) ∧ s.H (x41 + 7) = some (.row 68 13 [xm v113]) ∧ s.H l116 = some (.row 9 1 (v117.map str)) ∧ Lq 0 s.nx ∧ Lq 1 s.nx ∧ Lq (x41 + 7) s.nx ∧ Lq l116 s.nx ∧ Nq 0 (x41 + 7) ∧ Nq 0 l116 ∧ Nq 1 (x41 + 7) ∧ Nq 1 l116 ∧ Nq (x41 + 7) l116) ?_ ?_
     · refine TI.here ⟨l42, ?_, ?_, ?_, ?_, ?_, ?_, ?_, ?_, ?_, ?_, ?_, ?_, ?_, ?_, ?_, ?_, ?_, ?_⟩
       all_goals try simp only [kk2_0, kk0_0, xc, ↓EVd, isCall, sevalprocAttr]
       all_goals first | omega | exact lq (by omega) | exact nq (by omega) | rfl | (congr 1; omega)
     rintro I6 ⟨v117, v118⟩ T6 H6 x115 st6 ⟨l116, kk6⟩ hm1 hI6 hO6
     dsimp only [Lq, Nq] at kk6
     simp only [xjd] at hm1
     rcases iteE hm1 with ⟨e123, hm1⟩ | ⟨e123, hm1⟩
     · rcases iteE hm1 with ⟨e125, hm1⟩ | ⟨e125, hm1⟩
       · obtain ⟨v126, e128, hm1⟩ := ixE xx hm1
         obtain ⟨e131, hm1⟩ := apE hm1
         try simp only [ZL] at e131
         obtain rfl := Option.some.inj hm1
         simp only [kk6, kk2_0, kk0_0, e123, e125, e128, e131, xc, ↓EVd, isCall, sevalprocAttr]
         refine TI.here (hI6 _ rfl _ ⟨(x115 + 18), ?_, ?_, ?_, ?_, ?_, ?_, ?_, ?_, ?_, ?_, ?_, ?_, ?_, ?_, ?_, ?_, ?_, ?_⟩)
         all_goals try simp only [kk6, kk2_0, kk0_0, e123, e125, e128, e131, xc, ↓EVd, isCall, sevalprocAttr]
         all_goals first | omega | exact lq (by omega) | exact nq (by omega) | rfl | (congr 1; omega)
       obtain rfl := Option.some.inj hm1
       simp only [kk6, kk2_0, kk0_0, e123, e125, xc, ↓EVd, isCall, sevalprocAttr]
       refine TI.here (hJ6_0 _ ⟨v117, l116, ⟨?_, ?_, ?_, ?_, ?_, ?_, ?_, ?_, ?_, ?_, ?_⟩, hO6 _ rfl⟩)
       all_goals try simp only [kk6, kk2_0, kk0_0, e123, e125, xc, ↓EVd, isCall, sevalprocAttr]
       all_goals first | omega | exact lq (by omega) | exact nq (by omega) | rfl | (congr 1; omega)
     obtain rfl := Option.some.inj hm1
     simp only [kk6, kk2_0, kk0_0, e123, xc, ↓EVd, isCall, sevalprocAttr]
     refine TI.here (hJ6_0 _ ⟨v117, l116, ⟨?_, ?_, ?_, ?_, ?_, ?_, ?_, ?_, ?_, ?_, ?_⟩, hO6 _ rfl⟩)
     all_goals try simp only [kk6, kk2_0, kk0_0, e123, xc, ↓EVd, isCall, sevalprocAttr]
     all_goals first | omega | exact lq (by omega) | exact nq (by omega) | rfl | (congr 1; omega)
   refine cwp_lp ho2 (fun (v39, v40) s => ∃ l38 : Nat, s.T 0 = .msl l6 v7.length ∧ s.T 3 = .msl l38 v39.length ∧ s.T 4 = int v40 ∧ s.H 0 = some (.row 29 6 [xe a0]) ∧ s.H 1 = some (.row 32 2 [xl a1]) ∧ s.H l6 = some (.row 9 1 (v7.map str)) ∧ s.H l38 = some (.row 9 1 (v39.map str)) ∧ Lq 0 s.nx ∧ Lq 1 s.nx ∧ Lq l6 s.nx ∧ Lq l38 s.nx ∧ Nq 0 l6 ∧ Nq 0 l38 ∧ Nq 1 l6 ∧ Nq 1 l38 ∧ Nq l6 l38) ?_ ?_
   · refine TI.here ⟨(x5 + 4), ?_, ?_, ?_, ?_, ?_, ?_, ?_, ?_, ?_, ?_, ?_, ?_, ?_, ?_, ?_, ?_⟩
     all_goals try simp only [kk0_0, xc, ↓EVd, isCall, sevalprocAttr]
     all_goals first | omega | exact lq (by omega) | exact nq (by omega) | rfl | (congr 1; omega)
   rintro I2 ⟨v39, v40⟩ T2 H2 x37 st2 ⟨l38, kk2⟩ hm1 hI2 hO2
   dsimp only [Lq, Nq] at kk2
   simp only [xzj] at hm1
   rcases iteE hm1 with ⟨e45, hm1⟩ | ⟨e45, hm1⟩
   · obtain ⟨o3, ho3, hm1⟩ := bsE hm1
     simp only [kk2, kk0_0, e45, xc, ↓EVd, isCall, sevalprocAttr]
     refine cwp_cx 2 (fun s => ∃ v49 : Int, (s.T 0 = .msl l6 v7.length ∧ s.T 3 = .msl l38 v39.length ∧ s.T 4 = int v40 ∧ s.T 5 = int v49 ∧ s.H 0 = some (.row 29 6 [xe a0]) ∧ s.H 1 = some (.row 32 2 [xl a1]) ∧ s.H l6 = some (.row 9 1 (v7.map str)) ∧ s.H l38 = some (.row 9 1 (v39.map str)) ∧ Lq 0 s.nx ∧ Lq 1 s.nx ∧ Lq l6 s.nx ∧ Lq l38 s.nx ∧ Nq 0 l6 ∧ Nq 0 l38 ∧ Nq 1 l6 ∧ Nq 1 l38 ∧ Nq l6 l38) ∧ v49 = o3) ?_ fun J3_0 hJ3_0 => ?_
     · rintro T3 H3 x48 ⟨v49, kk3_0, rfl⟩
       dsimp only [Lq, Nq] at kk3_0
       try dsimp only at hm1
       rcases iteE hm1 with ⟨e61, hm1⟩ | ⟨e61, hm1⟩
       · obtain ⟨v62, e64, hm1⟩ := ixE str hm1
         obtain ⟨v65, e67, hm1⟩ := ixE str hm1
         rcases iteE hm1 with ⟨e69, hm1⟩ | ⟨e69, hm1⟩
         · obtain rfl := Option.some.inj hm1
           simp only [kk3_0, kk2, kk0_0, e45, e61, e64, e67, e69, xc, ↓EVd, isCall, sevalprocAttr]
           refine TI.here (hI2 _ rfl _ ⟨l38, ?_, ?_, ?_, ?_, ?_, ?_, ?_, ?_, ?_, ?_, ?_, ?_, ?_, ?_, ?_, ?_⟩)
           all_goals try simp only [kk3_0, kk2, kk0_0, e45, e61, e64, e67, e69, xc, ↓EVd, isCall, sevalprocAttr]
           all_goals first | omega | exact lq (by omega) | exact nq (by omega) | rfl | (congr 1; omega)
         obtain ⟨e72, hm1⟩ := apE hm1
         try simp only [ZL] at e72
         obtain ⟨o4, ho4, hm1⟩ := bsE hm1
         simp only [kk3_0, kk2, kk0_0, e45, e61, e64, e67, e69, e72, xc, ↓EVd, isCall, sevalprocAttr]
         refine cwp_cx 4 (fun s => ∃ v78 : List ByteArray, (s.T 0 = .msl l6 v7.length ∧ s.T 3 = .msl (x48 + 17) v78.length ∧ s.T 4 = int v40 ∧ s.T 5 = int v49 ∧ s.H 0 = some (.row 29 6 [xe a0]) ∧ s.H 1 = some (.row 32 2 [xl a1]) ∧ s.H l6 = some (.row 9 1 (v7.map str)) ∧ s.H (x48 + 17) = some (.row 9 1 (v78.map str)) ∧ Lq 0 s.nx ∧ Lq 1 s.nx ∧ Lq l6 s.nx ∧ Lq (x48 + 17) s.nx ∧ Nq 0 l6 ∧ Nq 0 (x48 + 17) ∧ Nq 1 l6 ∧ Nq 1 (x48 + 17) ∧ Nq l6 (x48 + 17)) ∧ v78 = o4) ?_ fun J4_0 hJ4_0 => ?_
         · rintro T4 H4 x77 ⟨v78, kk4_0, rfl⟩
           dsimp only [Lq, Nq] at kk4_0
           try dsimp only at hm1
           obtain ⟨v87, e89, hm1⟩ := ixE str hm1
           obtain rfl := Option.some.inj hm1
           simp only [kk4_0, kk3_0, kk2, kk0_0, e45, e61, e64, e67, e69, e72, e89, xc, ↓EVd, isCall, sevalprocAttr]
           refine TI.here (hI2 _ rfl _ ⟨(x48 + 17), ?_, ?_, ?_, ?_, ?_, ?_, ?_, ?_, ?_, ?_, ?_, ?_, ?_, ?_, ?_, ?_⟩)
           all_goals try simp only [kk4_0, kk3_0, kk2, kk0_0, e45, e61, e64, e67, e69, e72, e89, xc, ↓EVd, isCall, sevalprocAttr]
           all_goals first | omega | exact lq (by omega) | exact nq (by omega) | rfl | (congr 1; omega)
         refine cwp_lp ho4 (fun (v75, v76) s => s.T 0 = .msl l6 v7.length ∧ s.T 3 = .msl (x48 + 17) v76.length ∧ s.T 4 = int v40 ∧ s.T 5 = int v49 ∧ s.T 6 = int v75 ∧ s.H 0 = some (.row 29 6 [xe a0]) ∧ s.H 1 = some (.row 32 2 [xl a1]) ∧ s.H l6 = some (.row 9 1 (v7.map str)) ∧ s.H (x48 + 17) = some (.row 9 1 (v76.map str)) ∧ Lq 0 s.nx ∧ Lq 1 s.nx ∧ Lq l6 s.nx ∧ Lq (x48 + 17) s.nx ∧ Nq 0 l6 ∧ Nq 0 (x48 + 17) ∧ Nq 1 l6 ∧ Nq 1 (x48 + 17) ∧ Nq l6 (x48 + 17)) ?_ ?_
         · refine TI.here ⟨?_, ?_, ?_, ?_, ?_, ?_, ?_, ?_, ?_, ?_, ?_, ?_, ?_, ?_, ?_, ?_, ?_, ?_⟩
           all_goals try simp only [kk3_0, kk2, kk0_0, e45, e61, e64, e67, e69, e72, xc, ↓EVd, isCall, sevalprocAttr]
           all_goals first | omega | exact lq (by omega) | exact nq (by omega) | rfl | (congr 1; omega)
         rintro I4 ⟨v75, v76⟩ T4 H4 x74 st4 kk4 hm2 hI4 hO4
         dsimp only [Lq, Nq] at kk4
         simp only [x9o] at hm2
         rcases iteE hm2 with ⟨e80, hm2⟩ | ⟨e80, hm2⟩
         · obtain ⟨v81, e83, hm2⟩ := ixE str hm2
           obtain ⟨v84, e86, hm2⟩ := ixE str hm2
           obtain rfl := Option.some.inj hm2
           simp only [kk4, kk3_0, kk2, kk0_0, e45, e61, e64, e67, e69, e72, e80, e83, e86, xc, ↓EVd, isCall, sevalprocAttr]
           refine TI.here (hI4 _ rfl _ ⟨?_, ?_, ?_, ?_, ?_, ?_, ?_, ?_, ?_, ?_, ?_, ?_, ?_, ?_, ?_, ?_, ?_, ?_⟩)
           all_goals try simp only [kk4, kk3_0, kk2, kk0_0, e45, e61, e64, e67, e69, e72, e80, e83, e86, xc, ↓EVd, isCall, sevalprocAttr]
           all_goals first | omega | exact lq (by omega) | exact nq (by omega) | rfl | (congr 1; omega)
         obtain rfl := Option.some.inj hm2
         simp only [kk4, kk3_0, kk2, kk0_0, e45, e61, e64, e67, e69, e72, e80, xc, ↓EVd, isCall, sevalprocAttr]
         refine TI.here (hJ4_0 _ ⟨v76, ⟨?_, ?_, ?_, ?_, ?_, ?_, ?_, ?_, ?_, ?_, ?_, ?_, ?_, ?_, ?_, ?_, ?_⟩, hO4 _ rfl⟩)
         all_goals try simp only [kk4, kk3_0, kk2, kk0_0, e45, e61, e64, e67, e69, e72, e80, xc, ↓EVd, isCall, sevalprocAttr]
         all_goals first | omega | exact lq (by omega) | exact nq (by omega) | rfl | (congr 1; omega)
       obtain ⟨e92, hm1⟩ := apE hm1
       try simp only [ZL] at e92
       obtain ⟨o5, ho5, hm1⟩ := bsE hm1
       simp only [kk3_0, kk2, kk0_0, e45, e61, e92, xc, ↓EVd, isCall, sevalprocAttr]
       refine cwp_cx 4 (fun s => ∃ v98 : List ByteArray, (s.T 0 = .msl l6 v7.length ∧ s.T 3 = .msl (x48 + 17) v98.length ∧ s.T 4 = int v40 ∧ s.T 5 = int v49 ∧ s.H 0 = some (.row 29 6 [xe a0]) ∧ s.H 1 = some (.row 32 2 [xl a1]) ∧ s.H l6 = some (.row 9 1 (v7.map str)) ∧ s.H (x48 + 17) = some (.row 9 1 (v98.map str)) ∧ Lq 0 s.nx ∧ Lq 1 s.nx ∧ Lq l6 s.nx ∧ Lq (x48 + 17) s.nx ∧ Nq 0 l6 ∧ Nq 0 (x48 + 17) ∧ Nq 1 l6 ∧ Nq 1 (x48 + 17) ∧ Nq l6 (x48 + 17)) ∧ v98 = o5) ?_ fun J5_0 hJ5_0 => ?_
       · rintro T5 H5 x97 ⟨v98, kk5_0, rfl⟩
         dsimp only [Lq, Nq] at kk5_0
         try dsimp only at hm1
         obtain ⟨v107, e109, hm1⟩ := ixE str hm1
         obtain ⟨v110, e112, hm1⟩ := ixE str hm1
         obtain rfl := Option.some.inj hm1
         simp only [kk5_0, kk3_0, kk2, kk0_0, e45, e61, e92, e109, e112, xc, ↓EVd, isCall, sevalprocAttr]
         refine TI.here (hI2 _ rfl _ ⟨(x48 + 17), ?_, ?_, ?_, ?_, ?_, ?_, ?_, ?_, ?_, ?_, ?_, ?_, ?_, ?_, ?_, ?_⟩)
         all_goals try simp only [kk5_0, kk3_0, kk2, kk0_0, e45, e61, e92, e109, e112, xc, ↓EVd, isCall, sevalprocAttr]
         all_goals first | omega | exact lq (by omega) | exact nq (by omega) | rfl | (congr 1; omega)
       refine cwp_lp ho5 (fun (v95, v96) s => s.T 0 = .msl l6 v7.length ∧ s.T 3 = .msl (x48 + 17) v96.length ∧ s.T 4 = int v40 ∧ s.T 5 = int v49 ∧ s.T 6 = int v95 ∧ s.H 0 = some (.row 29 6 [xe a0]) ∧ s.H 1 = some (.row 32 2 [xl a1]) ∧ s.H l6 = some (.row 9 1 (v7.map str)) ∧ s.H (x48 + 17) = some (.row 9 1 (v96.map str)) ∧ Lq 0 s.nx ∧ Lq 1 s.nx ∧ Lq l6 s.nx ∧ Lq (x48 + 17) s.nx ∧ Nq 0 l6 ∧ Nq 0 (x48 + 17) ∧ Nq 1 l6 ∧ Nq 1 (x48 + 17) ∧ Nq l6 (x48 + 17)) ?_ ?_
       · refine TI.here ⟨?_, ?_, ?_, ?_, ?_, ?_, ?_, ?_, ?_, ?_, ?_, ?_, ?_, ?_, ?_, ?_, ?_, ?_⟩
         all_goals try simp only [kk3_0, kk2, kk0_0, e45, e61, e92, xc, ↓EVd, isCall, sevalprocAttr]
         all_goals first | omega | exact lq (by omega) | exact nq (by omega) | rfl | (congr 1; omega)
       rintro I5 ⟨v95, v96⟩ T5 H5 x94 st5 kk5 hm2 hI5 hO5
       dsimp only [Lq, Nq] at kk5
       simp only [x1o] at hm2
       rcases iteE hm2 with ⟨e100, hm2⟩ | ⟨e100, hm2⟩
       · obtain ⟨v101, e103, hm2⟩ := ixE str hm2
         obtain ⟨v104, e106, hm2⟩ := ixE str hm2
         obtain rfl := Option.some.inj hm2
         simp only [kk5, kk3_0, kk2, kk0_0, e45, e61, e92, e100, e103, e106, xc, ↓EVd, isCall, sevalprocAttr]
         refine TI.here (hI5 _ rfl _ ⟨?_, ?_, ?_, ?_, ?_, ?_, ?_, ?_, ?_, ?_, ?_, ?_, ?_, ?_, ?_, ?_, ?_, ?_⟩)
         all_goals try simp only [kk5, kk3_0, kk2, kk0_0, e45, e61, e92, e100, e103, e106, xc, ↓EVd, isCall, sevalprocAttr]
         all_goals first | omega | exact lq (by omega) | exact nq (by omega) | rfl | (congr 1; omega)
       obtain rfl := Option.some.inj hm2
       simp only [kk5, kk3_0, kk2, kk0_0, e45, e61, e92, e100, xc, ↓EVd, isCall, sevalprocAttr]
       refine TI.here (hJ5_0 _ ⟨v96, ⟨?_, ?_, ?_, ?_, ?_, ?_, ?_, ?_, ?_, ?_, ?_, ?_, ?_, ?_, ?_, ?_, ?_⟩, hO5 _ rfl⟩)
       all_goals try simp only [kk5, kk3_0, kk2, kk0_0, e45, e61, e92, e100, xc, ↓EVd, isCall, sevalprocAttr]
       all_goals first | omega | exact lq (by omega) | exact nq (by omega) | rfl | (congr 1; omega)
     refine cwp_lp ho3 (fun v47 s => s.T 0 = .msl l6 v7.length ∧ s.T 3 = .msl l38 v39.length ∧ s.T 4 = int v40 ∧ s.T 5 = int v47 ∧ s.H 0 = some (.row 29 6 [xe a0]) ∧ s.H 1 = some (.row 32 2 [xl a1]) ∧ s.H l6 = some (.row 9 1 (v7.map str)) ∧ s.H l38 = some (.row 9 1 (v39.map str)) ∧ Lq 0 s.nx ∧ Lq 1 s.nx ∧ Lq l6 s.nx ∧ Lq l38 s.nx ∧ Nq 0 l6 ∧ Nq 0 l38 ∧ Nq 1 l6 ∧ Nq 1 l38 ∧ Nq l6 l38) ?_ ?_
     · refine TI.here ⟨?_, ?_, ?_, ?_, ?_, ?_, ?_, ?_, ?_, ?_, ?_, ?_, ?_, ?_, ?_, ?_, ?_⟩
       all_goals try simp only [kk2, kk0_0, e45, xc, ↓EVd, isCall, sevalprocAttr]
       all_goals first | omega | exact lq (by omega) | exact nq (by omega) | rfl | (congr 1; omega)
     rintro I3 v47 T3 H3 x46 st3 kk3 hm2 hI3 hO3
     dsimp only [Lq, Nq] at kk3
     simp only [x8o] at hm2
     rcases iteE hm2 with ⟨e51, hm2⟩ | ⟨e51, hm2⟩
     · obtain ⟨v52, e54, hm2⟩ := ixE str hm2
       obtain ⟨v55, e57, hm2⟩ := ixE str hm2
       rcases itbE hm2 with ⟨e59, hm2⟩ | ⟨e59, hm2⟩
       · obtain rfl := Option.some.inj hm2
         simp only [kk3, kk2, kk0_0, e45, e51, e54, e57, e59, xc, ↓EVd, isCall, sevalprocAttr]
         refine TI.here (hI3 _ rfl _ ⟨?_, ?_, ?_, ?_, ?_, ?_, ?_, ?_, ?_, ?_, ?_, ?_, ?_, ?_, ?_, ?_, ?_⟩)
         all_goals try simp only [kk3, kk2, kk0_0, e45, e51, e54, e57, e59, xc, ↓EVd, isCall, sevalprocAttr]
         all_goals first | omega | exact lq (by omega) | exact nq (by omega) | rfl | (congr 1; omega)
       obtain rfl := Option.some.inj hm2
       simp only [kk3, kk2, kk0_0, e45, e51, e54, e57, e59, xc, ↓EVd, isCall, sevalprocAttr]
       refine TI.here (hJ3_0 _ ⟨v47, ⟨?_, ?_, ?_, ?_, ?_, ?_, ?_, ?_, ?_, ?_, ?_, ?_, ?_, ?_, ?_, ?_, ?_⟩, hO3 _ rfl⟩)
       all_goals try simp only [kk3, kk2, kk0_0, e45, e51, e54, e57, e59, xc, ↓EVd, isCall, sevalprocAttr]
       all_goals first | omega | exact lq (by omega) | exact nq (by omega) | rfl | (congr 1; omega)
     obtain rfl := Option.some.inj hm2
     simp only [kk3, kk2, kk0_0, e45, e51, xc, ↓EVd, isCall, sevalprocAttr]
     refine TI.here (hJ3_0 _ ⟨v47, ⟨?_, ?_, ?_, ?_, ?_, ?_, ?_, ?_, ?_, ?_, ?_, ?_, ?_, ?_, ?_, ?_, ?_⟩, hO3 _ rfl⟩)
     all_goals try simp only [kk3, kk2, kk0_0, e45, e51, xc, ↓EVd, isCall, sevalprocAttr]
     all_goals first | omega | exact lq (by omega) | exact nq (by omega) | rfl | (congr 1; omega)
   obtain rfl := Option.some.inj hm1
   simp only [kk2, kk0_0, e45, xc, ↓EVd, isCall, sevalprocAttr]
   refine TI.here (hJ2_0 _ ⟨v39, l38, ⟨?_, ?_, ?_, ?_, ?_, ?_, ?_, ?_, ?_, ?_, ?_, ?_, ?_, ?_⟩, hO2 _ rfl⟩)
   all_goals try simp only [kk2, kk0_0, e45, xc, ↓EVd, isCall, sevalprocAttr]
   all_goals first | omega | exact lq (by omega) | exact nq (by omega) | rfl | (congr 1; omega)
 refine cwp_lp ho0 (fun (v3, v4) s => ∃ l2 : Nat, s.T 1 = .sl 2 (a1.lower.map xb) ∧ s.T 2 = .loc 8 6 0 0 ∧ s.T 5 = .msl l2 v3.length ∧ s.T 6 = int v4 ∧ s.H 0 = some (.row 29 6 [xe a0]) ∧ s.H 1 = some (.row 32 2 [xl a1]) ∧ s.H 8 = some (.row 29 6 [xe a0]) ∧ s.H l2 = some (.row 9 1 (v3.map str)) ∧ Lq 0 s.nx ∧ Lq 1 s.nx ∧ Lq 8 s.nx ∧ Lq l2 s.nx ∧ Nq 0 l2 ∧ Nq 1 l2 ∧ Nq 8 l2) ?_ ?_
 · refine TI.here ⟨10, ?_, ?_, ?_, ?_, ?_, ?_, ?_, ?_, ?_, ?_, ?_, ?_, ?_, ?_, ?_⟩
   all_goals try simp only [xc, ↓EVd, isCall, sevalprocAttr]
   all_goals first | omega | exact lq (by omega) | exact nq (by omega) | rfl | (congr 1; omega)
 rintro I0 ⟨v3, v4⟩ T0 H0 x1 st0 ⟨l2, kk0⟩ hm1 hI0 hO0
 dsimp only [Lq, Nq] at kk0
 simp only [x1j] at hm1
 rcases iteE hm1 with ⟨e9, hm1⟩ | ⟨e9, hm1⟩
 · obtain ⟨v10, e12, hm1⟩ := ixE xb hm1
   obtain ⟨v13, h14, hm1⟩ := bsE hm1
   simp only [kk0, e9, e12, xc, ↓EVd, isCall, sevalprocAttr]
   refine qd (xpg _ _ _ h14) rfl ?_
   obtain ⟨o1, ho1, hm1⟩ := bsE hm1
   simp only [kk0, e9, e12, xc, ↓EVd, isCall, sevalprocAttr]
   refine cwp_cx 2 (fun s => ∃ v21 : List ByteArray, ∃ l20 : Nat, (s.T 1 = .sl 2 (a1.lower.map xb) ∧ s.T 2 = .loc 8 6 0 0 ∧ s.T 5 = .msl l20 v21.length ∧ s.T 6 = int v4 ∧ s.H 0 = some (.row 29 6 [xe a0]) ∧ s.H 1 = some (.row 32 2 [xl a1]) ∧ s.H 8 = some (.row 29 6 [xe a0]) ∧ s.H l20 = some (.row 9 1 (v21.map str)) ∧ Lq 0 s.nx ∧ Lq 1 s.nx ∧ Lq 8 s.nx ∧ Lq l20 s.nx ∧ Nq 0 l20 ∧ Nq 1 l20 ∧ Nq 8 l20) ∧ v21 = o1) ?_ fun J1_0 hJ1_0 => ?_
   · rintro T1 H1 x19 ⟨v21, l20, kk1_0, rfl⟩
     dsimp only [Lq, Nq] at kk1_0
     try dsimp only at hm1
     obtain rfl := Option.some.inj hm1
     simp only [kk1_0, kk0, e9, e12, xc, ↓EVd, isCall, sevalprocAttr]
     refine TI.here (hI0 _ rfl _ ⟨l20, ?_, ?_, ?_, ?_, ?_, ?_, ?_, ?_, ?_, ?_, ?_, ?_, ?_, ?_, ?_⟩)
     all_goals try simp only [kk1_0, kk0, e9, e12, xc, ↓EVd, isCall, sevalprocAttr]
     all_goals first | omega | exact lq (by omega) | exact nq (by omega) | rfl | (congr 1; omega)
   refine cwp_lp ho1 (fun (v17, v18) s => ∃ l16 : Nat, s.T 1 = .sl 2 (a1.lower.map xb) ∧ s.T 2 = .loc 8 6 0 0 ∧ s.T 5 = .msl l16 v17.length ∧ s.T 6 = int v4 ∧ s.T 7 = .loc (x1 + 10) 13 0 0 ∧ s.T 8 = int v18 ∧ s.H 0 = some (.row 29 6 [xe a0]) ∧ s.H 1 = some (.row 32 2 [xl a1]) ∧ s.H 8 = some (.row 29 6 [xe a0]) ∧ s.H (x1 + 10) = some (.row 68 13 [xm v13]) ∧ s.H l16 = some (.row 9 1 (v17.map str)) ∧ Lq 0 s.nx ∧ Lq 1 s.nx ∧ Lq 8 s.nx ∧ Lq (x1 + 10) s.nx ∧ Lq l16 s.nx ∧ Nq 0 (x1 + 10) ∧ Nq 0 l16 ∧ Nq 1 (x1 + 10) ∧ Nq 1 l16 ∧ Nq 8 (x1 + 10) ∧ Nq 8 l16 ∧ Nq (x1 + 10) l16) ?_ ?_
   · refine TI.here ⟨l2, ?_, ?_, ?_, ?_, ?_, ?_, ?_, ?_, ?_, ?_, ?_, ?_, ?_, ?_, ?_, ?_, ?_, ?_, ?_, ?_, ?_, ?_, ?_⟩
     all_goals try simp only [kk0, e9, e12, xc, ↓EVd, isCall, sevalprocAttr]
     all_goals first | omega | exact lq (by omega) | exact nq (by omega) | rfl | (congr 1; omega)
   rintro I1 ⟨v17, v18⟩ T1 H1 x15 st1 ⟨l16, kk1⟩ hm2 hI1 hO1
   dsimp only [Lq, Nq] at kk1
   simp only [x3o] at hm2
   rcases iteE hm2 with ⟨e23, hm2⟩ | ⟨e23, hm2⟩
   · rcases iteE hm2 with ⟨e25, hm2⟩ | ⟨e25, hm2⟩
     · obtain ⟨v26, e28, hm2⟩ := ixE xx hm2
       obtain ⟨v29, h30, hm2⟩ := bsE hm2
       simp only [kk1, kk0, e9, e12, e23, e25, e28, xc, ↓EVd, isCall, sevalprocAttr]
       refine qd (xih _ _ _ _ h30) rfl ?_
       rcases iteE hm2 with ⟨e32, hm2⟩ | ⟨e32, hm2⟩
       · obtain rfl := Option.some.inj hm2
         simp only [kk1, kk0, e9, e12, e23, e25, e28, e32, xc, ↓EVd, isCall, sevalprocAttr]
         refine TI.here (hI1 _ rfl _ ⟨l16, ?_, ?_, ?_, ?_, ?_, ?_, ?_, ?_, ?_, ?_, ?_, ?_, ?_, ?_, ?_, ?_, ?_, ?_, ?_, ?_, ?_, ?_, ?_⟩)
         all_goals try simp only [kk1, kk0, e9, e12, e23, e25, e28, e32, xc, ↓EVd, isCall, sevalprocAttr]
         all_goals first | omega | exact lq (by omega) | exact nq (by omega) | rfl | (congr 1; omega)
       obtain ⟨e35, hm2⟩ := apE hm2
       try simp only [ZL] at e35
       obtain rfl := Option.some.inj hm2
       simp only [kk1, kk0, e9, e12, e23, e25, e28, e32, e35, xc, ↓EVd, isCall, sevalprocAttr]
       refine TI.here (hI1 _ rfl _ ⟨(x15 + 34), ?_, ?_, ?_, ?_, ?_, ?_, ?_, ?_, ?_, ?_, ?_, ?_, ?_, ?_, ?_, ?_, ?_, ?_, ?_, ?_, ?_, ?_, ?_⟩)
       all_goals try simp only [kk1, kk0, e9, e12, e23, e25, e28, e32, e35, xc, ↓EVd, isCall, sevalprocAttr]
       all_goals first | omega | exact lq (by omega) | exact nq (by omega) | rfl | (congr 1; omega)
     obtain rfl := Option.some.inj hm2
     simp only [kk1, kk0, e9, e12, e23, e25, xc, ↓EVd, isCall, sevalprocAttr]
     refine TI.here (hJ1_0 _ ⟨v17, l16, ⟨?_, ?_, ?_, ?_, ?_, ?_, ?_, ?_, ?_, ?_, ?_, ?_, ?_, ?_, ?_⟩, hO1 _ rfl⟩)
     all_goals try simp only [kk1, kk0, e9, e12, e23, e25, xc, ↓EVd, isCall, sevalprocAttr]
     all_goals first | omega | exact lq (by omega) | exact nq (by omega) | rfl | (congr 1; omega)
   obtain rfl := Option.some.inj hm2
   simp only [kk1, kk0, e9, e12, e23, xc, ↓EVd, isCall, sevalprocAttr]
   refine TI.here (hJ1_0 _ ⟨v17, l16, ⟨?_, ?_, ?_, ?_, ?_, ?_, ?_, ?_, ?_, ?_, ?_, ?_, ?_, ?_, ?_⟩, hO1 _ rfl⟩)
   all_goals try simp only [kk1, kk0, e9, e12, e23, xc, ↓EVd, isCall, sevalprocAttr]
   all_goals first | omega | exact lq (by omega) | exact nq (by omega) | rfl | (congr 1; omega)
 obtain rfl := Option.some.inj hm1
 simp only [kk0, e9, xc, ↓EVd, isCall, sevalprocAttr]
 refine TI.here (hJ0_0 _ ⟨v3, l2, ⟨?_, ?_, ?_, ?_, ?_, ?_, ?_, ?_, ?_⟩, hO0 _ rfl⟩)
 all_goals try simp only [kk0, e9, xc, ↓EVd, isCall, sevalprocAttr]
 all_goals first | omega | exact lq (by omega) | exact nq (by omega) | rfl | (congr 1; omega)
def xkd (a0 : View) (a1 : View) : Option (Bool) := if a0.upper = a1.upper then (xmg a0.lower a1.lower).bind fun v3 => some v3
 else some false
def x2j := aI (aI (@EV) (aI (@R3) (@R30))) (aI (aI (@R32) (@R45)) (aI (@DView) (@DPlace)))
set_option maxHeartbeats 2000000 in
theorem xvn (a0 : View) (a1 : View) (r : Bool) (hm0 : xkd a0 a1 = some r) : Ok Tryz.prog 21 [xl a0, xl a1] (bool r) := by
 unfold xkd at hm0
 refine okG xsv ?_
 unfold xlp
 rcases iteE hm0 with ⟨e2, hm0⟩ | ⟨e2, hm0⟩
 · obtain ⟨v3, h4, hm0⟩ := bsE hm0
   simp only [e2, x2j, ↓EVd, isCall, sevalprocAttr]
   refine qc (x0x _ _ _ h4) rfl ?_
   obtain rfl := Option.some.inj hm0
   simp only [e2, x2j, ↓EVd, isCall, sevalprocAttr]
   all_goals first | done | rfl
 obtain rfl := Option.some.inj hm0
 simp only [e2, x2j, ↓EVd, isCall, sevalprocAttr]
 all_goals first | done | rfl
end Go.Proofs.YtapdjibjnfeipaaGreatDoor.AL


/- Plain laws, part 1: loops; the walk. -/
set_option linter.all false
namespace Go.Proofs.YtapdjibjnfeipaaGreatDoor.AL
open Go Go.Proofs
def x1g : Node := ⟨0, 0, 0, 0, [], [], ⟨0, 0, xo, ⟨0, 0, 0⟩, 0⟩⟩
def nodeP (b : Branch) (ino : Int) : Node := if ino < 1 then x1g else if (b.nodes.length : Int) < ino then x1g else (b.nodes[(ino - 1).toNat]?).getD x1g
structure PB (b : Branch) : Prop where
  len : b.nodes.length ≤ 24
  ents : ∀ x ∈ b.nodes, x.entries.length ≤ 16
theorem xes {b : Branch} {ino : Int} (h : (nodeP b ino).kind = 1) : 1 ≤ ino ∧ ino ≤ (b.nodes.length : Int) := by
  unfold nodeP at h
  split at h
  · simp [x1g] at h
  · split at h
    · simp [x1g] at h
    · omega
def seenB (ways : List Way) (ino : Int) : Bool := ways.any fun w => decide (w.ino = ino)
abbrev WS := List Way × List Ar2_Int
structure WI (b : Branch) (ways : List Way) : Prop where
  nd : (ways.map (·.ino)).Nodup
  dir : ∀ w ∈ ways, (nodeP b w.ino).kind = 1
theorem xnu : ∀ (n : Nat) (l : List Nat), l.Nodup → (∀ x ∈ l, x < n) → l.length ≤ n
  | 0, l, _, h => by
    cases l with
    | nil => simp
    | cons x l => have := h x (by simp); omega
  | n + 1, l, hd, h => by
    have h1 := xnu n (l.erase n) (hd.erase n) (fun x hx => by
      have := (List.Nodup.mem_erase_iff hd).1 hx
      have := h x this.2
      omega)
    have := List.length_erase (a := n) (l := l)
    split at this <;> omega
theorem WI.len {b : Branch} {ways : List Way} (h : WI b ways) : ways.length ≤ b.nodes.length := by
  have h1 : (ways.map fun w => (w.ino - 1).toNat).Nodup := by
    refine List.pairwise_map.2 (List.Pairwise.imp_of_mem ?_ (List.pairwise_map.1 h.nd))
    intro x y hx hy hne e
    have := xes (h.dir x hx)
    have := xes (h.dir y hy)
    omega
  have := xnu b.nodes.length _ h1 (fun x hx => by
    obtain ⟨w, hw, rfl⟩ := List.mem_map.1 hx
    have := xes (h.dir w hw)
    omega)
  simpa using this
theorem xq7 {ways : List Way} {ino : Int} : seenB ways ino = true ↔ ∃ w ∈ ways, w.ino = ino := by simp [seenB]
theorem WI.push {b : Branch} {ways : List Way} (h : WI b ways) {w : Way} (hk : (nodeP b w.ino).kind = 1) (hs : seenB ways w.ino = false) : WI b (ways ++ [w]) := by
  refine ⟨?_, ?_⟩
  · rw [List.map_append, List.map_cons, List.map_nil]
    refine List.nodup_append.2 ⟨h.nd, by simp, ?_⟩
    intro x hx y hy e
    simp only [List.mem_singleton] at hy
    subst hy; subst e
    obtain ⟨w', hw', e⟩ := List.mem_map.1 hx
    have : seenB ways w.ino = true := xq7.2 ⟨w', hw', e⟩
    rw [hs] at this; cases this
  · intro x hx
    rcases List.mem_append.1 hx with hx | hx
    · exact h.dir x hx
    · simp only [List.mem_singleton] at hx; subst hx; exact hk
structure LI (b : Branch) (k : Nat) (s : WS) : Prop where
  wi : WI b s.1
  at' : k ≤ s.1.length
  tw : s.2.length ≤ 16 * k
structure FI (b : Branch) (t : Nat × WS) : Prop where
  li : LI b t.1 t.2
  all : t.1 = t.2.1.length
theorem LI.push {b : Branch} {k : Nat} {s : WS} (h : LI b k s) {w : Way} (hk : (nodeP b w.ino).kind = 1) (hs : seenB s.1 w.ino = false) : LI b k (s.1 ++ [w], s.2) :=
  ⟨h.wi.push hk hs, by have := h.at'; simp; omega, h.tw⟩
theorem FI.nil (b : Branch) : FI b (0, [], []) := ⟨⟨⟨by simp, by simp⟩, by simp, by simp⟩, rfl⟩
end Go.Proofs.YtapdjibjnfeipaaGreatDoor.AL

/- Plain laws of chapter 17: nodes, roots, parts, entries, steps. -/
set_option linter.all false
namespace Go.Proofs.YtapdjibjnfeipaaGreatDoor.AL
open Go Go.Proofs
structure NV (x : Node) : Prop where
  ents : x.entries.length ≤ 32
  has0 : 0 ≤ x.attr.has
  has1 : x.attr.has ≤ 31
structure PU (b : Branch) : Prop where
  len : b.nodes.length ≤ 30
  nodes : ∀ x ∈ b.nodes, NV x
structure SV (s : Stack) : Prop where
  up : PU s.upper
  low : PQ s.lowers
theorem NB.nv {x : Node} (h : NB x) : NV x := ⟨Nat.le_trans h.ents (by omega), h.has0, h.has1⟩
theorem SB.sv {s : Stack} (h : SB s) : SV s := ⟨⟨Nat.le_trans h.up.1 (by omega), fun x hx => (h.up.2 x hx).nv⟩, h.pq⟩
theorem xju (s : Stack) : (⟨(⟨s.geo.lowers, s.geo.inodes, s.geo.blocks, s.geo.log⟩ : Geo), (⟨s.upper.nodes⟩ : Branch), s.lowers⟩ : Stack) = s := rfl
theorem xyj {s : Stack} (h : SV s) (ino : Int) : xqb s ino = some (nodeP s.upper ino) := by
  unfold xqb nodeP
  split
  · rfl
  · split
    · rfl
    · rename_i h1 h2
      have := h.up.len
      rw [wr_in (by omega) (by omega), ix_of (by omega) (by omega)]
      have hlt : (ino - 1).toNat < s.upper.nodes.length := by omega
      simp only [Option.bind_some, List.getElem?_eq_getElem hlt, Option.getD_some]
theorem atv_eq {s : Stack} (h : SV s) (ino : Int) : xhd s.upper ino = some (nodeP s.upper ino) := by
  rw [← xyj h ino]
  rfl
theorem xp5 : NV x1g := ⟨by simp [x1g], by simp [x1g], by simp [x1g]⟩
theorem xzf {b : Branch} (h : PU b) (ino : Int) : NV (nodeP b ino) := by
  unfold nodeP
  split
  · exact xp5
  · split
    · exact xp5
    · rename_i h1 h2
      have hlt : (ino - 1).toNat < b.nodes.length := by omega
      simp only [List.getElem?_eq_getElem hlt, Option.getD_some]
      exact h.nodes _ (List.getElem_mem hlt)
theorem xd6 {b : Branch} {ino : Int} (h : ¬ (nodeP b ino).kind = 0) : 1 ≤ ino ∧ ino ≤ (b.nodes.length : Int) := by
  unfold nodeP at h
  split at h
  · exact absurd rfl h
  · split at h
    · exact absurd rfl h
    · omega
def opqV (n : Node) : Bool := decide (n.kind = 1) && opqQ n
theorem xkcb {n : Node} (h : NV n) : xmd n = some (opqQ n) := by
  have := x8r (n := { n with entries := [] }) ⟨by simp, h.has0, h.has1⟩
  exact this
theorem x3bb {n : Node} (h : NV n) : xod n = some (opqQ n) := by
  have := xyr (n := { n with entries := [] }) ⟨by simp, h.has0, h.has1⟩
  exact this
theorem xbx {n : Node} (h : NV n) : xue n = some (opqV n) := by
  have e : xue n = if n.kind = 1 then xmd n else some false := rfl
  rw [e, xkcb h]
  unfold opqV
  by_cases hk : n.kind = 1 <;> simp [hk]
theorem xtu {n : Node} (h : NV n) : xaf n = some (opqV n) := by
  unfold xaf
  rw [x3bb h]
  unfold opqV
  by_cases hk : n.kind = 1 <;> simp [hk]
def rootV (s : Stack) : View := ⟨if (nodeP s.upper 1).kind = 1 then 1 else 0, if opqV (nodeP s.upper 1) = true then [] else rootsQ s.lowers⟩
theorem xx1 {s : Stack} (h : SV s) : x6e s = some (rootV s) := by
  unfold x6e rootV
  rw [xju, xyj h]
  simp only [Option.bind_some]
  rw [xbx (xzf h.up 1), x81 h.low]
  simp only [Option.bind_some]
  by_cases hk : (nodeP s.upper 1).kind = 1
  · rw [if_pos hk, if_pos hk]
    cases opqV (nodeP s.upper 1) <;> rfl
  · rw [if_neg hk, if_neg hk]
    cases opqV (nodeP s.upper 1) <;> rfl
theorem x49 {s : Stack} (h : SV s) : xbi s = some (rootV s) := by
  unfold xbi rootV
  rw [atv_eq h]
  simp only [Option.bind_some]
  rw [xtu (xzf h.up 1), xj0 h.low]
  simp only [Option.bind_some]
  by_cases hk : (nodeP s.upper 1).kind = 1
  · rw [if_pos hk, if_pos hk]
    cases opqV (nodeP s.upper 1) <;> rfl
  · rw [if_neg hk, if_neg hk]
    have : ¬ opqV (nodeP s.upper 1) = true := by simp [opqV, hk]
    rw [if_neg this]
theorem xit {s : Stack} (h : SV s) : (rootV s).lower.length ≤ 3 := by
  show (if opqV (nodeP s.upper 1) = true then [] else rootsQ s.lowers).length ≤ 3
  split
  · simp
  · exact xzn h.low
theorem bits2 (k : Fin 32) : bAnd .i64 (k.val : Int) 2 = 0 ↔ ¬ (wr ((k.val : Int).tdiv 2)).tmod 2 = 1 := by
  revert k
  decide +kernel
def redB (n : Node) : Bool := decide ((wr (n.attr.has.tdiv 2)).tmod 2 = 1)
theorem xh5 {n : Node} (h : NV n) : bAnd .i64 n.attr.has 2 = 0 ↔ ¬ redB n = true := by
  have e : ((n.attr.has.toNat : Nat) : Int) = n.attr.has := by have := h.has0; omega
  have hb := bits2 ⟨n.attr.has.toNat, by have := h.has0; have := h.has1; omega⟩
  simp only [e] at hb
  rw [hb]
  simp [redB]
theorem x9ab {n : Node} (h : NV n) : x3f n.attr 2 = some (redB n) := by
  unfold x3f xsj redB ck
  rw [if_pos h.has0, if_pos (by decide)]
  simp only [Option.bind_some]
  by_cases hq : (wr (n.attr.has.tdiv 2)).tmod 2 = 1
  · rw [if_pos hq]; exact congrArg some (decide_eq_true hq).symm
  · rw [if_neg hq]; exact congrArg some (decide_eq_false hq).symm
theorem xhab (s : ByteArray) : xvd s = some (redirP s) := by
  by_cases h : s.size ≤ 100000
  · exact xo1 h
  · unfold xvd redirP
    rw [if_pos (by omega), if_pos (by omega)]
theorem x86 (s : ByteArray) : xld s = some (redirP s) := by
  by_cases h : s.size ≤ 100000
  · exact xuy h
  · unfold xld redirP
    rw [if_pos (by omega), if_pos (by omega)]
theorem xwx (s : ByteArray) : (redirP s).1.length ≤ 1000 := by
  unfold redirP
  split
  · simp
  · split
    · rename_i h1 h2
      unfold splitP
      split
      · simp
      · split
        · have := xur s; simp only; omega
        · simp
    · split <;> simp
theorem xkx {s : ByteArray} (h : (redirP s).2.2 = true) (h2 : ¬ (redirP s).2.1 = true) : ∃ x, (redirP s).1 = [x] := by
  unfold redirP at h h2 ⊢
  split
  · rename_i h1; rw [if_pos h1] at h; cases h
  · rename_i h1
    rw [if_neg h1] at h h2
    split
    · rename_i h3; rw [if_pos h3] at h h2; exact absurd h h2
    · rename_i h3
      rw [if_neg h3] at h
      split
      · exact ⟨_, rfl⟩
      · rename_i h4; rw [if_neg h4] at h; cases h
def dirsV (s : Stack) (l : List Place) (nm : ByteArray) : List Place := if (findQ s.lowers l nm).1 = 1 then (findQ s.lowers l nm).2 else []
def partV (s : Stack) (v : View) (n : Node) (nm : ByteArray) : List Place :=
  if n.kind = 1 then if opqQ n = true then [] else if redB n = true then
    if (redirP n.attr.redirect).2.2 = true then if (redirP n.attr.redirect).2.1 = true then (lookQ s.lowers (rootsQ s.lowers) (redirP n.attr.redirect).1).1 else dirsV s v.lower ((redirP n.attr.redirect).1.headD xo) else []
    else dirsV s v.lower nm else []
theorem xo5 {s : Stack} (h : SV s) {l : List Place} (hl : l.length ≤ 1000) (nm : ByteArray) : x7c s l nm = some (dirsV s l nm) := by
  unfold x7c dirsV
  rw [xtq h.low hl]
  simp only [Option.bind_some]
  split <;> rfl
theorem xc5 {s : Stack} (h : SV s) {v : View} (hv : v.lower.length ≤ 1000) {n : Node} (hn : NV n) (nm : ByteArray) : x6c s v n nm = some (partV s v n nm) := by
  unfold x6c partV
  by_cases hk : n.kind = 1
  · rw [if_pos hk, if_pos hk, xbx hn]
    have eo : opqV n = opqQ n := by simp [opqV, hk]
    rw [eo]
    simp only [Option.bind_some]
    by_cases ho : opqQ n = true
    · rw [if_pos ho, if_pos ho]
    · rw [if_neg ho, if_neg ho, if_neg (by have := hn.has0; omega), xo5 h hv]
      simp only [Option.bind_some]
      by_cases hr : redB n = true
      · rw [if_neg (fun e => (xh5 hn).1 e hr), if_pos hr, xhab]
        simp only [Option.bind_some]
        by_cases hok : (redirP n.attr.redirect).2.2 = true
        · rw [if_neg (by simp [hok]), if_pos hok]
          by_cases ha : (redirP n.attr.redirect).2.1 = true
          · have hrl := xzn h.low
            rw [if_pos ha, if_pos ha, x81 h.low]
            simp only [Option.bind_some]
            rw [x6cb h.low (by omega) (xwx _)]
            rfl
          · rw [if_neg ha, if_neg ha]
            obtain ⟨x, hx⟩ := xkx hok ha
            rw [hx]
            have : ix [x] 0 = some x := rfl
            rw [this]
            simp only [Option.bind_some, List.headD_cons]
            rw [xo5 h hv]
            rfl
        · rw [if_pos (by simpa using hok), if_neg hok]
      · rw [if_pos ((xh5 hn).2 hr), if_neg hr]
  · rw [if_neg hk, if_neg hk]
theorem xebb {s : Stack} (h : SV s) {v : View} (hv : v.lower.length ≤ 1000) (ino : Int) (nm : ByteArray) : xrj s v ino nm = some (partV s v (nodeP s.upper ino) nm) := by
  unfold xrj
  rw [xju, xyj h]
  simp only [Option.bind_some]
  rw [xc5 h hv (xzf h.up ino)]
  rfl
theorem xk2 {s : Stack} (h : SV s) {v : View} (hv : v.lower.length ≤ 1000) (ino : Int) (nm : ByteArray) : xgg s v ino nm = some (partV s v (nodeP s.upper ino) nm) := by
  unfold xgg
  rw [atv_eq h]
  simp only [Option.bind_some]
  have hn := xzf h.up ino
  generalize nodeP s.upper ino = n at hn
  unfold partV
  by_cases hk : n.kind = 1
  · rw [if_pos hk, if_pos hk, xtu hn]
    have eo : opqV n = opqQ n := by simp [opqV, hk]
    rw [eo]
    simp only [Option.bind_some]
    by_cases ho : opqQ n = true
    · rw [if_pos ho, if_pos ho]
    · rw [if_neg ho, if_neg ho, x9ab hn]
      simp only [Option.bind_some]
      by_cases hr : redB n = true
      · rw [if_pos hr, if_pos hr, x86]
        simp only [Option.bind_some]
        by_cases hok : (redirP n.attr.redirect).2.2 = true
        · rw [if_neg (by simp [hok]), if_pos hok]
          by_cases ha : (redirP n.attr.redirect).2.1 = true
          · have hrl := xzn h.low
            rw [if_pos ha, if_pos ha, xj0 h.low]
            simp only [Option.bind_some]
            rw [xw9 h.low (by omega) (xwx _)]
            rfl
          · rw [if_neg ha, if_neg ha]
            obtain ⟨x, hx⟩ := xkx hok ha
            rw [hx]
            have : ix [x] 0 = some x := rfl
            rw [this]
            simp only [Option.bind_some, List.headD_cons]
            rw [xip h.low hv]
            simp only [Option.bind_some, dirsV]
            split <;> rfl
        · rw [if_pos (by simpa using hok), if_neg hok]
      · rw [if_neg hr, if_neg hr, xip h.low hv]
        simp only [Option.bind_some, dirsV]
        split <;> rfl
  · rw [if_neg hk, if_neg hk]
theorem xzz (s : Stack) (l : List Place) (nm : ByteArray) : (dirsV s l nm).length ≤ l.length := by
  unfold dirsV
  split
  · exact xan _ _ _
  · simp
theorem xnt {s : Stack} (h : SV s) {v : View} {m : Nat} (hv : v.lower.length ≤ m) (hm : 3 ≤ m) (n : Node) (nm : ByteArray) : (partV s v n nm).length ≤ m := by
  unfold partV
  split
  · split
    · simp
    · split
      · split
        · split
          · have h1 := x3z (bs := s.lowers) (redirP n.attr.redirect).1 (rootsQ s.lowers)
            have h2 := xzn h.low
            omega
          · exact Nat.le_trans (xzz _ _ _) hv
        · simp
      · exact Nat.le_trans (xzz _ _ _) hv
  · simp
theorem xg7 {s : Stack} {v : View} {n : Node} {nm : ByteArray} (h : opqV n = true) : partV s v n nm = [] := by
  unfold opqV at h
  simp only [Bool.and_eq_true, decide_eq_true_eq] at h
  unfold partV
  rw [if_pos h.1, if_pos h.2]
def entF (s : Stack) (nm : ByteArray) (e : Entry) : Bool := decide (e.name = nm) && !decide ((nodeP s.upper e.ino).kind = 0)
def entV (s : Stack) (v : View) (nm : ByteArray) : Option Entry := if (nodeP s.upper v.upper).kind = 1 then (nodeP s.upper v.upper).entries.find? (entF s nm) else none
theorem x9bb {s : Stack} (h : SV s) (nm : ByteArray) (e : Entry) : x2c e nm s = some (entF s nm e) := by
  unfold x2c entF
  by_cases hn : e.name = nm
  · rw [if_pos hn, xyj h]
    simp only [Option.bind_some]
    by_cases hk : (nodeP s.upper e.ino).kind = 0 <;> simp [hk, hn]
  · rw [if_neg hn]; simp [hn]
theorem x32 {α : Type} {p : α → Option Bool} (f : α → Bool) : ∀ (l : List α) (i : Nat), (∀ x ∈ l, p x = some (f x)) → (l.find? f = none ∧ idxM p l i = some (-1)) ∨ ∃ (k : Nat) (hk : k < l.length), l.find? f = some l[k] ∧ idxM p l i = some (((i + k : Nat)) : Int)
  | [], i, _ => .inl ⟨rfl, rfl⟩
  | x :: l, i, h => by
    unfold idxM
    rw [h x (by simp), List.find?_cons]
    simp only [Option.bind_some]
    cases hf : f x with
    | true => exact .inr ⟨0, by simp, rfl, by simp⟩
    | false =>
      simp only [Bool.false_eq_true, if_false]
      rcases x32 f l (i + 1) (fun y hy => h y (by simp [hy])) with ⟨h1, h2⟩ | ⟨k, hk, h1, h2⟩
      · exact .inl ⟨h1, h2⟩
      · exact .inr ⟨k + 1, by simp; omega, by simpa using h1, by rw [h2]; congr 2; omega⟩
theorem xj6 {s : Stack} (h : SV s) (v : View) (nm : ByteArray) : xie s v nm = some (match entV s v nm with | some e => e.ino | none => 0) := by
  unfold xie entV
  rw [xyj h]
  simp only [Option.bind_some]
  have hn := (xzf h.up v.upper).ents
  by_cases hk : (nodeP s.upper v.upper).kind = 1
  · rw [if_pos hk, if_pos hk]
    unfold indexM ck
    rw [if_pos (by omega)]
    simp only [Option.bind_some]
    rcases x32 (entF s nm) (nodeP s.upper v.upper).entries 0 (fun x _ => x9bb h nm x) with ⟨h1, h2⟩ | ⟨k, hk, h1, h2⟩
    · rw [h1, h2]
      simp
    · rw [h1, h2]
      simp only [Option.bind_some, Nat.zero_add]
      rw [if_neg (by omega), ix_at hk]
      rfl
  · rw [if_neg hk, if_neg hk]
theorem x6v {s : Stack} (h : SV s) (v : View) (nm : ByteArray) : xze s v nm = some (match entV s v nm with | some e => (e, true) | none => (⟨0, 0, xo⟩, false)) := by
  unfold xze entV
  rw [atv_eq h]
  simp only [Option.bind_some]
  have hn := (xzf h.up v.upper).ents
  by_cases hk : (nodeP s.upper v.upper).kind = 1
  · rw [if_pos hk]
    rw [x5t (B := x5d s nm (nodeP s.upper v.upper)) (xs := (nodeP s.upper v.upper).entries) (fun e => if entF s nm e = true then some (e, true) else none) (by omega)]
    · simp only [Option.bind_some]
      have key : ∀ l : List Entry, l.findSome? (fun e => if entF s nm e = true then some (e, true) else none) = (l.find? (entF s nm)).map fun e => (e, true) := by
        intro l
        induction l with
        | nil => rfl
        | cons e l ih =>
          rw [List.findSome?_cons, List.find?_cons]
          cases hf : entF s nm e <;> simp [ih]
      rw [key]
      cases List.find? (entF s nm) (nodeP s.upper v.upper).entries <;> rfl
    · intro i hi
      simp only [x5d]
      rw [if_pos (by omega), if_pos hk, ix_at hi]
      simp only [Option.bind_some, entF]
      by_cases he : (nodeP s.upper v.upper).entries[i].name = nm
      · rw [if_pos he, atv_eq h]
        simp only [Option.bind_some]
        by_cases h0 : (nodeP s.upper (nodeP s.upper v.upper).entries[i].ino).kind = 0
        · rw [if_pos h0, wr_suc (by omega)]; simp [h0, he]
        · rw [if_neg h0]; simp [h0, he]
      · rw [if_neg he, wr_suc (by omega)]; simp [he]
    · simp only [x5d]
      rw [if_neg (by omega)]
  · rw [if_neg hk, show big = 999999999999999999 + 1 from rfl, x7e]
    simp only [x5d]
    by_cases h0 : (0 : Int) < ((nodeP s.upper v.upper).entries.length : Int)
    · rw [if_pos h0, if_neg hk]; rfl
    · rw [if_neg h0]; rfl
theorem xa0 {s : Stack} {v : View} {nm : ByteArray} {e : Entry} (h : entV s v nm = some e) : ¬ (nodeP s.upper e.ino).kind = 0 ∧ (nodeP s.upper v.upper).kind = 1 ∧ e ∈ (nodeP s.upper v.upper).entries ∧ e.name = nm := by
  unfold entV at h
  split at h
  · rename_i hk
    have h1 := List.find?_some h
    have h2 := List.mem_of_find?_eq_some h
    unfold entF at h1
    simp only [Bool.and_eq_true, decide_eq_true_eq, Bool.not_eq_true', decide_eq_false_iff_not] at h1
    exact ⟨h1.2, hk, h2, h1.1⟩
  · cases h
def lowV (r : Int × List Place) : Int × View × Place := if r.1 = 0 then (0, ⟨0, []⟩, ⟨0, 0⟩) else if r.1 = 1 then (r.1, ⟨0, r.2⟩, r.2.headD ⟨0, 0⟩) else (r.1, ⟨0, []⟩, r.2.headD ⟨0, 0⟩)
def upV (s : Stack) (v : View) (nm : ByteArray) (e : Entry) : Int × View × Place :=
  if (nodeP s.upper e.ino).kind = 1 then (1, ⟨e.ino, partV s v (nodeP s.upper e.ino) nm⟩, ⟨0, e.ino⟩)
  else if (nodeP s.upper e.ino).kind = 2 then ((nodeP s.upper e.ino).kind, ⟨0, []⟩, ⟨0, e.ino⟩)
  else if (nodeP s.upper e.ino).kind = 3 then ((nodeP s.upper e.ino).kind, ⟨0, []⟩, ⟨0, e.ino⟩) else (0, ⟨0, []⟩, ⟨0, 0⟩)
def stpV (s : Stack) (v : View) (nm : ByteArray) : Int × View × Place := match entV s v nm with
  | some e => upV s v nm e
  | none => lowV (findQ s.lowers v.lower nm)
theorem low_eq {bs : List Branch} {l : List Place} {nm : ByteArray} : (if (findQ bs l nm).1 = 0 then some (0, (⟨0, []⟩ : View), (⟨0, 0⟩ : Place)) else if (findQ bs l nm).1 = 1 then (ix (findQ bs l nm).2 0).bind fun p => some ((findQ bs l nm).1, (⟨0, (findQ bs l nm).2⟩ : View), p) else (ix (findQ bs l nm).2 0).bind fun p => some ((findQ bs l nm).1, (⟨0, []⟩ : View), p)) = some (lowV (findQ bs l nm)) := by
  have hq := xqx bs l nm
  generalize findQ bs l nm = r at hq
  unfold lowV
  by_cases h0 : r.1 = 0
  · rw [if_pos h0, if_pos h0]
  · rw [if_neg h0, if_neg h0]
    have hs := hq.some.resolve_left h0
    obtain ⟨k, l⟩ := r
    cases l with
    | nil => simp at hs
    | cons p l =>
      have : ix (p :: l) 0 = some p := rfl
      simp only [this, Option.bind_some, List.headD_cons]
      split <;> rfl
theorem xlv {s : Stack} (h : SV s) {v : View} (hv : v.lower.length ≤ 1000) (nm : ByteArray) : xsd s v nm = some (stpV s v nm) := by
  unfold xsd stpV
  rw [xju, xj6 h]
  simp only [Option.bind_some]
  cases he : entV s v nm with
  | none =>
    simp only
    rw [if_neg (by omega), xtq h.low hv]
    exact low_eq
  | some e =>
    obtain ⟨h1, h2, h3, h4⟩ := xa0 he
    have := xd6 h1
    simp only
    rw [if_pos (by omega), xyj h]
    simp only [Option.bind_some]
    rw [xc5 h hv (xzf h.up e.ino)]
    simp only [Option.bind_some]
    unfold upV
    split
    · rfl
    · split
      · rfl
      · split <;> rfl
theorem xa3 {s : Stack} (h : SV s) {v : View} (hv : v.lower.length ≤ 1000) (nm : ByteArray) : xng s v nm = some (stpV s v nm) := by
  unfold xng stpV
  rw [x6v h]
  simp only [Option.bind_some]
  cases he : entV s v nm with
  | none =>
    simp only [Bool.false_eq_true, if_false]
    rw [xip h.low hv]
    exact low_eq
  | some e =>
    simp only [if_true]
    rw [atv_eq h]
    simp only [Option.bind_some]
    rw [xk2 h hv]
    simp only [Option.bind_some]
    unfold upV
    split
    · rfl
    · split
      · rfl
      · split <;> rfl
theorem x3ab {s : Stack} (h : SV s) {v : View} {m : Nat} (hv : v.lower.length ≤ m) (hm : 3 ≤ m) (nm : ByteArray) : (stpV s v nm).2.1.lower.length ≤ m := by
  unfold stpV
  split
  · unfold upV
    split
    · exact xnt h hv hm _ _
    · split
      · simp
      · split <;> simp
  · unfold lowV
    split
    · simp
    · split
      · exact Nat.le_trans (xan _ _ _) hv
      · simp
end Go.Proofs.YtapdjibjnfeipaaGreatDoor.AL

/- Plain laws, part 2: the program's walk; what is common. -/
set_option linter.all false
namespace Go.Proofs.YtapdjibjnfeipaaGreatDoor.AL
open Go Go.Proofs
theorem xl7 (m : List (Int × Int)) (k v k' : Int) : mget (mset m k v) k' = if k' = k then v else mget m k' := by
  induction m with
  | nil =>
    unfold mget mset
    by_cases h : k' = k
    · subst h; simp
    · have : (k' == k) = false := by simpa using h
      simp [this, h]
  | cons p m ih =>
    unfold mset
    by_cases h : k = p.1
    · rw [if_pos h]
      unfold mget
      by_cases h' : k' = k
      · subst h'; simp [h]
      · have : (k' == p.1) = false := by simp; omega
        simp [this, h']
    · rw [if_neg h]
      unfold mget at ih ⊢
      by_cases h' : k' = p.1
      · have h2 : ¬ k' = k := by omega
        have : (k' == p.1) = true := by simpa using h'
        simp [this, h2]
      · have : (k' == p.1) = false := by simpa using h'
        simpa [List.find?_cons, this] using ih
abbrev MS := WS × List (Int × Int)
def SM (t : MS) : Prop := ∀ ino, mget t.2 ino = if seenB t.1.1 ino = true then 1 else 0
theorem xk6 (ways : List Way) (w : Way) (ino : Int) : seenB (ways ++ [w]) ino = (seenB ways ino || decide (w.ino = ino)) := by simp [seenB]
theorem SM.push {t : MS} (h : SM t) (r : Int) (hs : seenB t.1.1 r = false) : SM ((t.1.1 ++ [⟨r, -1, xo⟩], t.1.2), mset t.2 r 1) := by
  intro i
  rw [xl7, xk6, h i]
  by_cases hi : i = r
  · subst hi; simp
  · have : ¬ r = i := fun h => hi h.symm
    simp [hi, this]
end Go.Proofs.YtapdjibjnfeipaaGreatDoor.AL

/- Plain laws, part 2: the program's walk is the document's: as walk_Dirs has it. -/
set_option linter.all false
namespace Go.Proofs.YtapdjibjnfeipaaGreatDoor.AL
open Go Go.Proofs
end Go.Proofs.YtapdjibjnfeipaaGreatDoor.AL

/- Plain laws of the walk: each way stands behind the one that names it. -/
set_option linter.all false
namespace Go.Proofs.YtapdjibjnfeipaaGreatDoor.AL
open Go Go.Proofs
def UpI (fr : List Int) (ws : List Way) : Prop := ∀ (i : Nat) (w : Way), ws[i]? = some w → w.up < (i : Int) ∧ (w.up < 0 → w.ino ∈ fr)
theorem UpI.push {fr : List Int} {ws : List Way} (h : UpI fr ws) {w : Way} (h1 : w.up < (ws.length : Int)) (h2 : w.up < 0 → w.ino ∈ fr) : UpI fr (ws ++ [w]) := by
  intro i v hv
  rw [List.getElem?_append] at hv
  split at hv
  · exact h i v hv
  · rename_i hi
    have hi2 : i - ws.length = 0 := by
      have := (List.getElem?_eq_some_iff.1 hv).1
      simp at this
      omega
    rw [hi2] at hv
    obtain rfl : w = v := by simpa using hv
    exact ⟨by omega, h2⟩
end Go.Proofs.YtapdjibjnfeipaaGreatDoor.AL

