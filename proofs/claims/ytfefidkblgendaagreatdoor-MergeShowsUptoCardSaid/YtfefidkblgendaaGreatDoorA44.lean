/- What any node of any stack should say of copies, and which say otherwise, is what the document says: part 44 of 51. -/
import Derived.Test.YtfefidkblgendaaGreatDoorA43
set_option linter.all false
/- Models of functions, and that the functions are as their models: written by gen.py. -/
set_option linter.all false
set_option maxRecDepth 100000
namespace Go.Proofs.YtfefidkblgendaaGreatDoor.AL
open Go Go.Proofs
def x7e (a0 : Node) : Option (Bool) := if a0.kind = 1 then (xid a0).bind fun v3 => some v3
 else some false
def x6l := aI (aI (@EV) (aI (@R3) (@R71))) (aI (aI (@DOrigin) (@DAttr)) (aI (@DNode) (@DEntry)))
set_option maxHeartbeats 2000000 in
theorem xnq (a0 : Node) (r : Bool) (hm0 : x7e a0 = some r) : Ok Tryz.prog 71 [xo a0] (bool r) := by
 unfold x7e at hm0
 refine okG xrz ?_
 unfold xgr
 rcases iteE hm0 with ⟨e2, hm0⟩ | ⟨e2, hm0⟩
 · obtain ⟨v3, h4, hm0⟩ := bsE hm0
   simp only [e2, x6l, ↓EVd, isCall, sevalprocAttr]
   refine qc (xbl _ _ h4) rfl ?_
   obtain rfl := Option.some.inj hm0
   simp only [e2, x6l, ↓EVd, isCall, sevalprocAttr]
   all_goals first | done | rfl
 obtain rfl := Option.some.inj hm0
 simp only [e2, x6l, ↓EVd, isCall, sevalprocAttr]
 all_goals first | done | rfl
def x9h (a0 : Stack) : Option (View) := (x3c a0.upper 1).bind fun v1 => if v1.kind = 1 then (x7e v1).bind fun v5 => if v5 = true then some (⟨1, []⟩ : View)
 else (xye a0).bind fun v9 => some (⟨1, v9⟩ : View)
 else (xye a0).bind fun v12 => some (⟨0, v12⟩ : View)
def xef := aI (aI (aI (@EV) (aI (@R3) (@R26))) (aI (aI (@R29) (@R42)) (aI (@R71) (@DBranch)))) (aI (aI (@DStack) (aI (@DView) (@DPlace))) (aI (aI (@DOrigin) (@DAttr)) (aI (@DNode) (@DEntry))))
set_option maxHeartbeats 2000000 in
theorem xe3 (a0 : Stack) (r : View) (hm0 : x9h a0 = some r) : Ok Tryz.prog 36 [xf a0] (xn r) := by
 unfold x9h at hm0
 refine okG xl3 ?_
 unfold xsu
 obtain ⟨v1, h2, hm0⟩ := bsE hm0
 simp only [xef, ↓EVd, isCall, sevalprocAttr]
 refine qc (x5e _ _ _ h2) rfl ?_
 rcases iteE hm0 with ⟨e4, hm0⟩ | ⟨e4, hm0⟩
 · obtain ⟨v5, h6, hm0⟩ := bsE hm0
   simp only [e4, xef, ↓EVd, isCall, sevalprocAttr]
   refine qc (xnq _ _ h6) rfl ?_
   rcases itbE hm0 with ⟨e8, hm0⟩ | ⟨e8, hm0⟩
   · obtain rfl := Option.some.inj hm0
     simp only [e4, e8, xef, ↓EVd, isCall, sevalprocAttr]
     all_goals first | done | rfl | exact xb (by simp only [CLO]) | exact xe (by simp only [CLO]) (Sub.agg (Subs.cons (Sub.refl _) (Subs.cons (Sub.nilS _) (Subs.nil))))
   obtain ⟨v9, h10, hm0⟩ := bsE hm0
   simp only [e4, e8, xef, ↓EVd, isCall, sevalprocAttr]
   refine qc (x9l _ _ h10) rfl ?_
   have e11 : (.agg [int 1, .sl 2 (v9.map xc)] : AV) = xn (⟨1, v9⟩ : View) := _root_.id rfl
   obtain rfl := Option.some.inj hm0
   simp only [e4, e8, e11, xef, ↓EVd, isCall, sevalprocAttr]
   all_goals first | done | rfl | exact xb (by simp only [CLO])
 obtain ⟨v12, h13, hm0⟩ := bsE hm0
 simp only [e4, xef, ↓EVd, isCall, sevalprocAttr]
 refine qc (x9l _ _ h13) rfl ?_
 have e14 : (.agg [int 0, .sl 2 (v12.map xc)] : AV) = xn (⟨0, v12⟩ : View) := _root_.id rfl
 obtain rfl := Option.some.inj hm0
 simp only [e4, e14, xef, ↓EVd, isCall, sevalprocAttr]
 all_goals first | done | rfl | exact xb (by simp only [CLO])
def x6h (a0 : Stack) (a1 : View) (a2 : Int) (a3 : ByteArray) : Option (List Place) := (x3c a0.upper a2).bind fun v1 => if v1.kind = 1 then (x7e v1).bind fun v5 => if v5 = true then some []
 else (x9c v1.attr 2).bind fun v9 => if v9 = true then (xdd v1.attr.redirect).bind fun v13 => if (!v13.2.2) = true then some []
 else if v13.2.1 = true then (xye a0).bind fun v19 => (x8h a0 v19 v13.1).bind fun v21 => some v21.1
 else (ix v13.1 0).bind fun v23 => (xcd a0 a1.lower v23).bind fun v26 => if v26.1 = 1 then some v26.2
 else some []
 else (xcd a0 a1.lower a3).bind fun v30 => if v30.1 = 1 then some v30.2
 else some []
 else some []
def x1b := aI (aI (aI (aI (@EV) (@R3)) (aI (@R9) (aI (@R26) (@R29)))) (aI (aI (@R31) (@R40)) (aI (@R42) (aI (@R44) (@R69))))) (aI (aI (aI (@R71) (@DBranch)) (aI (@DStack) (aI (@DView) (@DPlace)))) (aI (aI (@DOrigin) (@DAttr)) (aI (@DNode) (aI (@DEntry) (@mixed)))))
set_option maxHeartbeats 2000000 in
theorem xr3 (a0 : Stack) (a1 : View) (a2 : Int) (a3 : ByteArray) (r : List Place) (hm0 : x6h a0 a1 a2 a3 = some r) : Ok Tryz.prog 73 [xf a0, xn a1, int a2, str a3] (.sl 2 (r.map xc)) := by
 unfold x6h at hm0
 refine okG xs3 ?_
 unfold x2t
 obtain ⟨v1, h2, hm0⟩ := bsE hm0
 simp only [x1b, ↓EVd, isCall, sevalprocAttr]
 refine qc (x5e _ _ _ h2) rfl ?_
 rcases iteE hm0 with ⟨e4, hm0⟩ | ⟨e4, hm0⟩
 · obtain ⟨v5, h6, hm0⟩ := bsE hm0
   simp only [e4, x1b, ↓EVd, isCall, sevalprocAttr]
   refine qc (xnq _ _ h6) rfl ?_
   rcases itbE hm0 with ⟨e8, hm0⟩ | ⟨e8, hm0⟩
   · obtain rfl := Option.some.inj hm0
     simp only [e4, e8, x1b, ↓EVd, isCall, sevalprocAttr]
     all_goals first | done | rfl | exact xe (by simp only [CLO]) (Sub.nilS _)
   obtain ⟨v9, h10, hm0⟩ := bsE hm0
   simp only [e4, e8, x1b, ↓EVd, isCall, sevalprocAttr]
   refine qc (xwl _ _ _ h10) rfl ?_
   rcases itbE hm0 with ⟨e12, hm0⟩ | ⟨e12, hm0⟩
   · obtain ⟨v13, h14, hm0⟩ := bsE hm0
     simp only [e4, e8, e12, x1b, ↓EVd, isCall, sevalprocAttr]
     refine qc (xjw _ _ h14) rfl ?_
     rcases itbE hm0 with ⟨e16, hm0⟩ | ⟨e16, hm0⟩
     · obtain rfl := Option.some.inj hm0
       simp only [e4, e8, e12, e16, x1b, ↓EVd, isCall, sevalprocAttr]
       all_goals first | done | rfl | exact xe (by simp only [CLO]) (Sub.nilS _)
     rcases itbE hm0 with ⟨e18, hm0⟩ | ⟨e18, hm0⟩
     · obtain ⟨v19, h20, hm0⟩ := bsE hm0
       simp only [e4, e8, e12, e16, e18, x1b, ↓EVd, isCall, sevalprocAttr]
       refine qd (x9l _ _ h20) rfl ?_
       obtain ⟨v21, h22, hm0⟩ := bsE hm0
       simp only [e4, e8, e12, e16, e18, x1b, ↓EVd, isCall, sevalprocAttr]
       refine qd (x32 _ _ _ _ h22) rfl ?_
       obtain rfl := Option.some.inj hm0
       simp only [e4, e8, e12, e16, e18, x1b, ↓EVd, isCall, sevalprocAttr]
       all_goals first | done | rfl | exact xb (by simp only [CLO])
     obtain ⟨v23, e25, hm0⟩ := ixE str hm0
     try simp only [sevalprocAttr, eq_self, true_and] at e25
     obtain ⟨v26, h27, hm0⟩ := bsE hm0
     simp only [e4, e8, e12, e16, e18, e25, x1b, ↓EVd, isCall, sevalprocAttr]
     refine qc (xch _ _ _ _ h27) rfl ?_
     rcases iteE hm0 with ⟨e29, hm0⟩ | ⟨e29, hm0⟩
     · obtain rfl := Option.some.inj hm0
       simp only [e4, e8, e12, e16, e18, e25, e29, x1b, ↓EVd, isCall, sevalprocAttr]
       all_goals first | done | rfl | exact xb (by simp only [CLO])
     obtain rfl := Option.some.inj hm0
     simp only [e4, e8, e12, e16, e18, e25, e29, x1b, ↓EVd, isCall, sevalprocAttr]
     all_goals first | done | rfl | exact xe (by simp only [CLO]) (Sub.nilS _)
   obtain ⟨v30, h31, hm0⟩ := bsE hm0
   simp only [e4, e8, e12, x1b, ↓EVd, isCall, sevalprocAttr]
   refine qc (xch _ _ _ _ h31) rfl ?_
   rcases iteE hm0 with ⟨e33, hm0⟩ | ⟨e33, hm0⟩
   · obtain rfl := Option.some.inj hm0
     simp only [e4, e8, e12, e33, x1b, ↓EVd, isCall, sevalprocAttr]
     all_goals first | done | rfl | exact xb (by simp only [CLO])
   obtain rfl := Option.some.inj hm0
   simp only [e4, e8, e12, e33, x1b, ↓EVd, isCall, sevalprocAttr]
   all_goals first | done | rfl | exact xe (by simp only [CLO]) (Sub.nilS _)
 obtain rfl := Option.some.inj hm0
 simp only [e4, x1b, ↓EVd, isCall, sevalprocAttr]
 all_goals first | done | rfl | exact xe (by simp only [CLO]) (Sub.nilS _)
def x6d (a0 : Stack) (a2 : ByteArray) (v1 : Node) : Int → Option (St (Int) ((Unit) ⊕ (Entry × Bool)))
 | v4 => if v4 < (v1.entries.length : Int) then if v1.kind = 1 then (ix v1.entries v4).bind fun v10 => if v10.name = a2 then (x3c a0.upper v10.ino).bind fun v15 => if v15.kind = 0 then some (.nx (wr (v4 + 1)))
 else some (.out (.inr (v10, true)))
 else some (.nx (wr (v4 + 1)))
 else some (.out (.inl ()))
 else some (.out (.inl ()))
def xih (a0 : Stack) (a1 : View) (a2 : ByteArray) : Option (Entry × Bool) := (x3c a0.upper a1.upper).bind fun v1 => (iter (x6d a0 a2 v1) big 0).bind fun o => (match o with
 | (.inl _) => some ((⟨0, 0, xl⟩ : Entry), false)
 | (.inr r) => some r)
def x4b := aI (aI (aI (aI (@EV) (@R3)) (aI (@R9) (@R26))) (aI (aI (@R29) (@R42)) (aI (@R65) (aI (@R71) (@R76))))) (aI (aI (aI (@DBranch) (@DStack)) (aI (@DView) (@DPlace))) (aI (aI (@DOrigin) (@DAttr)) (aI (@DNode) (aI (@DEntry) (@mixed)))))
set_option maxHeartbeats 2000000 in
theorem xo0 (a0 : Stack) (a1 : View) (a2 : ByteArray) (r : Entry × Bool) (hm0 : xih a0 a1 a2 = some r) : Ok Tryz.prog 72 [xf a0, xn a1, str a2] (.tup [xab r.1, bool r.2]) := by
 unfold xih at hm0
 refine okG xu0 ?_
 unfold xls
 obtain ⟨v1, h2, hm0⟩ := bsE hm0
 simp only [x4b, ↓EVd, isCall, sevalprocAttr]
 refine qc (x5e _ _ _ h2) rfl ?_
 obtain ⟨o0, ho0, hm0⟩ := bsE hm0
 simp only [x4b, ↓EVd, isCall, sevalprocAttr]
 refine cwp_cx 0 (fun s => (s.T 6 = .loc 2 3 0 0 ∧ s.H 2 = some (.row 76 3 [.agg [int 0, int 0, str xl]]) ∧ Lq 2 s.nx) ∧ (.inl ()) = o0) ?_ fun J0_0 hJ0_0 => ?_
 · rintro T0 H0 x5 ⟨kk0_0, rfl⟩
   dsimp only [Lq, Nq] at kk0_0
   try dsimp only at hm0
   have e19 : (.agg [int 0, int 0, str xl] : AV) = xab (⟨0, 0, xl⟩ : Entry) := _root_.id rfl
   obtain rfl := Option.some.inj hm0
   simp only [kk0_0, e19, x4b, ↓EVd, isCall, sevalprocAttr]
   all_goals first | done | rfl | exact xb (by simp only [CLO]) | exact xe (by simp only [CLO]) (Sub.tup (Subs.cons (Sub.refl _) (Subs.cons (Sub.refl _) (Subs.nil))))
 refine cwp_lp ho0 (fun v4 s => s.T 2 = str a2 ∧ s.T 3 = .loc 0 6 0 0 ∧ s.T 6 = .loc 2 3 0 0 ∧ s.T 8 = .loc 9 13 0 0 ∧ s.T 9 = int v4 ∧ s.H 0 = some (.row 29 6 [xf a0]) ∧ s.H 2 = some (.row 76 3 [.agg [int 0, int 0, str xl]]) ∧ s.H 9 = some (.row 71 13 [xo v1]) ∧ Lq 0 s.nx ∧ Lq 2 s.nx ∧ Lq 9 s.nx) ?_ ?_
 · refine TI.here ⟨?_, ?_, ?_, ?_, ?_, ?_, ?_, ?_, ?_, ?_, ?_⟩
   all_goals try simp only [x4b, ↓EVd, isCall, sevalprocAttr]
   all_goals first | omega | exact lq (by omega) | exact nq (by omega) | rfl | (congr 1; omega)
 rintro I0 v4 T0 H0 x3 st0 kk0 hm1 hI0 hO0
 dsimp only [Lq, Nq] at kk0
 simp only [x6d] at hm1
 rcases iteE hm1 with ⟨e7, hm1⟩ | ⟨e7, hm1⟩
 · rcases iteE hm1 with ⟨e9, hm1⟩ | ⟨e9, hm1⟩
   · obtain ⟨v10, e12, hm1⟩ := ixE xab hm1
     rcases iteE hm1 with ⟨e14, hm1⟩ | ⟨e14, hm1⟩
     · obtain ⟨v15, h16, hm1⟩ := bsE hm1
       simp only [kk0, e7, e9, e12, e14, x4b, ↓EVd, isCall, sevalprocAttr]
       refine qd (x5e _ _ _ h16) rfl ?_
       rcases iteE hm1 with ⟨e18, hm1⟩ | ⟨e18, hm1⟩
       · obtain rfl := Option.some.inj hm1
         simp only [kk0, e7, e9, e12, e14, e18, x4b, ↓EVd, isCall, sevalprocAttr]
         refine TI.here (hI0 _ rfl _ ⟨?_, ?_, ?_, ?_, ?_, ?_, ?_, ?_, ?_, ?_, ?_⟩)
         all_goals try simp only [kk0, e7, e9, e12, e14, e18, x4b, ↓EVd, isCall, sevalprocAttr]
         all_goals first | omega | exact lq (by omega) | exact nq (by omega) | rfl | (congr 1; omega)
       obtain rfl := Option.some.inj hm1
       obtain rfl := hO0 _ rfl
       try dsimp only at hm0
       obtain rfl := Option.some.inj hm0
       simp only [kk0, e7, e9, e12, e14, e18, x4b, ↓EVd, isCall, sevalprocAttr]
       all_goals first | done | rfl | exact xb (by simp only [CLO]) | exact xe (by simp only [CLO]) (Sub.tup (Subs.cons (Sub.refl _) (Subs.cons (Sub.refl _) (Subs.nil))))
     obtain rfl := Option.some.inj hm1
     simp only [kk0, e7, e9, e12, e14, x4b, ↓EVd, isCall, sevalprocAttr]
     refine TI.here (hI0 _ rfl _ ⟨?_, ?_, ?_, ?_, ?_, ?_, ?_, ?_, ?_, ?_, ?_⟩)
     all_goals try simp only [kk0, e7, e9, e12, e14, x4b, ↓EVd, isCall, sevalprocAttr]
     all_goals first | omega | exact lq (by omega) | exact nq (by omega) | rfl | (congr 1; omega)
   obtain rfl := Option.some.inj hm1
   simp only [kk0, e7, e9, x4b, ↓EVd, isCall, sevalprocAttr]
   refine TI.here (hJ0_0 _ ⟨⟨?_, ?_, ?_⟩, hO0 _ rfl⟩)
   all_goals try simp only [kk0, e7, e9, x4b, ↓EVd, isCall, sevalprocAttr]
   all_goals first | omega | exact lq (by omega) | exact nq (by omega) | rfl | (congr 1; omega)
 obtain rfl := Option.some.inj hm1
 simp only [kk0, e7, x4b, ↓EVd, isCall, sevalprocAttr]
 refine TI.here (hJ0_0 _ ⟨⟨?_, ?_, ?_⟩, hO0 _ rfl⟩)
 all_goals try simp only [kk0, e7, x4b, ↓EVd, isCall, sevalprocAttr]
 all_goals first | omega | exact lq (by omega) | exact nq (by omega) | rfl | (congr 1; omega)
def xje (a0 : Stack) (a1 : View) (a2 : ByteArray) : Option (Int × View × Place) := (xih a0 a1 a2).bind fun v1 => if v1.2 = true then (x3c a0.upper v1.1.ino).bind fun v5 => if v5.kind = 1 then (x6h a0 a1 v1.1.ino a2).bind fun v9 => some (1, (⟨v1.1.ino, v9⟩ : View), (⟨0, v1.1.ino⟩ : Place))
 else if v5.kind = 2 then some (v5.kind, (⟨0, []⟩ : View), (⟨0, v1.1.ino⟩ : Place))
 else if v5.kind = 3 then some (v5.kind, (⟨0, []⟩ : View), (⟨0, v1.1.ino⟩ : Place))
 else some (0, (⟨0, []⟩ : View), (⟨0, 0⟩ : Place))
 else (xcd a0 a1.lower a2).bind fun v20 => if v20.1 = 0 then some (0, (⟨0, []⟩ : View), (⟨0, 0⟩ : Place))
 else if v20.1 = 1 then (ix v20.2 0).bind fun v28 => some (v20.1, (⟨0, v20.2⟩ : View), v28)
 else (ix v20.2 0).bind fun v31 => some (v20.1, (⟨0, []⟩ : View), v31)
def xyb := aI (aI (aI (aI (@EV) (@R3)) (aI (@R9) (@R26))) (aI (aI (@R29) (@R40)) (aI (@R42) (aI (@R44) (@R71))))) (aI (aI (aI (@R76) (@DBranch)) (aI (@DStack) (aI (@DView) (@DPlace)))) (aI (aI (@DOrigin) (@DAttr)) (aI (@DNode) (aI (@DEntry) (@mixed)))))
set_option maxHeartbeats 2000000 in
theorem x7j (a0 : Stack) (a1 : View) (a2 : ByteArray) (r : Int × View × Place) (hm0 : xje a0 a1 a2 = some r) : Ok Tryz.prog 37 [xf a0, xn a1, str a2] (.tup [int r.1, xn r.2.1, xc r.2.2]) := by
 unfold xje at hm0
 refine okG x62 ?_
 unfold x7t
 obtain ⟨v1, h2, hm0⟩ := bsE hm0
 simp only [xyb, ↓EVd, isCall, sevalprocAttr]
 refine qc (xo0 _ _ _ _ h2) rfl ?_
 rcases itbE hm0 with ⟨e4, hm0⟩ | ⟨e4, hm0⟩
 · obtain ⟨v5, h6, hm0⟩ := bsE hm0
   simp only [e4, xyb, ↓EVd, isCall, sevalprocAttr]
   refine qc (x5e _ _ _ h6) rfl ?_
   rcases iteE hm0 with ⟨e8, hm0⟩ | ⟨e8, hm0⟩
   · simp only [e4, e8, xyb, ↓EVd, isCall, sevalprocAttr]
     refine fineI [([], []), ([12], []), ([0], []), ([1], []), ([], []), ([12], []), ([], []), ([], []), ([], []), ([], []), ([12], []), ([], []), ([], []), ([], [3]), ([], [4])] rfl (by simp only [MT, sevalprocAttr]; first | done | omega) ?_
     obtain ⟨v9, h10, hm0⟩ := bsE hm0
     simp only [e4, e8, xyb, ↓EVd, isCall, sevalprocAttr]
     refine qv (xr3 _ _ _ _ _ h10) rfl ?_
     have e11 : (.agg [int v1.1.ino, .sl 2 (v9.map xc)] : AV) = xn (⟨v1.1.ino, v9⟩ : View) := _root_.id rfl
     have e12 : (.agg [int 0, int v1.1.ino] : AV) = xc (⟨0, v1.1.ino⟩ : Place) := _root_.id rfl
     obtain rfl := Option.some.inj hm0
     simp only [e4, e8, e11, e12, xyb, ↓EVd, isCall, sevalprocAttr]
     all_goals first | done | rfl | exact xb (by simp only [CLO]) | exact xe (by simp only [CLO]) (Sub.tup (Subs.cons (Sub.refl _) (Subs.cons (Sub.refl _) (Subs.cons (Sub.refl _) (Subs.nil)))))
   rcases iteE hm0 with ⟨e14, hm0⟩ | ⟨e14, hm0⟩
   · simp only [e4, e8, e14, xyb, ↓EVd, isCall, sevalprocAttr]
     refine fineI [([], []), ([21], []), ([], []), ([], []), ([12], []), ([], []), ([], []), ([], [3]), ([], [4])] rfl (by simp only [MT, sevalprocAttr]; first | done | omega) ?_
     have e15 : (.agg [int 0, int v1.1.ino] : AV) = xc (⟨0, v1.1.ino⟩ : Place) := _root_.id rfl
     obtain rfl := Option.some.inj hm0
     simp only [e4, e8, e14, e15, xyb, ↓EVd, isCall, sevalprocAttr]
     all_goals first | done | rfl | exact xb (by simp only [CLO]) | exact xe (by simp only [CLO]) (Sub.tup (Subs.cons (Sub.refl _) (Subs.cons (Sub.agg (Subs.cons (Sub.refl _) (Subs.cons (Sub.nilS _) (Subs.nil)))) (Subs.cons (Sub.refl _) (Subs.nil)))))
   rcases iteE hm0 with ⟨e17, hm0⟩ | ⟨e17, hm0⟩
   · simp only [e4, e8, e14, e17, xyb, ↓EVd, isCall, sevalprocAttr]
     refine fineI [([], []), ([21], []), ([], []), ([], []), ([12], []), ([], []), ([], []), ([], [3]), ([], [4])] rfl (by simp only [MT, sevalprocAttr]; first | done | omega) ?_
     have e18 : (.agg [int 0, int v1.1.ino] : AV) = xc (⟨0, v1.1.ino⟩ : Place) := _root_.id rfl
     obtain rfl := Option.some.inj hm0
     simp only [e4, e8, e14, e17, e18, xyb, ↓EVd, isCall, sevalprocAttr]
     all_goals first | done | rfl | exact xb (by simp only [CLO]) | exact xe (by simp only [CLO]) (Sub.tup (Subs.cons (Sub.refl _) (Subs.cons (Sub.agg (Subs.cons (Sub.refl _) (Subs.cons (Sub.nilS _) (Subs.nil)))) (Subs.cons (Sub.refl _) (Subs.nil)))))
   have e19 : (.agg [int 0, int 0] : AV) = xc (⟨0, 0⟩ : Place) := _root_.id rfl
   obtain rfl := Option.some.inj hm0
   simp only [e4, e8, e14, e17, e19, xyb, ↓EVd, isCall, sevalprocAttr]
   all_goals first | done | rfl | exact xb (by simp only [CLO]) | exact xe (by simp only [CLO]) (Sub.tup (Subs.cons (Sub.refl _) (Subs.cons (Sub.agg (Subs.cons (Sub.refl _) (Subs.cons (Sub.nilS _) (Subs.nil)))) (Subs.cons (Sub.refl _) (Subs.nil)))))
 obtain ⟨v20, h21, hm0⟩ := bsE hm0
 simp only [e4, xyb, ↓EVd, isCall, sevalprocAttr]
 refine qc (xch _ _ _ _ h21) rfl ?_
 rcases iteE hm0 with ⟨e23, hm0⟩ | ⟨e23, hm0⟩
 · have e24 : (.agg [int 0, int 0] : AV) = xc (⟨0, 0⟩ : Place) := _root_.id rfl
   obtain rfl := Option.some.inj hm0
   simp only [e4, e23, e24, xyb, ↓EVd, isCall, sevalprocAttr]
   all_goals first | done | rfl | exact xb (by simp only [CLO]) | exact xe (by simp only [CLO]) (Sub.tup (Subs.cons (Sub.refl _) (Subs.cons (Sub.agg (Subs.cons (Sub.refl _) (Subs.cons (Sub.nilS _) (Subs.nil)))) (Subs.cons (Sub.refl _) (Subs.nil)))))
 rcases iteE hm0 with ⟨e26, hm0⟩ | ⟨e26, hm0⟩
 · simp only [e4, e23, e26, xyb, ↓EVd, isCall, sevalprocAttr]
   refine fineI [([], []), ([], []), ([], []), ([], []), ([], []), ([], []), ([], []), ([], [3]), ([], [4])] rfl (by simp only [MT, sevalprocAttr]; first | done | omega) ?_
   have e27 : (.agg [int 0, .sl 2 (v20.2.map xc)] : AV) = xn (⟨0, v20.2⟩ : View) := _root_.id rfl
   obtain ⟨v28, e30, hm0⟩ := ixE xc hm0
   try simp only [sevalprocAttr, eq_self, true_and] at e30
   obtain rfl := Option.some.inj hm0
   simp only [e4, e23, e26, e27, e30, xyb, ↓EVd, isCall, sevalprocAttr]
   all_goals first | done | rfl | exact xb (by simp only [CLO]) | exact xe (by simp only [CLO]) (Sub.tup (Subs.cons (Sub.refl _) (Subs.cons (Sub.refl _) (Subs.cons (Sub.refl _) (Subs.nil)))))
 simp only [e4, e23, e26, xyb, ↓EVd, isCall, sevalprocAttr]
 refine fineI [([], []), ([], []), ([], []), ([], []), ([], []), ([], []), ([], [3]), ([], [4])] rfl (by simp only [MT, sevalprocAttr]; first | done | omega) ?_
 obtain ⟨v31, e33, hm0⟩ := ixE xc hm0
 try simp only [sevalprocAttr, eq_self, true_and] at e33
 obtain rfl := Option.some.inj hm0
 simp only [e4, e23, e26, e33, xyb, ↓EVd, isCall, sevalprocAttr]
 all_goals first | done | rfl | exact xb (by simp only [CLO]) | exact xe (by simp only [CLO]) (Sub.tup (Subs.cons (Sub.refl _) (Subs.cons (Sub.agg (Subs.cons (Sub.refl _) (Subs.cons (Sub.nilS _) (Subs.nil)))) (Subs.cons (Sub.refl _) (Subs.nil)))))
def xsp (a0 : Stack) (a1 : View) (v13 : Node) : (List ByteArray × Int) → Option (St (List ByteArray × Int) (List ByteArray))
 | (v17, v18) => if v18 < (v13.entries.length : Int) then if v13.kind = 1 then (ix v13.entries v18).bind fun v26 => (xcd a0 a1.lower v26.name).bind fun v29 => if v29.1 = 0 then some (.nx (v17, (wr (v18 + 1))))
 else (ap 16 v17 ([v26.name] : List ByteArray)).bind fun _ => some (.nx ((v17 ++ ([v26.name] : List ByteArray)), (wr (v18 + 1))))
 else some (.out v17)
 else some (.out v17)
def xik (a0 : Stack) (a1 : View) : (List ByteArray × Int) → Option (St (List ByteArray × Int) (List ByteArray))
 | (v3, v4) => if v4 < (a1.lower.length : Int) then (ix a1.lower v4).bind fun v10 => (xgc a0 v10).bind fun v13 => (iter (xsp a0 a1 v13) big (v3, 0)).bind fun o => (match o with
 | v21 => some (.nx (v21, (wr (v4 + 1)))))
 else some (.out v3)
def xdp (v7 : List ByteArray) (v39 : List ByteArray) (v40 : Int) : Int → Option (St (Int) (Int))
 | v47 => if v47 < (v39.length : Int) then (ix v39 v47).bind fun v52 => (ix v7 v40).bind fun v55 => if (Op.bytesLess v52.toList v55.toList) = true then some (.nx (wr (v47 + 1)))
 else some (.out v47)
 else some (.out v47)
def xep (v49 : Int) : (Int × List ByteArray) → Option (St (Int × List ByteArray) (List ByteArray))
 | (v75, v76) => if v49 < v75 then (ix v76 (wr (v75 - 1))).bind fun v81 => (ix v76 v75).bind fun v84 => some (.nx ((wr (v75 - 1)), (v76.set (v75).toNat v81)))
 else some (.out v76)
def x7p (v49 : Int) : (Int × List ByteArray) → Option (St (Int × List ByteArray) (List ByteArray))
 | (v95, v96) => if v49 < v95 then (ix v96 (wr (v95 - 1))).bind fun v101 => (ix v96 v95).bind fun v104 => some (.nx ((wr (v95 - 1)), (v96.set (v95).toNat v101)))
 else some (.out v96)
def xdk (v7 : List ByteArray) : (List ByteArray × Int) → Option (St (List ByteArray × Int) (List ByteArray))
 | (v39, v40) => if v40 < (v7.length : Int) then (iter (xdp v7 v39 v40) big 0).bind fun o => (match o with
 | v49 => if v49 < (v39.length : Int) then (ix v39 v49).bind fun v62 => (ix v7 v40).bind fun v65 => if v62 = v65 then some (.nx (v39, (wr (v40 + 1))))
 else (ap 16 v39 ([xl] : List ByteArray)).bind fun _ => (iter (xep v49) big ((wr (((v39 ++ ([xl] : List ByteArray)).length : Int) - 1)), (v39 ++ ([xl] : List ByteArray)))).bind fun o => (match o with
 | v78 => (ix v78 v49).bind fun v87 => some (.nx ((v78.set (v49).toNat v65), (wr (v40 + 1)))))
 else (ap 16 v39 ([xl] : List ByteArray)).bind fun _ => (iter (x7p v49) big ((wr (((v39 ++ ([xl] : List ByteArray)).length : Int) - 1)), (v39 ++ ([xl] : List ByteArray)))).bind fun o => (match o with
 | v98 => (ix v7 v40).bind fun v107 => (ix v98 v49).bind fun v110 => some (.nx ((v98.set (v49).toNat v107), (wr (v40 + 1))))))
 else some (.out v39)
def xed (v113 : Node) : (List ByteArray × Int) → Option (St (List ByteArray × Int) (List ByteArray))
 | (v117, v118) => if v118 < (v113.entries.length : Int) then if v113.kind = 1 then (ix v113.entries v118).bind fun v126 => (ap 16 v117 ([v126.name] : List ByteArray)).bind fun _ => some (.nx ((v117 ++ ([v126.name] : List ByteArray)), (wr (v118 + 1))))
 else some (.out v117)
 else some (.out v117)
def x4d (a0 : Stack) (a1 : View) (v121 : List ByteArray) : (List ByteArray × Int) → Option (St (List ByteArray × Int) (List ByteArray))
 | (v135, v136) => if v136 < (v121.length : Int) then (ix v121 v136).bind fun v142 => (xje a0 a1 v142).bind fun v145 => if v145.1 = 0 then some (.nx (v135, (wr (v136 + 1))))
 else (ap 16 v135 ([v142] : List ByteArray)).bind fun _ => some (.nx ((v135 ++ ([v142] : List ByteArray)), (wr (v136 + 1))))
 else some (.out v135)
def xpf (a0 : Stack) (a1 : View) : Option (List ByteArray) := (iter (xik a0 a1) big (([] : List ByteArray), 0)).bind fun o => (match o with
 | v7 => (iter (xdk v7) big (([] : List ByteArray), 0)).bind fun o => (match o with
 | v43 => (x3c a0.upper a1.upper).bind fun v113 => (iter (xed v113) big (v43, 0)).bind fun o => (match o with
 | v121 => (iter (x4d a0 a1 v121) big (([] : List ByteArray), 0)).bind fun o => (match o with
 | v139 => (xrd v139).bind fun v153 => some v153))))
def xd := aI (aI (aI (aI (@EV) (@R3)) (aI (@R9) (aI (@R26) (@R29)))) (aI (aI (@R31) (@R40)) (aI (@R42) (aI (@R44) (@R65))))) (aI (aI (aI (@R71) (@R76)) (aI (@DBranch) (aI (@DStack) (@DView)))) (aI (aI (@DPlace) (aI (@DOrigin) (@DAttr))) (aI (@DNode) (aI (@DEntry) (@mixed)))))
set_option maxHeartbeats 2000000 in
theorem x7z (a0 : Stack) (a1 : View) (r : List ByteArray) (hm0 : xpf a0 a1 = some r) : Ok Tryz.prog 25 [xf a0, xn a1] (.sl 1 (r.map str)) := by
 unfold xpf at hm0
 refine okG xw0 ?_
 unfold xus
 simp only [xd, ↓EVd, isCall, sevalprocAttr]
 refine xyk (acallF xf1 (by simp) ?_) rfl
 unfold xos
 obtain ⟨o0, ho0, hm0⟩ := bsE hm0
 simp only [xd, ↓EVd, isCall, sevalprocAttr]
 refine cwp_cx 0 (fun s => ∃ v7 : List ByteArray, ∃ l6 : Nat, (s.T 5 = .msl l6 v7.length ∧ s.H 0 = some (.row 29 6 [xf a0]) ∧ s.H 1 = some (.row 42 2 [xn a1]) ∧ s.H l6 = some (.row 9 1 (v7.map str)) ∧ Lq 0 s.nx ∧ Lq 1 s.nx ∧ Lq l6 s.nx ∧ Nq 0 l6 ∧ Nq 1 l6) ∧ v7 = o0) ?_ fun J0_0 hJ0_0 => ?_
 · rintro T0 H0 x5 ⟨v7, l6, kk0_0, rfl⟩
   dsimp only [Lq, Nq] at kk0_0
   try dsimp only at hm0
   simp only [kk0_0, xd, ↓EVd, isCall, sevalprocAttr]
   refine xyk (acallF xzs (by simp) ?_) rfl
   unfold x1p
   obtain ⟨o2, ho2, hm0⟩ := bsE hm0
   simp only [kk0_0, xd, ↓EVd, isCall, sevalprocAttr]
   refine cwp_cx 0 (fun s => ∃ v43 : List ByteArray, ∃ l42 : Nat, (s.T 3 = .msl l42 v43.length ∧ s.H 0 = some (.row 29 6 [xf a0]) ∧ s.H 1 = some (.row 42 2 [xn a1]) ∧ s.H l6 = some (.row 9 1 (v7.map str)) ∧ s.H l42 = some (.row 9 1 (v43.map str)) ∧ Lq 0 s.nx ∧ Lq 1 s.nx ∧ Lq l6 s.nx ∧ Lq l42 s.nx ∧ Nq 0 l6 ∧ Nq 0 l42 ∧ Nq 1 l6 ∧ Nq 1 l42 ∧ Nq l6 l42) ∧ v43 = o2) ?_ fun J2_0 hJ2_0 => ?_
   · rintro T2 H2 x41 ⟨v43, l42, kk2_0, rfl⟩
     dsimp only [Lq, Nq] at kk2_0
     try dsimp only at hm0
     obtain ⟨v113, h114, hm0⟩ := bsE hm0
     simp only [kk2_0, kk0_0, xd, ↓EVd, isCall, sevalprocAttr]
     refine qc (x5e _ _ _ h114) rfl ?_
     obtain ⟨o6, ho6, hm0⟩ := bsE hm0
     simp only [kk2_0, kk0_0, xd, ↓EVd, isCall, sevalprocAttr]
     refine cwp_cx 0 (fun s => ∃ v121 : List ByteArray, ∃ l120 : Nat, (s.T 2 = .loc 0 6 0 0 ∧ s.T 3 = .loc 1 2 0 0 ∧ s.T 5 = .msl l120 v121.length ∧ s.H 0 = some (.row 29 6 [xf a0]) ∧ s.H 1 = some (.row 42 2 [xn a1]) ∧ s.H l120 = some (.row 9 1 (v121.map str)) ∧ Lq 0 s.nx ∧ Lq 1 s.nx ∧ Lq l120 s.nx ∧ Nq 0 l120 ∧ Nq 1 l120) ∧ v121 = o6) ?_ fun J6_0 hJ6_0 => ?_
     · rintro T6 H6 x119 ⟨v121, l120, kk6_0, rfl⟩
       dsimp only [Lq, Nq] at kk6_0
       try dsimp only at hm0
       obtain ⟨o7, ho7, hm0⟩ := bsE hm0
       simp only [kk6_0, kk2_0, kk0_0, xd, ↓EVd, isCall, sevalprocAttr]
       refine cwp_cx 2 (fun s => ∃ v139 : List ByteArray, ∃ l138 : Nat, (s.T 8 = .msl l138 v139.length ∧ s.H l138 = some (.row 9 1 (v139.map str)) ∧ Lq l138 s.nx) ∧ v139 = o7) ?_ fun J7_0 hJ7_0 => ?_
       · rintro T7 H7 x137 ⟨v139, l138, kk7_0, rfl⟩
         dsimp only [Lq, Nq] at kk7_0
         try dsimp only at hm0
         obtain ⟨v153, h154, hm0⟩ := bsE hm0
         simp only [kk7_0, kk6_0, kk2_0, kk0_0, xd, ↓EVd, isCall, sevalprocAttr]
         refine qcq (x82 _ _ h154) rfl (by simp only [kk7_0, kk6_0, kk2_0, kk0_0, FQ, CLO, xd, ↓EVd, isCall, sevalprocAttr]; first | done | rfl) ?_
         obtain rfl := Option.some.inj hm0
         simp only [kk7_0, kk6_0, kk2_0, kk0_0, xd, ↓EVd, isCall, sevalprocAttr]
         all_goals first | done | rfl | exact xb (by simp only [CLO])
       refine cwp_lp ho7 (fun (v135, v136) s => ∃ l134 : Nat, s.T 2 = .loc 0 6 0 0 ∧ s.T 3 = .loc 1 2 0 0 ∧ s.T 5 = .msl l120 v121.length ∧ s.T 8 = .msl l134 v135.length ∧ s.T 9 = int v136 ∧ s.H 0 = some (.row 29 6 [xf a0]) ∧ s.H 1 = some (.row 42 2 [xn a1]) ∧ s.H l120 = some (.row 9 1 (v121.map str)) ∧ s.H l134 = some (.row 9 1 (v135.map str)) ∧ Lq 0 s.nx ∧ Lq 1 s.nx ∧ Lq l120 s.nx ∧ Lq l134 s.nx ∧ Nq 0 l120 ∧ Nq 0 l134 ∧ Nq 1 l120 ∧ Nq 1 l134 ∧ Nq l120 l134) ?_ ?_
       · refine TI.here ⟨x119, ?_, ?_, ?_, ?_, ?_, ?_, ?_, ?_, ?_, ?_, ?_, ?_, ?_, ?_, ?_, ?_, ?_, ?_⟩
         all_goals try simp only [kk6_0, kk2_0, kk0_0, xd, ↓EVd, isCall, sevalprocAttr]
         all_goals first | omega | exact lq (by omega) | exact nq (by omega) | rfl | (congr 1; omega)
       rintro I7 ⟨v135, v136⟩ T7 H7 x133 st7 ⟨l134, kk7⟩ hm1 hI7 hO7
       dsimp only [Lq, Nq] at kk7
       simp only [x4d] at hm1
       rcases iteE hm1 with ⟨e141, hm1⟩ | ⟨e141, hm1⟩
       · obtain ⟨v142, e144, hm1⟩ := ixE str hm1
         obtain ⟨v145, h146, hm1⟩ := bsE hm1
         simp only [kk7, kk6_0, kk2_0, kk0_0, e141, e144, xd, ↓EVd, isCall, sevalprocAttr]
         refine qd (x7j _ _ _ _ h146) rfl ?_
         rcases iteE hm1 with ⟨e148, hm1⟩ | ⟨e148, hm1⟩
         · obtain rfl := Option.some.inj hm1
           simp only [kk7, kk6_0, kk2_0, kk0_0, e141, e144, e148, xd, ↓EVd, isCall, sevalprocAttr]
           refine TI.here (hI7 _ rfl _ ⟨l134, ?_, ?_, ?_, ?_, ?_, ?_, ?_, ?_, ?_, ?_, ?_, ?_, ?_, ?_, ?_, ?_, ?_, ?_⟩)
           all_goals try simp only [kk7, kk6_0, kk2_0, kk0_0, e141, e144, e148, xd, ↓EVd, isCall, sevalprocAttr]
           all_goals first | omega | exact lq (by omega) | exact nq (by omega) | rfl | (congr 1; omega)
         obtain ⟨e151, hm1⟩ := apE hm1
         try simp only [ZL] at e151
         obtain rfl := Option.some.inj hm1
         simp only [kk7, kk6_0, kk2_0, kk0_0, e141, e144, e148, e151, xd, ↓EVd, isCall, sevalprocAttr]
         refine TI.here (hI7 _ rfl _ ⟨(x133 + 28), ?_, ?_, ?_, ?_, ?_, ?_, ?_, ?_, ?_, ?_, ?_, ?_, ?_, ?_, ?_, ?_, ?_, ?_⟩)
         all_goals try simp only [kk7, kk6_0, kk2_0, kk0_0, e141, e144, e148, e151, xd, ↓EVd, isCall, sevalprocAttr]
         all_goals first | omega | exact lq (by omega) | exact nq (by omega) | rfl | (congr 1; omega)
       obtain rfl := Option.some.inj hm1
       simp only [kk7, kk6_0, kk2_0, kk0_0, e141, xd, ↓EVd, isCall, sevalprocAttr]
       refine TI.here (hJ7_0 _ ⟨v135, l134, ⟨?_, ?_, ?_⟩, hO7 _ rfl⟩)
       all_goals try simp only [kk7, kk6_0, kk2_0, kk0_0, e141, xd, ↓EVd, isCall, sevalprocAttr]
       all_goals first | omega | exact lq (by omega) | exact nq (by omega) | rfl | (congr 1; omega)
     refine cwp_lp ho6 (fun (v117, v118) s => ∃ l116 : Nat, s.T 2 = .loc 0 6 0 0 ∧ s.T 3 = .loc 1 2 0 0 ∧ s.T 5 = .msl l116 v117.length ∧ s.T 6 = .loc (x41 + 7) 13 0 0 ∧ s.T 7 = int v118 ∧ s.H 0 = some (.row 29 6 [xf a0]) ∧ s.H 1 = some (.row 42 2 [xn a1]) ∧ s.H (x41 + 7) = some (.row 71 13 [xo v113]) ∧ s.H l116 = some (.row 9 1 (v117.map str)) ∧ Lq 0 s.nx ∧ Lq 1 s.nx ∧ Lq (x41 + 7) s.nx ∧ Lq l116 s.nx ∧ Nq 0 (x41 + 7) ∧ Nq 0 l116 ∧ Nq 1 (x41 + 7) ∧ Nq 1 l116 ∧ Nq (x41 + 7) l116) ?_ ?_
     · refine TI.here ⟨l42, ?_, ?_, ?_, ?_, ?_, ?_, ?_, ?_, ?_, ?_, ?_, ?_, ?_, ?_, ?_, ?_, ?_, ?_⟩
       all_goals try simp only [kk2_0, kk0_0, xd, ↓EVd, isCall, sevalprocAttr]
       all_goals first | omega | exact lq (by omega) | exact nq (by omega) | rfl | (congr 1; omega)
     rintro I6 ⟨v117, v118⟩ T6 H6 x115 st6 ⟨l116, kk6⟩ hm1 hI6 hO6
     dsimp only [Lq, Nq] at kk6
     simp only [xed] at hm1
     rcases iteE hm1 with ⟨e123, hm1⟩ | ⟨e123, hm1⟩
     · rcases iteE hm1 with ⟨e125, hm1⟩ | ⟨e125, hm1⟩
       · obtain ⟨v126, e128, hm1⟩ := ixE xab hm1
         obtain ⟨e131, hm1⟩ := apE hm1
         try simp only [ZL] at e131
         obtain rfl := Option.some.inj hm1
         simp only [kk6, kk2_0, kk0_0, e123, e125, e128, e131, xd, ↓EVd, isCall, sevalprocAttr]
         refine TI.here (hI6 _ rfl _ ⟨(x115 + 18), ?_, ?_, ?_, ?_, ?_, ?_, ?_, ?_, ?_, ?_, ?_, ?_, ?_, ?_, ?_, ?_, ?_, ?_⟩)
         all_goals try simp only [kk6, kk2_0, kk0_0, e123, e125, e128, e131, xd, ↓EVd, isCall, sevalprocAttr]
         all_goals first | omega | exact lq (by omega) | exact nq (by omega) | rfl | (congr 1; omega)
       obtain rfl := Option.some.inj hm1
       simp only [kk6, kk2_0, kk0_0, e123, e125, xd, ↓EVd, isCall, sevalprocAttr]
       refine TI.here (hJ6_0 _ ⟨v117, l116, ⟨?_, ?_, ?_, ?_, ?_, ?_, ?_, ?_, ?_, ?_, ?_⟩, hO6 _ rfl⟩)
       all_goals try simp only [kk6, kk2_0, kk0_0, e123, e125, xd, ↓EVd, isCall, sevalprocAttr]
       all_goals first | omega | exact lq (by omega) | exact nq (by omega) | rfl | (congr 1; omega)
     obtain rfl := Option.some.inj hm1
     simp only [kk6, kk2_0, kk0_0, e123, xd, ↓EVd, isCall, sevalprocAttr]
     refine TI.here (hJ6_0 _ ⟨v117, l116, ⟨?_, ?_, ?_, ?_, ?_, ?_, ?_, ?_, ?_, ?_, ?_⟩, hO6 _ rfl⟩)
     all_goals try simp only [kk6, kk2_0, kk0_0, e123, xd, ↓EVd, isCall, sevalprocAttr]
     all_goals first | omega | exact lq (by omega) | exact nq (by omega) | rfl | (congr 1; omega)
   refine cwp_lp ho2 (fun (v39, v40) s => ∃ l38 : Nat, s.T 0 = .msl l6 v7.length ∧ s.T 3 = .msl l38 v39.length ∧ s.T 4 = int v40 ∧ s.H 0 = some (.row 29 6 [xf a0]) ∧ s.H 1 = some (.row 42 2 [xn a1]) ∧ s.H l6 = some (.row 9 1 (v7.map str)) ∧ s.H l38 = some (.row 9 1 (v39.map str)) ∧ Lq 0 s.nx ∧ Lq 1 s.nx ∧ Lq l6 s.nx ∧ Lq l38 s.nx ∧ Nq 0 l6 ∧ Nq 0 l38 ∧ Nq 1 l6 ∧ Nq 1 l38 ∧ Nq l6 l38) ?_ ?_
   · refine TI.here ⟨(x5 + 4), ?_, ?_, ?_, ?_, ?_, ?_, ?_, ?_, ?_, ?_, ?_, ?_, ?_, ?_, ?_, ?_⟩
     all_goals try simp only [kk0_0, xd, ↓EVd, isCall, sevalprocAttr]
     all_goals first | omega | exact lq (by omega) | exact nq (by omega) | rfl | (congr 1; omega)
   rintro I2 ⟨v39, v40⟩ T2 H2 x37 st2 ⟨l38, kk2⟩ hm1 hI2 hO2
   dsimp only [Lq, Nq] at kk2
   simp only [xdk] at hm1
   rcases iteE hm1 with ⟨e45, hm1⟩ | ⟨e45, hm1⟩
   · obtain ⟨o3, ho3, hm1⟩ := bsE hm1
     simp only [kk2, kk0_0, e45, xd, ↓EVd, isCall, sevalprocAttr]
     refine cwp_cx 2 (fun s => ∃ v49 : Int, (s.T 0 = .msl l6 v7.length ∧ s.T 3 = .msl l38 v39.length ∧ s.T 4 = int v40 ∧ s.T 5 = int v49 ∧ s.H 0 = some (.row 29 6 [xf a0]) ∧ s.H 1 = some (.row 42 2 [xn a1]) ∧ s.H l6 = some (.row 9 1 (v7.map str)) ∧ s.H l38 = some (.row 9 1 (v39.map str)) ∧ Lq 0 s.nx ∧ Lq 1 s.nx ∧ Lq l6 s.nx ∧ Lq l38 s.nx ∧ Nq 0 l6 ∧ Nq 0 l38 ∧ Nq 1 l6 ∧ Nq 1 l38 ∧ Nq l6 l38) ∧ v49 = o3) ?_ fun J3_0 hJ3_0 => ?_
     · rintro T3 H3 x48 ⟨v49, kk3_0, rfl⟩
       dsimp only [Lq, Nq] at kk3_0
       try dsimp only at hm1
       rcases iteE hm1 with ⟨e61, hm1⟩ | ⟨e61, hm1⟩
       · obtain ⟨v62, e64, hm1⟩ := ixE str hm1
         obtain ⟨v65, e67, hm1⟩ := ixE str hm1
         rcases iteE hm1 with ⟨e69, hm1⟩ | ⟨e69, hm1⟩
         · obtain rfl := Option.some.inj hm1
           simp only [kk3_0, kk2, kk0_0, e45, e61, e64, e67, e69, xd, ↓EVd, isCall, sevalprocAttr]
           refine TI.here (hI2 _ rfl _ ⟨l38, ?_, ?_, ?_, ?_, ?_, ?_, ?_, ?_, ?_, ?_, ?_, ?_, ?_, ?_, ?_, ?_⟩)
           all_goals try simp only [kk3_0, kk2, kk0_0, e45, e61, e64, e67, e69, xd, ↓EVd, isCall, sevalprocAttr]
           all_goals first | omega | exact lq (by omega) | exact nq (by omega) | rfl | (congr 1; omega)
         obtain ⟨e72, hm1⟩ := apE hm1
         try simp only [ZL] at e72
         obtain ⟨o4, ho4, hm1⟩ := bsE hm1
         simp only [kk3_0, kk2, kk0_0, e45, e61, e64, e67, e69, e72, xd, ↓EVd, isCall, sevalprocAttr]
         refine cwp_cx 4 (fun s => ∃ v78 : List ByteArray, (s.T 0 = .msl l6 v7.length ∧ s.T 3 = .msl (x48 + 17) v78.length ∧ s.T 4 = int v40 ∧ s.T 5 = int v49 ∧ s.H 0 = some (.row 29 6 [xf a0]) ∧ s.H 1 = some (.row 42 2 [xn a1]) ∧ s.H l6 = some (.row 9 1 (v7.map str)) ∧ s.H (x48 + 17) = some (.row 9 1 (v78.map str)) ∧ Lq 0 s.nx ∧ Lq 1 s.nx ∧ Lq l6 s.nx ∧ Lq (x48 + 17) s.nx ∧ Nq 0 l6 ∧ Nq 0 (x48 + 17) ∧ Nq 1 l6 ∧ Nq 1 (x48 + 17) ∧ Nq l6 (x48 + 17)) ∧ v78 = o4) ?_ fun J4_0 hJ4_0 => ?_
         · rintro T4 H4 x77 ⟨v78, kk4_0, rfl⟩
           dsimp only [Lq, Nq] at kk4_0
           try dsimp only at hm1
           obtain ⟨v87, e89, hm1⟩ := ixE str hm1
           obtain rfl := Option.some.inj hm1
           simp only [kk4_0, kk3_0, kk2, kk0_0, e45, e61, e64, e67, e69, e72, e89, xd, ↓EVd, isCall, sevalprocAttr]
           refine TI.here (hI2 _ rfl _ ⟨(x48 + 17), ?_, ?_, ?_, ?_, ?_, ?_, ?_, ?_, ?_, ?_, ?_, ?_, ?_, ?_, ?_, ?_⟩)
           all_goals try simp only [kk4_0, kk3_0, kk2, kk0_0, e45, e61, e64, e67, e69, e72, e89, xd, ↓EVd, isCall, sevalprocAttr]
           all_goals first | omega | exact lq (by omega) | exact nq (by omega) | rfl | (congr 1; omega)
         refine cwp_lp ho4 (fun (v75, v76) s => s.T 0 = .msl l6 v7.length ∧ s.T 3 = .msl (x48 + 17) v76.length ∧ s.T 4 = int v40 ∧ s.T 5 = int v49 ∧ s.T 6 = int v75 ∧ s.H 0 = some (.row 29 6 [xf a0]) ∧ s.H 1 = some (.row 42 2 [xn a1]) ∧ s.H l6 = some (.row 9 1 (v7.map str)) ∧ s.H (x48 + 17) = some (.row 9 1 (v76.map str)) ∧ Lq 0 s.nx ∧ Lq 1 s.nx ∧ Lq l6 s.nx ∧ Lq (x48 + 17) s.nx ∧ Nq 0 l6 ∧ Nq 0 (x48 + 17) ∧ Nq 1 l6 ∧ Nq 1 (x48 + 17) ∧ Nq l6 (x48 + 17)) ?_ ?_
         · refine TI.here ⟨?_, ?_, ?_, ?_, ?_, ?_, ?_, ?_, ?_, ?_, ?_, ?_, ?_, ?_, ?_, ?_, ?_, ?_⟩
           all_goals try simp only [kk3_0, kk2, kk0_0, e45, e61, e64, e67, e69, e72, xd, ↓EVd, isCall, sevalprocAttr]
           all_goals first | omega | exact lq (by omega) | exact nq (by omega) | rfl | (congr 1; omega)
         rintro I4 ⟨v75, v76⟩ T4 H4 x74 st4 kk4 hm2 hI4 hO4
         dsimp only [Lq, Nq] at kk4
         simp only [xep] at hm2
         rcases iteE hm2 with ⟨e80, hm2⟩ | ⟨e80, hm2⟩
         · obtain ⟨v81, e83, hm2⟩ := ixE str hm2
           obtain ⟨v84, e86, hm2⟩ := ixE str hm2
           obtain rfl := Option.some.inj hm2
           simp only [kk4, kk3_0, kk2, kk0_0, e45, e61, e64, e67, e69, e72, e80, e83, e86, xd, ↓EVd, isCall, sevalprocAttr]
           refine TI.here (hI4 _ rfl _ ⟨?_, ?_, ?_, ?_, ?_, ?_, ?_, ?_, ?_, ?_, ?_, ?_, ?_, ?_, ?_, ?_, ?_, ?_⟩)
           all_goals try simp only [kk4, kk3_0, kk2, kk0_0, e45, e61, e64, e67, e69, e72, e80, e83, e86, xd, ↓EVd, isCall, sevalprocAttr]
           all_goals first | omega | exact lq (by omega) | exact nq (by omega) | rfl | (congr 1; omega)
         obtain rfl := Option.some.inj hm2
         simp only [kk4, kk3_0, kk2, kk0_0, e45, e61, e64, e67, e69, e72, e80, xd, ↓EVd, isCall, sevalprocAttr]
         refine TI.here (hJ4_0 _ ⟨v76, ⟨?_, ?_, ?_, ?_, ?_, ?_, ?_, ?_, ?_, ?_, ?_, ?_, ?_, ?_, ?_, ?_, ?_⟩, hO4 _ rfl⟩)
         all_goals try simp only [kk4, kk3_0, kk2, kk0_0, e45, e61, e64, e67, e69, e72, e80, xd, ↓EVd, isCall, sevalprocAttr]
         all_goals first | omega | exact lq (by omega) | exact nq (by omega) | rfl | (congr 1; omega)
       obtain ⟨e92, hm1⟩ := apE hm1
       try simp only [ZL] at e92
       obtain ⟨o5, ho5, hm1⟩ := bsE hm1
       simp only [kk3_0, kk2, kk0_0, e45, e61, e92, xd, ↓EVd, isCall, sevalprocAttr]
       refine cwp_cx 4 (fun s => ∃ v98 : List ByteArray, (s.T 0 = .msl l6 v7.length ∧ s.T 3 = .msl (x48 + 17) v98.length ∧ s.T 4 = int v40 ∧ s.T 5 = int v49 ∧ s.H 0 = some (.row 29 6 [xf a0]) ∧ s.H 1 = some (.row 42 2 [xn a1]) ∧ s.H l6 = some (.row 9 1 (v7.map str)) ∧ s.H (x48 + 17) = some (.row 9 1 (v98.map str)) ∧ Lq 0 s.nx ∧ Lq 1 s.nx ∧ Lq l6 s.nx ∧ Lq (x48 + 17) s.nx ∧ Nq 0 l6 ∧ Nq 0 (x48 + 17) ∧ Nq 1 l6 ∧ Nq 1 (x48 + 17) ∧ Nq l6 (x48 + 17)) ∧ v98 = o5) ?_ fun J5_0 hJ5_0 => ?_
       · rintro T5 H5 x97 ⟨v98, kk5_0, rfl⟩
         dsimp only [Lq, Nq] at kk5_0
         try dsimp only at hm1
         obtain ⟨v107, e109, hm1⟩ := ixE str hm1
         obtain ⟨v110, e112, hm1⟩ := ixE str hm1
         obtain rfl := Option.some.inj hm1
         simp only [kk5_0, kk3_0, kk2, kk0_0, e45, e61, e92, e109, e112, xd, ↓EVd, isCall, sevalprocAttr]
         refine TI.here (hI2 _ rfl _ ⟨(x48 + 17), ?_, ?_, ?_, ?_, ?_, ?_, ?_, ?_, ?_, ?_, ?_, ?_, ?_, ?_, ?_, ?_⟩)
         all_goals try simp only [kk5_0, kk3_0, kk2, kk0_0, e45, e61, e92, e109, e112, xd, ↓EVd, isCall, sevalprocAttr]
         all_goals first | omega | exact lq (by omega) | exact nq (by omega) | rfl | (congr 1; omega)
       refine cwp_lp ho5 (fun (v95, v96) s => s.T 0 = .msl l6 v7.length ∧ s.T 3 = .msl (x48 + 17) v96.length ∧ s.T 4 = int v40 ∧ s.T 5 = int v49 ∧ s.T 6 = int v95 ∧ s.H 0 = some (.row 29 6 [xf a0]) ∧ s.H 1 = some (.row 42 2 [xn a1]) ∧ s.H l6 = some (.row 9 1 (v7.map str)) ∧ s.H (x48 + 17) = some (.row 9 1 (v96.map str)) ∧ Lq 0 s.nx ∧ Lq 1 s.nx ∧ Lq l6 s.nx ∧ Lq (x48 + 17) s.nx ∧ Nq 0 l6 ∧ Nq 0 (x48 + 17) ∧ Nq 1 l6 ∧ Nq 1 (x48 + 17) ∧ Nq l6 (x48 + 17)) ?_ ?_
       · refine TI.here ⟨?_, ?_, ?_, ?_, ?_, ?_, ?_, ?_, ?_, ?_, ?_, ?_, ?_, ?_, ?_, ?_, ?_, ?_⟩
         all_goals try simp only [kk3_0, kk2, kk0_0, e45, e61, e92, xd, ↓EVd, isCall, sevalprocAttr]
         all_goals first | omega | exact lq (by omega) | exact nq (by omega) | rfl | (congr 1; omega)
       rintro I5 ⟨v95, v96⟩ T5 H5 x94 st5 kk5 hm2 hI5 hO5
       dsimp only [Lq, Nq] at kk5
       simp only [x7p] at hm2
       rcases iteE hm2 with ⟨e100, hm2⟩ | ⟨e100, hm2⟩
       · obtain ⟨v101, e103, hm2⟩ := ixE str hm2
         obtain ⟨v104, e106, hm2⟩ := ixE str hm2
         obtain rfl := Option.some.inj hm2
         simp only [kk5, kk3_0, kk2, kk0_0, e45, e61, e92, e100, e103, e106, xd, ↓EVd, isCall, sevalprocAttr]
         refine TI.here (hI5 _ rfl _ ⟨?_, ?_, ?_, ?_, ?_, ?_, ?_, ?_, ?_, ?_, ?_, ?_, ?_, ?_, ?_, ?_, ?_, ?_⟩)
         all_goals try simp only [kk5, kk3_0, kk2, kk0_0, e45, e61, e92, e100, e103, e106, xd, ↓EVd, isCall, sevalprocAttr]
         all_goals first | omega | exact lq (by omega) | exact nq (by omega) | rfl | (congr 1; omega)
       obtain rfl := Option.some.inj hm2
       simp only [kk5, kk3_0, kk2, kk0_0, e45, e61, e92, e100, xd, ↓EVd, isCall, sevalprocAttr]
       refine TI.here (hJ5_0 _ ⟨v96, ⟨?_, ?_, ?_, ?_, ?_, ?_, ?_, ?_, ?_, ?_, ?_, ?_, ?_, ?_, ?_, ?_, ?_⟩, hO5 _ rfl⟩)
       all_goals try simp only [kk5, kk3_0, kk2, kk0_0, e45, e61, e92, e100, xd, ↓EVd, isCall, sevalprocAttr]
       all_goals first | omega | exact lq (by omega) | exact nq (by omega) | rfl | (congr 1; omega)
     refine cwp_lp ho3 (fun v47 s => s.T 0 = .msl l6 v7.length ∧ s.T 3 = .msl l38 v39.length ∧ s.T 4 = int v40 ∧ s.T 5 = int v47 ∧ s.H 0 = some (.row 29 6 [xf a0]) ∧ s.H 1 = some (.row 42 2 [xn a1]) ∧ s.H l6 = some (.row 9 1 (v7.map str)) ∧ s.H l38 = some (.row 9 1 (v39.map str)) ∧ Lq 0 s.nx ∧ Lq 1 s.nx ∧ Lq l6 s.nx ∧ Lq l38 s.nx ∧ Nq 0 l6 ∧ Nq 0 l38 ∧ Nq 1 l6 ∧ Nq 1 l38 ∧ Nq l6 l38) ?_ ?_
     · refine TI.here ⟨?_, ?_, ?_, ?_, ?_, ?_, ?_, ?_, ?_, ?_, ?_, ?_, ?_, ?_, ?_, ?_, ?_⟩
       all_goals try simp only [kk2, kk0_0, e45, xd, ↓EVd, isCall, sevalprocAttr]
       all_goals first | omega | exact lq (by omega) | exact nq (by omega) | rfl | (congr 1; omega)
     rintro I3 v47 T3 H3 x46 st3 kk3 hm2 hI3 hO3
     dsimp only [Lq, Nq] at kk3
     simp only [xdp] at hm2
     rcases iteE hm2 with ⟨e51, hm2⟩ | ⟨e51, hm2⟩
     · obtain ⟨v52, e54, hm2⟩ := ixE str hm2
       obtain ⟨v55, e57, hm2⟩ := ixE str hm2
       rcases itbE hm2 with ⟨e59, hm2⟩ | ⟨e59, hm2⟩
       · obtain rfl := Option.some.inj hm2
         simp only [kk3, kk2, kk0_0, e45, e51, e54, e57, e59, xd, ↓EVd, isCall, sevalprocAttr]
         refine TI.here (hI3 _ rfl _ ⟨?_, ?_, ?_, ?_, ?_, ?_, ?_, ?_, ?_, ?_, ?_, ?_, ?_, ?_, ?_, ?_, ?_⟩)
         all_goals try simp only [kk3, kk2, kk0_0, e45, e51, e54, e57, e59, xd, ↓EVd, isCall, sevalprocAttr]
         all_goals first | omega | exact lq (by omega) | exact nq (by omega) | rfl | (congr 1; omega)
       obtain rfl := Option.some.inj hm2
       simp only [kk3, kk2, kk0_0, e45, e51, e54, e57, e59, xd, ↓EVd, isCall, sevalprocAttr]
       refine TI.here (hJ3_0 _ ⟨v47, ⟨?_, ?_, ?_, ?_, ?_, ?_, ?_, ?_, ?_, ?_, ?_, ?_, ?_, ?_, ?_, ?_, ?_⟩, hO3 _ rfl⟩)
       all_goals try simp only [kk3, kk2, kk0_0, e45, e51, e54, e57, e59, xd, ↓EVd, isCall, sevalprocAttr]
       all_goals first | omega | exact lq (by omega) | exact nq (by omega) | rfl | (congr 1; omega)
     obtain rfl := Option.some.inj hm2
     simp only [kk3, kk2, kk0_0, e45, e51, xd, ↓EVd, isCall, sevalprocAttr]
     refine TI.here (hJ3_0 _ ⟨v47, ⟨?_, ?_, ?_, ?_, ?_, ?_, ?_, ?_, ?_, ?_, ?_, ?_, ?_, ?_, ?_, ?_, ?_⟩, hO3 _ rfl⟩)
     all_goals try simp only [kk3, kk2, kk0_0, e45, e51, xd, ↓EVd, isCall, sevalprocAttr]
     all_goals first | omega | exact lq (by omega) | exact nq (by omega) | rfl | (congr 1; omega)
   obtain rfl := Option.some.inj hm1
   simp only [kk2, kk0_0, e45, xd, ↓EVd, isCall, sevalprocAttr]
   refine TI.here (hJ2_0 _ ⟨v39, l38, ⟨?_, ?_, ?_, ?_, ?_, ?_, ?_, ?_, ?_, ?_, ?_, ?_, ?_, ?_⟩, hO2 _ rfl⟩)
   all_goals try simp only [kk2, kk0_0, e45, xd, ↓EVd, isCall, sevalprocAttr]
   all_goals first | omega | exact lq (by omega) | exact nq (by omega) | rfl | (congr 1; omega)
 refine cwp_lp ho0 (fun (v3, v4) s => ∃ l2 : Nat, s.T 1 = .sl 2 (a1.lower.map xc) ∧ s.T 2 = .loc 8 6 0 0 ∧ s.T 5 = .msl l2 v3.length ∧ s.T 6 = int v4 ∧ s.H 0 = some (.row 29 6 [xf a0]) ∧ s.H 1 = some (.row 42 2 [xn a1]) ∧ s.H 8 = some (.row 29 6 [xf a0]) ∧ s.H l2 = some (.row 9 1 (v3.map str)) ∧ Lq 0 s.nx ∧ Lq 1 s.nx ∧ Lq 8 s.nx ∧ Lq l2 s.nx ∧ Nq 0 l2 ∧ Nq 1 l2 ∧ Nq 8 l2) ?_ ?_
 · refine TI.here ⟨10, ?_, ?_, ?_, ?_, ?_, ?_, ?_, ?_, ?_, ?_, ?_, ?_, ?_, ?_, ?_⟩
   all_goals try simp only [xd, ↓EVd, isCall, sevalprocAttr]
   all_goals first | omega | exact lq (by omega) | exact nq (by omega) | rfl | (congr 1; omega)
 rintro I0 ⟨v3, v4⟩ T0 H0 x1 st0 ⟨l2, kk0⟩ hm1 hI0 hO0
 dsimp only [Lq, Nq] at kk0
 simp only [xik] at hm1
 rcases iteE hm1 with ⟨e9, hm1⟩ | ⟨e9, hm1⟩
 · obtain ⟨v10, e12, hm1⟩ := ixE xc hm1
   obtain ⟨v13, h14, hm1⟩ := bsE hm1
   simp only [kk0, e9, e12, xd, ↓EVd, isCall, sevalprocAttr]
   refine qd (x1d _ _ _ h14) rfl ?_
   obtain ⟨o1, ho1, hm1⟩ := bsE hm1
   simp only [kk0, e9, e12, xd, ↓EVd, isCall, sevalprocAttr]
   refine cwp_cx 2 (fun s => ∃ v21 : List ByteArray, ∃ l20 : Nat, (s.T 1 = .sl 2 (a1.lower.map xc) ∧ s.T 2 = .loc 8 6 0 0 ∧ s.T 5 = .msl l20 v21.length ∧ s.T 6 = int v4 ∧ s.H 0 = some (.row 29 6 [xf a0]) ∧ s.H 1 = some (.row 42 2 [xn a1]) ∧ s.H 8 = some (.row 29 6 [xf a0]) ∧ s.H l20 = some (.row 9 1 (v21.map str)) ∧ Lq 0 s.nx ∧ Lq 1 s.nx ∧ Lq 8 s.nx ∧ Lq l20 s.nx ∧ Nq 0 l20 ∧ Nq 1 l20 ∧ Nq 8 l20) ∧ v21 = o1) ?_ fun J1_0 hJ1_0 => ?_
   · rintro T1 H1 x19 ⟨v21, l20, kk1_0, rfl⟩
     dsimp only [Lq, Nq] at kk1_0
     try dsimp only at hm1
     obtain rfl := Option.some.inj hm1
     simp only [kk1_0, kk0, e9, e12, xd, ↓EVd, isCall, sevalprocAttr]
     refine TI.here (hI0 _ rfl _ ⟨l20, ?_, ?_, ?_, ?_, ?_, ?_, ?_, ?_, ?_, ?_, ?_, ?_, ?_, ?_, ?_⟩)
     all_goals try simp only [kk1_0, kk0, e9, e12, xd, ↓EVd, isCall, sevalprocAttr]
     all_goals first | omega | exact lq (by omega) | exact nq (by omega) | rfl | (congr 1; omega)
   refine cwp_lp ho1 (fun (v17, v18) s => ∃ l16 : Nat, s.T 1 = .sl 2 (a1.lower.map xc) ∧ s.T 2 = .loc 8 6 0 0 ∧ s.T 5 = .msl l16 v17.length ∧ s.T 6 = int v4 ∧ s.T 7 = .loc (x1 + 10) 13 0 0 ∧ s.T 8 = int v18 ∧ s.H 0 = some (.row 29 6 [xf a0]) ∧ s.H 1 = some (.row 42 2 [xn a1]) ∧ s.H 8 = some (.row 29 6 [xf a0]) ∧ s.H (x1 + 10) = some (.row 71 13 [xo v13]) ∧ s.H l16 = some (.row 9 1 (v17.map str)) ∧ Lq 0 s.nx ∧ Lq 1 s.nx ∧ Lq 8 s.nx ∧ Lq (x1 + 10) s.nx ∧ Lq l16 s.nx ∧ Nq 0 (x1 + 10) ∧ Nq 0 l16 ∧ Nq 1 (x1 + 10) ∧ Nq 1 l16 ∧ Nq 8 (x1 + 10) ∧ Nq 8 l16 ∧ Nq (x1 + 10) l16) ?_ ?_
   · refine TI.here ⟨l2, ?_, ?_, ?_, ?_, ?_, ?_, ?_, ?_, ?_, ?_, ?_, ?_, ?_, ?_, ?_, ?_, ?_, ?_, ?_, ?_, ?_, ?_, ?_⟩
     all_goals try simp only [kk0, e9, e12, xd, ↓EVd, isCall, sevalprocAttr]
     all_goals first | omega | exact lq (by omega) | exact nq (by omega) | rfl | (congr 1; omega)
   rintro I1 ⟨v17, v18⟩ T1 H1 x15 st1 ⟨l16, kk1⟩ hm2 hI1 hO1
   dsimp only [Lq, Nq] at kk1
   simp only [xsp] at hm2
   rcases iteE hm2 with ⟨e23, hm2⟩ | ⟨e23, hm2⟩
   · rcases iteE hm2 with ⟨e25, hm2⟩ | ⟨e25, hm2⟩
     · obtain ⟨v26, e28, hm2⟩ := ixE xab hm2
       obtain ⟨v29, h30, hm2⟩ := bsE hm2
       simp only [kk1, kk0, e9, e12, e23, e25, e28, xd, ↓EVd, isCall, sevalprocAttr]
       refine qd (xch _ _ _ _ h30) rfl ?_
       rcases iteE hm2 with ⟨e32, hm2⟩ | ⟨e32, hm2⟩
       · obtain rfl := Option.some.inj hm2
         simp only [kk1, kk0, e9, e12, e23, e25, e28, e32, xd, ↓EVd, isCall, sevalprocAttr]
         refine TI.here (hI1 _ rfl _ ⟨l16, ?_, ?_, ?_, ?_, ?_, ?_, ?_, ?_, ?_, ?_, ?_, ?_, ?_, ?_, ?_, ?_, ?_, ?_, ?_, ?_, ?_, ?_, ?_⟩)
         all_goals try simp only [kk1, kk0, e9, e12, e23, e25, e28, e32, xd, ↓EVd, isCall, sevalprocAttr]
         all_goals first | omega | exact lq (by omega) | exact nq (by omega) | rfl | (congr 1; omega)
       obtain ⟨e35, hm2⟩ := apE hm2
       try simp only [ZL] at e35
       obtain rfl := Option.some.inj hm2
       simp only [kk1, kk0, e9, e12, e23, e25, e28, e32, e35, xd, ↓EVd, isCall, sevalprocAttr]
       refine TI.here (hI1 _ rfl _ ⟨(x15 + 34), ?_, ?_, ?_, ?_, ?_, ?_, ?_, ?_, ?_, ?_, ?_, ?_, ?_, ?_, ?_, ?_, ?_, ?_, ?_, ?_, ?_, ?_, ?_⟩)
       all_goals try simp only [kk1, kk0, e9, e12, e23, e25, e28, e32, e35, xd, ↓EVd, isCall, sevalprocAttr]
       all_goals first | omega | exact lq (by omega) | exact nq (by omega) | rfl | (congr 1; omega)
     obtain rfl := Option.some.inj hm2
     simp only [kk1, kk0, e9, e12, e23, e25, xd, ↓EVd, isCall, sevalprocAttr]
     refine TI.here (hJ1_0 _ ⟨v17, l16, ⟨?_, ?_, ?_, ?_, ?_, ?_, ?_, ?_, ?_, ?_, ?_, ?_, ?_, ?_, ?_⟩, hO1 _ rfl⟩)
     all_goals try simp only [kk1, kk0, e9, e12, e23, e25, xd, ↓EVd, isCall, sevalprocAttr]
     all_goals first | omega | exact lq (by omega) | exact nq (by omega) | rfl | (congr 1; omega)
   obtain rfl := Option.some.inj hm2
   simp only [kk1, kk0, e9, e12, e23, xd, ↓EVd, isCall, sevalprocAttr]
   refine TI.here (hJ1_0 _ ⟨v17, l16, ⟨?_, ?_, ?_, ?_, ?_, ?_, ?_, ?_, ?_, ?_, ?_, ?_, ?_, ?_, ?_⟩, hO1 _ rfl⟩)
   all_goals try simp only [kk1, kk0, e9, e12, e23, xd, ↓EVd, isCall, sevalprocAttr]
   all_goals first | omega | exact lq (by omega) | exact nq (by omega) | rfl | (congr 1; omega)
 obtain rfl := Option.some.inj hm1
 simp only [kk0, e9, xd, ↓EVd, isCall, sevalprocAttr]
 refine TI.here (hJ0_0 _ ⟨v3, l2, ⟨?_, ?_, ?_, ?_, ?_, ?_, ?_, ?_, ?_⟩, hO0 _ rfl⟩)
 all_goals try simp only [kk0, e9, xd, ↓EVd, isCall, sevalprocAttr]
 all_goals first | omega | exact lq (by omega) | exact nq (by omega) | rfl | (congr 1; omega)
end Go.Proofs.YtfefidkblgendaaGreatDoor.AL

/- Plain laws, part 0: nodes. -/
set_option linter.all false
namespace Go.Proofs.YtfefidkblgendaaGreatDoor.AL
open Go Go.Proofs
def xah : Node := ⟨0, 0, 0, 0, [], [], ⟨0, 0, xl, ⟨0, 0, 0⟩, 0⟩⟩
def nodeP (b : Branch) (ino : Int) : Node := if ino < 1 then xah else if (b.nodes.length : Int) < ino then xah else (b.nodes[(ino - 1).toNat]?).getD xah
structure PB (b : Branch) : Prop where
  len : b.nodes.length ≤ 24
  ents : ∀ x ∈ b.nodes, x.entries.length ≤ 16
end Go.Proofs.YtfefidkblgendaaGreatDoor.AL

/- Plain laws of chapter 17: nodes, roots, parts, entries, steps. -/
set_option linter.all false
namespace Go.Proofs.YtfefidkblgendaaGreatDoor.AL
open Go Go.Proofs
structure NV (x : Node) : Prop where
  ents : x.entries.length ≤ 32
  has0 : 0 ≤ x.attr.has
  has1 : x.attr.has ≤ 31
structure PU (b : Branch) : Prop where
  len : b.nodes.length ≤ 30
  nodes : ∀ x ∈ b.nodes, NV x
structure SV (s : Stack) : Prop where
  up : PU s.upper
  low : PQ s.lowers
theorem NB.nv {x : Node} (h : NB x) : NV x := ⟨Nat.le_trans h.ents (by omega), h.has0, h.has1⟩
theorem SB.sv {s : Stack} (h : SB s) : SV s := ⟨⟨Nat.le_trans h.up.1 (by omega), fun x hx => (h.up.2 x hx).nv⟩, h.pq⟩
theorem xk1 (s : Stack) : (⟨(⟨s.geo.lowers, s.geo.inodes, s.geo.blocks, s.geo.log⟩ : Geo), (⟨s.upper.nodes⟩ : Branch), s.lowers⟩ : Stack) = s := rfl
theorem xek {s : Stack} (h : SV s) (ino : Int) : x0b s ino = some (nodeP s.upper ino) := by
  unfold x0b nodeP
  split
  · rfl
  · split
    · rfl
    · rename_i h1 h2
      have := h.up.len
      rw [wr_in (by omega) (by omega), ix_of (by omega) (by omega)]
      have hlt : (ino - 1).toNat < s.upper.nodes.length := by omega
      simp only [Option.bind_some, List.getElem?_eq_getElem hlt, Option.getD_some]
theorem atv_eq {s : Stack} (h : SV s) (ino : Int) : x3c s.upper ino = some (nodeP s.upper ino) := by
  rw [← xek h ino]
  rfl
theorem xi7 : NV xah := ⟨by simp [xah], by simp [xah], by simp [xah]⟩
theorem x9f {b : Branch} (h : PU b) (ino : Int) : NV (nodeP b ino) := by
  unfold nodeP
  split
  · exact xi7
  · split
    · exact xi7
    · rename_i h1 h2
      have hlt : (ino - 1).toNat < b.nodes.length := by omega
      simp only [List.getElem?_eq_getElem hlt, Option.getD_some]
      exact h.nodes _ (List.getElem_mem hlt)
theorem xz8 {b : Branch} {ino : Int} (h : ¬ (nodeP b ino).kind = 0) : 1 ≤ ino ∧ ino ≤ (b.nodes.length : Int) := by
  unfold nodeP at h
  split at h
  · exact absurd rfl h
  · split at h
    · exact absurd rfl h
    · omega
def opqV (n : Node) : Bool := decide (n.kind = 1) && opqQ n
theorem xkfb {n : Node} (h : NV n) : xhd n = some (opqQ n) := by
  have := xxr (n := { n with entries := [] }) ⟨by simp, h.has0, h.has1⟩
  exact this
theorem x0fb {n : Node} (h : NV n) : xid n = some (opqQ n) := by
  have := xas (n := { n with entries := [] }) ⟨by simp, h.has0, h.has1⟩
  exact this
theorem xwy {n : Node} (h : NV n) : xze n = some (opqV n) := by
  have e : xze n = if n.kind = 1 then xhd n else some false := rfl
  rw [e, xkfb h]
  unfold opqV
  by_cases hk : n.kind = 1 <;> simp [hk]
theorem xju {n : Node} (h : NV n) : x7e n = some (opqV n) := by
  unfold x7e
  rw [x0fb h]
  unfold opqV
  by_cases hk : n.kind = 1 <;> simp [hk]
def rootV (s : Stack) : View := ⟨if (nodeP s.upper 1).kind = 1 then 1 else 0, if opqV (nodeP s.upper 1) = true then [] else rootsQ s.lowers⟩
theorem xacb {s : Stack} (h : SV s) : x2j s = some (rootV s) := by
  unfold x2j rootV
  rw [xk1, xek h]
  simp only [Option.bind_some]
  rw [xwy (x9f h.up 1), xf5 h.low]
  simp only [Option.bind_some]
  by_cases hk : (nodeP s.upper 1).kind = 1
  · rw [if_pos hk, if_pos hk]
    cases opqV (nodeP s.upper 1) <;> rfl
  · rw [if_neg hk, if_neg hk]
    cases opqV (nodeP s.upper 1) <;> rfl
theorem xqbb {s : Stack} (h : SV s) : x9h s = some (rootV s) := by
  unfold x9h rootV
  rw [atv_eq h]
  simp only [Option.bind_some]
  rw [xju (x9f h.up 1), xe2 h.low]
  simp only [Option.bind_some]
  by_cases hk : (nodeP s.upper 1).kind = 1
  · rw [if_pos hk, if_pos hk]
    cases opqV (nodeP s.upper 1) <;> rfl
  · rw [if_neg hk, if_neg hk]
    have : ¬ opqV (nodeP s.upper 1) = true := by simp [opqV, hk]
    rw [if_neg this]
theorem x88 {s : Stack} (h : SV s) : (rootV s).lower.length ≤ 3 := by
  show (if opqV (nodeP s.upper 1) = true then [] else rootsQ s.lowers).length ≤ 3
  split
  · simp
  · exact xdo h.low
theorem bits2 (k : Fin 32) : bAnd .i64 (k.val : Int) 2 = 0 ↔ ¬ (wr ((k.val : Int).tdiv 2)).tmod 2 = 1 := by
  revert k
  decide +kernel
def redB (n : Node) : Bool := decide ((wr (n.attr.has.tdiv 2)).tmod 2 = 1)
theorem x26 {n : Node} (h : NV n) : bAnd .i64 n.attr.has 2 = 0 ↔ ¬ redB n = true := by
  have e : ((n.attr.has.toNat : Nat) : Int) = n.attr.has := by have := h.has0; omega
  have hb := bits2 ⟨n.attr.has.toNat, by have := h.has0; have := h.has1; omega⟩
  simp only [e] at hb
  rw [hb]
  simp [redB]
theorem xmbb {n : Node} (h : NV n) : x9c n.attr 2 = some (redB n) := by
  unfold x9c xmh redB ck
  rw [if_pos h.has0, if_pos (by decide)]
  simp only [Option.bind_some]
  by_cases hq : (wr (n.attr.has.tdiv 2)).tmod 2 = 1
  · rw [if_pos hq]; exact congrArg some (decide_eq_true hq).symm
  · rw [if_neg hq]; exact congrArg some (decide_eq_false hq).symm
theorem xfdb (s : ByteArray) : xld s = some (redirP s) := by
  by_cases h : s.size ≤ 2000000
  · exact xx2 h
  · unfold xld redirP
    rw [if_pos (by omega), if_pos (by omega)]
theorem xl9 (s : ByteArray) : xdd s = some (redirP s) := by
  by_cases h : s.size ≤ 2000000
  · exact xtz h
  · unfold xdd redirP
    rw [if_pos (by omega), if_pos (by omega)]
theorem xdz (s : ByteArray) : (redirP s).1.length ≤ 1000 := by
  unfold redirP
  split
  · simp
  · split
    · rename_i h1 h2
      unfold splitP
      split
      · simp
      · split
        · have := x9n s; simp only; omega
        · simp
    · split <;> simp
theorem xqz {s : ByteArray} (h : (redirP s).2.2 = true) (h2 : ¬ (redirP s).2.1 = true) : ∃ x, (redirP s).1 = [x] := by
  unfold redirP at h h2 ⊢
  split
  · rename_i h1; rw [if_pos h1] at h; cases h
  · rename_i h1
    rw [if_neg h1] at h h2
    split
    · rename_i h3; rw [if_pos h3] at h h2; exact absurd h h2
    · rename_i h3
      rw [if_neg h3] at h
      split
      · exact ⟨_, rfl⟩
      · rename_i h4; rw [if_neg h4] at h; cases h
def dirsV (s : Stack) (l : List Place) (nm : ByteArray) : List Place := if (findQ s.lowers l nm).1 = 1 then (findQ s.lowers l nm).2 else []
def partV (s : Stack) (v : View) (n : Node) (nm : ByteArray) : List Place :=
  if n.kind = 1 then if opqQ n = true then [] else if redB n = true then
    if (redirP n.attr.redirect).2.2 = true then if (redirP n.attr.redirect).2.1 = true then (lookQ s.lowers (rootsQ s.lowers) (redirP n.attr.redirect).1).1 else dirsV s v.lower ((redirP n.attr.redirect).1.headD xl) else []
    else dirsV s v.lower nm else []
theorem xh7 {s : Stack} (h : SV s) {l : List Place} (hl : l.length ≤ 1000) (nm : ByteArray) : x6c s l nm = some (dirsV s l nm) := by
  unfold x6c dirsV
  rw [x8v h.low hl]
  simp only [Option.bind_some]
  split <;> rfl
theorem xufb {s : Stack} (h : SV s) {v : View} (hv : v.lower.length ≤ 1000) {n : Node} (hn : NV n) (nm : ByteArray) : x0e s v n nm = some (partV s v n nm) := by
  unfold x0e partV
  by_cases hk : n.kind = 1
  · rw [if_pos hk, if_pos hk, xwy hn]
    have eo : opqV n = opqQ n := by simp [opqV, hk]
    rw [eo]
    simp only [Option.bind_some]
    by_cases ho : opqQ n = true
    · rw [if_pos ho, if_pos ho]
    · rw [if_neg ho, if_neg ho, if_neg (by have := hn.has0; omega), xh7 h hv]
      simp only [Option.bind_some]
      by_cases hr : redB n = true
      · rw [if_neg (fun e => (x26 hn).1 e hr), if_pos hr, xfdb]
        simp only [Option.bind_some]
        by_cases hok : (redirP n.attr.redirect).2.2 = true
        · rw [if_neg (by simp [hok]), if_pos hok]
          by_cases ha : (redirP n.attr.redirect).2.1 = true
          · have hrl := xdo h.low
            rw [if_pos ha, if_pos ha, xf5 h.low]
            simp only [Option.bind_some]
            rw [xsdb h.low (by omega) (xdz _)]
            rfl
          · rw [if_neg ha, if_neg ha]
            obtain ⟨x, hx⟩ := xqz hok ha
            rw [hx]
            have : ix [x] 0 = some x := rfl
            rw [this]
            simp only [Option.bind_some, List.headD_cons]
            rw [xh7 h hv]
            rfl
        · rw [if_pos (by simpa using hok), if_neg hok]
      · rw [if_pos ((x26 hn).2 hr), if_neg hr]
  · rw [if_neg hk, if_neg hk]
theorem xobb {s : Stack} (h : SV s) {v : View} (hv : v.lower.length ≤ 1000) (ino : Int) (nm : ByteArray) : x6h s v ino nm = some (partV s v (nodeP s.upper ino) nm) := by
  unfold x6h
  rw [atv_eq h]
  simp only [Option.bind_some]
  have hn := x9f h.up ino
  generalize nodeP s.upper ino = n at hn
  unfold partV
  by_cases hk : n.kind = 1
  · rw [if_pos hk, if_pos hk, xju hn]
    have eo : opqV n = opqQ n := by simp [opqV, hk]
    rw [eo]
    simp only [Option.bind_some]
    by_cases ho : opqQ n = true
    · rw [if_pos ho, if_pos ho]
    · rw [if_neg ho, if_neg ho, xmbb hn]
      simp only [Option.bind_some]
      by_cases hr : redB n = true
      · rw [if_pos hr, if_pos hr, xl9]
        simp only [Option.bind_some]
        by_cases hok : (redirP n.attr.redirect).2.2 = true
        · rw [if_neg (by simp [hok]), if_pos hok]
          by_cases ha : (redirP n.attr.redirect).2.1 = true
          · have hrl := xdo h.low
            rw [if_pos ha, if_pos ha, xe2 h.low]
            simp only [Option.bind_some]
            rw [xbcb h.low (by omega) (xdz _)]
            rfl
          · rw [if_neg ha, if_neg ha]
            obtain ⟨x, hx⟩ := xqz hok ha
            rw [hx]
            have : ix [x] 0 = some x := rfl
            rw [this]
            simp only [Option.bind_some, List.headD_cons]
            rw [xfp h.low hv]
            simp only [Option.bind_some, dirsV]
            split <;> rfl
        · rw [if_pos (by simpa using hok), if_neg hok]
      · rw [if_neg hr, if_neg hr, xfp h.low hv]
        simp only [Option.bind_some, dirsV]
        split <;> rfl
  · rw [if_neg hk, if_neg hk]
theorem xu1 (s : Stack) (l : List Place) (nm : ByteArray) : (dirsV s l nm).length ≤ l.length := by
  unfold dirsV
  split
  · exact xun _ _ _
  · simp
theorem xbab {s : Stack} (h : SV s) {v : View} {m : Nat} (hv : v.lower.length ≤ m) (hm : 3 ≤ m) (n : Node) (nm : ByteArray) : (partV s v n nm).length ≤ m := by
  unfold partV
  split
  · split
    · simp
    · split
      · split
        · split
          · have h1 := xx1 (bs := s.lowers) (redirP n.attr.redirect).1 (rootsQ s.lowers)
            have h2 := xdo h.low
            omega
          · exact Nat.le_trans (xu1 _ _ _) hv
        · simp
      · exact Nat.le_trans (xu1 _ _ _) hv
  · simp
def entF (s : Stack) (nm : ByteArray) (e : Entry) : Bool := decide (e.name = nm) && !decide ((nodeP s.upper e.ino).kind = 0)
def entV (s : Stack) (v : View) (nm : ByteArray) : Option Entry := if (nodeP s.upper v.upper).kind = 1 then (nodeP s.upper v.upper).entries.find? (entF s nm) else none
theorem xmfb {s : Stack} (h : SV s) (nm : ByteArray) (e : Entry) : x2c e nm s = some (entF s nm e) := by
  unfold x2c entF
  by_cases hn : e.name = nm
  · rw [if_pos hn, xek h]
    simp only [Option.bind_some]
    by_cases hk : (nodeP s.upper e.ino).kind = 0 <;> simp [hk, hn]
  · rw [if_neg hn]; simp [hn]
theorem x24 {α : Type} {p : α → Option Bool} (f : α → Bool) : ∀ (l : List α) (i : Nat), (∀ x ∈ l, p x = some (f x)) → (l.find? f = none ∧ idxM p l i = some (-1)) ∨ ∃ (k : Nat) (hk : k < l.length), l.find? f = some l[k] ∧ idxM p l i = some (((i + k : Nat)) : Int)
  | [], i, _ => .inl ⟨rfl, rfl⟩
  | x :: l, i, h => by
    unfold idxM
    rw [h x (by simp), List.find?_cons]
    simp only [Option.bind_some]
    cases hf : f x with
    | true => exact .inr ⟨0, by simp, rfl, by simp⟩
    | false =>
      simp only [Bool.false_eq_true, if_false]
      rcases x24 f l (i + 1) (fun y hy => h y (by simp [hy])) with ⟨h1, h2⟩ | ⟨k, hk, h1, h2⟩
      · exact .inl ⟨h1, h2⟩
      · exact .inr ⟨k + 1, by simp; omega, by simpa using h1, by rw [h2]; congr 2; omega⟩
theorem xb8 {s : Stack} (h : SV s) (v : View) (nm : ByteArray) : xle s v nm = some (match entV s v nm with | some e => e.ino | none => 0) := by
  unfold xle entV
  rw [xek h]
  simp only [Option.bind_some]
  have hn := (x9f h.up v.upper).ents
  by_cases hk : (nodeP s.upper v.upper).kind = 1
  · rw [if_pos hk, if_pos hk]
    unfold indexM ck
    rw [if_pos (by omega)]
    simp only [Option.bind_some]
    rcases x24 (entF s nm) (nodeP s.upper v.upper).entries 0 (fun x _ => xmfb h nm x) with ⟨h1, h2⟩ | ⟨k, hk, h1, h2⟩
    · rw [h1, h2]
      simp
    · rw [h1, h2]
      simp only [Option.bind_some, Nat.zero_add]
      rw [if_neg (by omega), ix_at hk]
      rfl
  · rw [if_neg hk, if_neg hk]
theorem xi6 {s : Stack} (h : SV s) (v : View) (nm : ByteArray) : xih s v nm = some (match entV s v nm with | some e => (e, true) | none => (⟨0, 0, xl⟩, false)) := by
  unfold xih entV
  rw [atv_eq h]
  simp only [Option.bind_some]
  have hn := (x9f h.up v.upper).ents
  by_cases hk : (nodeP s.upper v.upper).kind = 1
  · rw [if_pos hk]
    rw [xev (B := x6d s nm (nodeP s.upper v.upper)) (xs := (nodeP s.upper v.upper).entries) (fun e => if entF s nm e = true then some (e, true) else none) (by omega)]
    · simp only [Option.bind_some]
      have key : ∀ l : List Entry, l.findSome? (fun e => if entF s nm e = true then some (e, true) else none) = (l.find? (entF s nm)).map fun e => (e, true) := by
        intro l
        induction l with
        | nil => rfl
        | cons e l ih =>
          rw [List.findSome?_cons, List.find?_cons]
          cases hf : entF s nm e <;> simp [ih]
      rw [key]
      cases List.find? (entF s nm) (nodeP s.upper v.upper).entries <;> rfl
    · intro i hi
      simp only [x6d]
      rw [if_pos (by omega), if_pos hk, ix_at hi]
      simp only [Option.bind_some, entF]
      by_cases he : (nodeP s.upper v.upper).entries[i].name = nm
      · rw [if_pos he, atv_eq h]
        simp only [Option.bind_some]
        by_cases h0 : (nodeP s.upper (nodeP s.upper v.upper).entries[i].ino).kind = 0
        · rw [if_pos h0, wr_suc (by omega)]; simp [h0, he]
        · rw [if_neg h0]; simp [h0, he]
      · rw [if_neg he, wr_suc (by omega)]; simp [he]
    · simp only [x6d]
      rw [if_neg (by omega)]
  · rw [if_neg hk, show big = 999999999999999999 + 1 from rfl, xyf]
    simp only [x6d]
    by_cases h0 : (0 : Int) < ((nodeP s.upper v.upper).entries.length : Int)
    · rw [if_pos h0, if_neg hk]; rfl
    · rw [if_neg h0]; rfl
theorem xr1 {s : Stack} {v : View} {nm : ByteArray} {e : Entry} (h : entV s v nm = some e) : ¬ (nodeP s.upper e.ino).kind = 0 ∧ (nodeP s.upper v.upper).kind = 1 ∧ e ∈ (nodeP s.upper v.upper).entries ∧ e.name = nm := by
  unfold entV at h
  split at h
  · rename_i hk
    have h1 := List.find?_some h
    have h2 := List.mem_of_find?_eq_some h
    unfold entF at h1
    simp only [Bool.and_eq_true, decide_eq_true_eq, Bool.not_eq_true', decide_eq_false_iff_not] at h1
    exact ⟨h1.2, hk, h2, h1.1⟩
  · cases h
def lowV (r : Int × List Place) : Int × View × Place := if r.1 = 0 then (0, ⟨0, []⟩, ⟨0, 0⟩) else if r.1 = 1 then (r.1, ⟨0, r.2⟩, r.2.headD ⟨0, 0⟩) else (r.1, ⟨0, []⟩, r.2.headD ⟨0, 0⟩)
def upV (s : Stack) (v : View) (nm : ByteArray) (e : Entry) : Int × View × Place :=
  if (nodeP s.upper e.ino).kind = 1 then (1, ⟨e.ino, partV s v (nodeP s.upper e.ino) nm⟩, ⟨0, e.ino⟩)
  else if (nodeP s.upper e.ino).kind = 2 then ((nodeP s.upper e.ino).kind, ⟨0, []⟩, ⟨0, e.ino⟩)
  else if (nodeP s.upper e.ino).kind = 3 then ((nodeP s.upper e.ino).kind, ⟨0, []⟩, ⟨0, e.ino⟩) else (0, ⟨0, []⟩, ⟨0, 0⟩)
def stpV (s : Stack) (v : View) (nm : ByteArray) : Int × View × Place := match entV s v nm with
  | some e => upV s v nm e
  | none => lowV (findQ s.lowers v.lower nm)
theorem low_eq {bs : List Branch} {l : List Place} {nm : ByteArray} : (if (findQ bs l nm).1 = 0 then some (0, (⟨0, []⟩ : View), (⟨0, 0⟩ : Place)) else if (findQ bs l nm).1 = 1 then (ix (findQ bs l nm).2 0).bind fun p => some ((findQ bs l nm).1, (⟨0, (findQ bs l nm).2⟩ : View), p) else (ix (findQ bs l nm).2 0).bind fun p => some ((findQ bs l nm).1, (⟨0, []⟩ : View), p)) = some (lowV (findQ bs l nm)) := by
  have hq := x8x bs l nm
  generalize findQ bs l nm = r at hq
  unfold lowV
  by_cases h0 : r.1 = 0
  · rw [if_pos h0, if_pos h0]
  · rw [if_neg h0, if_neg h0]
    have hs := hq.some.resolve_left h0
    obtain ⟨k, l⟩ := r
    cases l with
    | nil => simp at hs
    | cons p l =>
      have : ix (p :: l) 0 = some p := rfl
      simp only [this, Option.bind_some, List.headD_cons]
      split <;> rfl
theorem x66 {s : Stack} (h : SV s) {v : View} (hv : v.lower.length ≤ 1000) (nm : ByteArray) : xfg s v nm = some (stpV s v nm) := by
  unfold xfg stpV
  rw [xk1, xb8 h]
  simp only [Option.bind_some]
  cases he : entV s v nm with
  | none =>
    simp only
    rw [if_neg (by omega), x8v h.low hv]
    exact low_eq
  | some e =>
    obtain ⟨h1, h2, h3, h4⟩ := xr1 he
    have := xz8 h1
    simp only
    rw [if_pos (by omega), xek h]
    simp only [Option.bind_some]
    rw [xufb h hv (x9f h.up e.ino)]
    simp only [Option.bind_some]
    unfold upV
    split
    · rfl
    · split
      · rfl
      · split <;> rfl
theorem x23 {s : Stack} (h : SV s) {v : View} (hv : v.lower.length ≤ 1000) (nm : ByteArray) : xje s v nm = some (stpV s v nm) := by
  unfold xje stpV
  rw [xi6 h]
  simp only [Option.bind_some]
  cases he : entV s v nm with
  | none =>
    simp only [Bool.false_eq_true, if_false]
    rw [xfp h.low hv]
    exact low_eq
  | some e =>
    simp only [if_true]
    rw [atv_eq h]
    simp only [Option.bind_some]
    rw [xobb h hv]
    simp only [Option.bind_some]
    unfold upV
    split
    · rfl
    · split
      · rfl
      · split <;> rfl
theorem xzbb {s : Stack} (h : SV s) {v : View} {m : Nat} (hv : v.lower.length ≤ m) (hm : 3 ≤ m) (nm : ByteArray) : (stpV s v nm).2.1.lower.length ≤ m := by
  unfold stpV
  split
  · unfold upV
    split
    · exact xbab h hv hm _ _
    · split
      · simp
      · split <;> simp
  · unfold lowV
    split
    · simp
    · split
      · exact Nat.le_trans (xun _ _ _) hv
      · simp
end Go.Proofs.YtfefidkblgendaaGreatDoor.AL

/- Plain laws of chapter 17: names, views compared. -/
set_option linter.all false
namespace Go.Proofs.YtfefidkblgendaaGreatDoor.AL
open Go Go.Proofs
theorem xqu {α β : Type} {B : (List β × Int) → Option (St (List β × Int) (List β))} (xs : List α) (f : α → List β) (k m : Nat) (hf : ∀ x ∈ xs, (f x).length ≤ k)
    (hB : ∀ (i : Nat) (d : List β) (h : i < xs.length), d.length ≤ m → B (d, (i : Int)) = some (.nx (d ++ f xs[i], ((i + 1 : Nat) : Int)))) (hE : ∀ d : List β, B (d, (xs.length : Int)) = some (.out d))
    {d : List β} (hd : d.length + k * xs.length ≤ m) (hx : xs.length ≤ 1000000) : iter B big (d, 0) = some (d ++ xs.flatMap f) := by
  have := xfi (B := B) (fun i d => (d, (i : Int))) xs (fun d x => d ++ f x) (fun d => d) (fun i d' => d'.length ≤ d.length + k * i) (by
    intro i d' hi hd'
    have h1 : k * i ≤ k * xs.length := Nat.mul_le_mul_left k (by omega)
    have h2 := hf _ (List.getElem_mem hi)
    have h3 : k * (i + 1) = k * i + k := by rw [Nat.mul_add, Nat.mul_one]
    refine ⟨hB i d' hi (by omega), ?_⟩
    rw [List.length_append]
    omega) (fun d' _ => hE d') (s0 := d) (by simp) (fuel := big) (by rw [big_eq]; omega)
  have e0 : ((0 : Nat) : Int) = 0 := rfl
  rw [e0] at this
  rw [this.1]
  congr 1
  have key : ∀ (l : List α) (d : List β), l.foldl (fun d x => d ++ f x) d = d ++ l.flatMap f := by
    intro l
    induction l with
    | nil => intro d; simp
    | cons x l ih => intro d; rw [List.foldl_cons, ih, List.flatMap_cons, List.append_assoc]
  exact key xs d
theorem fm_map {α β : Type} (f : α → β) (l : List α) : l.flatMap (fun x => [f x]) = l.map f := by
  induction l with
  | nil => rfl
  | cons x l ih => rw [List.flatMap_cons, ih]; rfl
theorem xgab {α : Type} (p : α → Bool) (l : List α) : l.flatMap (fun x => if p x = true then [x] else []) = l.filter p := by
  induction l with
  | nil => rfl
  | cons x l ih =>
    rw [List.flatMap_cons, ih, List.filter_cons]
    split <;> rfl
def upN (s : Stack) (v : View) : List ByteArray := if (nodeP s.upper v.upper).kind = 1 then (nodeP s.upper v.upper).entries.map (·.name) else []
def shB (s : Stack) (v : View) (nm : ByteArray) : Bool := !decide ((stpV s v nm).1 = 0)
def namesV (s : Stack) (v : View) : List ByteArray := sortQ ((namesQ s.lowers v.lower ++ upN s v).filter (shB s v))
theorem xe4 (p : ByteArray → Bool) (l : List ByteArray) : (sortQ l).filter p = sortQ (l.filter p) :=
  x0r (List.Pairwise.filter p (xsi l)) (xsi _) fun x => by rw [List.mem_filter, xbi, xbi, List.mem_filter]
theorem xx0 {s : Stack} (h : SV s) (v : View) : (upN s v).length ≤ 32 := by
  unfold upN
  split
  · rw [List.length_map]; exact (x9f h.up _).ents
  · simp
theorem xv8 {s : Stack} (h : SV s) {v : View} (hv : v.lower.length ≤ 1000) (nm : ByteArray) : xhc nm s v = some (!shB s v nm) := by
  unfold xhc shB
  rw [x66 h hv]
  simp only [Option.bind_some]
  by_cases hk : (stpV s v nm).1 = 0 <;> simp [hk]
theorem xo7 {n : Node} (h : NV n) {d : List ByteArray} (hd : d.length ≤ 800000) : iter (xqe n) big (d, 0) = some (d ++ n.entries.map (·.name)) := by
  have hn := h.ents
  rw [xqu n.entries (fun e => [e.name]) 1 900000 (fun _ _ => Nat.le_refl 1) _ _ (by omega) (by omega), fm_map]
  · intro i d hi hd
    simp only [xqe]
    rw [if_pos (by omega), ix_at hi]
    simp only [Option.bind_some]
    rw [ap_of (by simp; omega) (by decide), wr_suc (by omega)]
    rfl
  · intro d
    simp only [xqe]
    rw [if_neg (by omega)]
theorem xd7 {s : Stack} (h : SV s) {v : View} (hv : v.lower.length ≤ 1000) {l : List ByteArray} (hl : l.length ≤ 1000000) : (x0c l).bind (fun v58 => (xlg (fun z => xhc z s v) v58).bind fun v60 => some v60) = some (sortQ (l.filter (shB s v))) := by
  rw [xu3 hl]
  simp only [Option.bind_some]
  have hsl := xfq l
  unfold xlg ck
  rw [if_pos (by omega)]
  simp only [Option.bind_some]
  rw [x4x (fun z => !shB s v z) _ fun x _ => xv8 h hv x]
  simp only [Option.bind_some, Bool.not_not]
  rw [xe4]
theorem x64 (s : Stack) (v : View) : xjf s v = (x5j s v.lower).bind fun v35 => (x0b s v.upper).bind fun v38 => if v38.kind = 1 then (iter (xqe v38) big (v35, 0)).bind fun v48 => (x0c v48).bind fun v58 => (xlg (fun z => xhc z s v) v58).bind fun v60 => some v60
    else (x0c v35).bind fun v62 => (xlg (fun z => xhc z s v) v62).bind fun v64 => some v64 := by
  have e : xml s v = xkf s v.lower := rfl
  unfold xjf x5j
  rw [e]
  simp only [Option.bind_assoc, Option.bind_some]
theorem xb2 {s : Stack} (h : SV s) {v : View} (hv : v.lower.length ≤ 1000) : xjf s v = some (namesV s v) := by
  rw [x64, x0cb h.low hv]
  simp only [Option.bind_some]
  rw [xek h]
  simp only [Option.bind_some]
  have hl := x2r h.low v.lower
  have hu := xx0 h v
  unfold namesV
  by_cases hk : (nodeP s.upper v.upper).kind = 1
  · rw [if_pos hk, xo7 (x9f h.up _) (by omega)]
    have e : upN s v = (nodeP s.upper v.upper).entries.map (·.name) := if_pos hk
    rw [← e]
    simp only [Option.bind_some]
    exact xd7 h hv (by rw [List.length_append]; omega)
  · rw [if_neg hk]
    have e : upN s v = [] := if_neg hk
    rw [e, List.append_nil]
    exact xd7 h hv (by omega)
theorem xj5 (s : Stack) (v : View) : xpf s v = (x9j s v.lower).bind fun v43 => (x3c s.upper v.upper).bind fun v113 => (iter (xed v113) big (v43, 0)).bind fun v121 => (iter (x4d s v v121) big (([] : List ByteArray), 0)).bind fun v139 => (xrd v139).bind fun v153 => some v153 := by
  have e : xik s v = xif s v.lower := rfl
  have e2 : xdk = xve := rfl
  unfold xpf x9j xrd
  rw [e, e2]
  simp only [Option.bind_assoc, Option.bind_some]
theorem xo4 {n : Node} (h : NV n) {d : List ByteArray} (hd : d.length ≤ 800000) : iter (xed n) big (d, 0) = some (if n.kind = 1 then d ++ n.entries.map (·.name) else d) := by
  have hn := h.ents
  by_cases hk : n.kind = 1
  · rw [if_pos hk, xqu n.entries (fun e => [e.name]) 1 900000 (fun _ _ => Nat.le_refl 1) _ _ (by omega) (by omega), fm_map]
    · intro i d hi hd
      simp only [xed]
      rw [if_pos (by omega), if_pos hk, ix_at hi]
      simp only [Option.bind_some]
      rw [ap_of (by simp; omega) (by decide), wr_suc (by omega)]
      rfl
    · intro d
      simp only [xed]
      rw [if_neg (by omega)]
  · rw [if_neg hk, show big = 999999999999999999 + 1 from rfl, xyf]
    simp only [xed]
    split <;> rfl
theorem x08 {s : Stack} (h : SV s) {v : View} (hv : v.lower.length ≤ 1000) {l : List ByteArray} (hl : l.length ≤ 800000) : iter (x4d s v l) big (([] : List ByteArray), 0) = some (l.filter (shB s v)) := by
  rw [xqu l (fun e => if shB s v e = true then [e] else []) 1 900000 (fun _ _ => by split <;> simp) _ _ (by simp; omega) (by omega), xgab, List.nil_append]
  · intro i d hi hd
    simp only [x4d]
    rw [if_pos (by omega), ix_at hi]
    simp only [Option.bind_some]
    rw [x23 h hv, wr_suc (by omega)]
    simp only [Option.bind_some]
    by_cases hk : (stpV s v l[i]).1 = 0
    · have : ¬ shB s v l[i] = true := by simp [shB, hk]
      rw [if_pos hk, if_neg this, List.append_nil]
    · have : shB s v l[i] = true := by simp [shB, hk]
      rw [if_neg hk, if_pos this, ap_of (by simp; omega) (by decide)]
      rfl
  · intro d
    simp only [x4d]
    rw [if_neg (by omega)]
theorem xh6 {s : Stack} (h : SV s) {v : View} (hv : v.lower.length ≤ 1000) : xpf s v = some (namesV s v) := by
  rw [xj5, xc9 h.low hv]
  simp only [Option.bind_some]
  rw [atv_eq h]
  simp only [Option.bind_some]
  have hl := x2r h.low v.lower
  have hu := xx0 h v
  rw [xo4 (x9f h.up _) (by omega)]
  simp only [Option.bind_some]
  have e : (if (nodeP s.upper v.upper).kind = 1 then namesQ s.lowers v.lower ++ (nodeP s.upper v.upper).entries.map (·.name) else namesQ s.lowers v.lower) = namesQ s.lowers v.lower ++ upN s v := by
    unfold upN
    split
    · rfl
    · simp
  rw [e, x08 h hv (by rw [List.length_append]; omega)]
  simp only [Option.bind_some]
  have hf := List.length_filter_le (shB s v) (namesQ s.lowers v.lower ++ upN s v)
  rw [List.length_append] at hf
  rw [xs4 (by omega), xsw]
  rfl
theorem x1y {s : Stack} (h : SV s) {v : View} {m : Nat} (hv : v.lower.length ≤ m) : (namesV s v).length ≤ 16 * m + 32 := by
  have hl := x2r h.low v.lower
  have hu := xx0 h v
  have hf := List.length_filter_le (shB s v) (namesQ s.lowers v.lower ++ upN s v)
  rw [List.length_append] at hf
  have := xfq ((namesQ s.lowers v.lower ++ upN s v).filter (shB s v))
  unfold namesV
  omega
theorem xu7 {s : Stack} (v : View) (nm : ByteArray) : nm ∈ namesV s v ↔ ¬ (stpV s v nm).1 = 0 := by
  unfold namesV
  rw [xbi, List.mem_filter, List.mem_append, xz7]
  have hs : shB s v nm = true ↔ ¬ (stpV s v nm).1 = 0 := by simp [shB]
  rw [hs]
  constructor
  · exact fun h => h.2
  · intro h
    refine ⟨?_, h⟩
    unfold stpV at h
    cases he : entV s v nm with
    | none =>
      rw [he] at h
      left
      intro h0
      apply h
      show (lowV (findQ s.lowers v.lower nm)).1 = 0
      unfold lowV
      rw [if_pos h0]
    | some e =>
      obtain ⟨h1, h2, h3, h4⟩ := xr1 he
      right
      unfold upN
      rw [if_pos h2]
      exact List.mem_map.2 ⟨e, h3, h4⟩
end Go.Proofs.YtfefidkblgendaaGreatDoor.AL

