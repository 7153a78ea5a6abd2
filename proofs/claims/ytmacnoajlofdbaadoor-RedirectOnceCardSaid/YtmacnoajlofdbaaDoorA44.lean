/- A law of the given program is proved: part 44 of 49. -/
import Derived.Test.YtmacnoajlofdbaaDoorA43
set_option linter.all false
/- Models of functions, and that the functions are as their models: written by gen.py. -/
set_option linter.all false
set_option maxRecDepth 100000
namespace Go.Proofs.YtmacnoajlofdbaaDoor.AL
open Go Go.Proofs
def xkd (a0 : List ByteArray) (a1 : ByteArray) : Option (Bool) := (xkc a1).bind fun v1 => if (!v1.2.2) = true then some false
 else if v1.2.1 = true then (x4g v1.1 a0).bind fun v7 => some v7
 else if 0 < (a0.length : Int) then (slM a0 (some (wr ((a0.length : Int) - 1))) none).bind fun v11 => (x6b v11 v1.1).bind fun v14 => some v14
 else some false
def xnd := aI (aI (@EV) (@R3)) (aI (@R9) (@R61))
set_option maxHeartbeats 2000000 in
theorem x0k (a0 : List ByteArray) (a1 : ByteArray) (r : Bool) (hm0 : xkd a0 a1 = some r) : Ok Tryd.prog 19 [.sl 1 (a0.map str), str a1] (bool r) := by
 unfold xkd at hm0
 refine okG xfs ?_
 unfold xml
 obtain ⟨v1, h2, hm0⟩ := bsE hm0
 simp only [xnd, ↓EVd, isCall, sevalprocAttr]
 refine qc (x9i _ _ h2) rfl ?_
 rcases itbE hm0 with ⟨e4, hm0⟩ | ⟨e4, hm0⟩
 · obtain rfl := Option.some.inj hm0
   simp only [e4, xnd, ↓EVd, isCall, sevalprocAttr]
   all_goals first | done | rfl
 rcases itbE hm0 with ⟨e6, hm0⟩ | ⟨e6, hm0⟩
 · obtain ⟨v7, h8, hm0⟩ := bsE hm0
   simp only [e4, e6, xnd, ↓EVd, isCall, sevalprocAttr]
   refine qc (xsv _ _ _ h8) rfl ?_
   obtain rfl := Option.some.inj hm0
   simp only [e4, e6, xnd, ↓EVd, isCall, sevalprocAttr]
   all_goals first | done | rfl
 rcases iteE hm0 with ⟨e10, hm0⟩ | ⟨e10, hm0⟩
 · obtain ⟨v11, h12, hm0⟩ := bsE hm0
   have e13 := show xuf Tryd.prog 61 (.sl 1 (a0.map str)) (some (int (wr ((a0.length : Int) - 1)))) none none = some (.sl 1 (v11.map str)) from x8u xnf aggN_9 str h12
   obtain ⟨v14, h15, hm0⟩ := bsE hm0
   simp only [e4, e6, e10, e13, xnd, ↓EVd, isCall, sevalprocAttr]
   refine qc (x2f _ _ _ h15) rfl ?_
   obtain rfl := Option.some.inj hm0
   simp only [e4, e6, e10, e13, xnd, ↓EVd, isCall, sevalprocAttr]
   all_goals first | done | rfl
 obtain rfl := Option.some.inj hm0
 simp only [e4, e6, e10, xnd, ↓EVd, isCall, sevalprocAttr]
 all_goals first | done | rfl
def xic (a0 : Node) : Option (Bool) := if 0 ≤ a0.attr.has then if (bAnd .i64 a0.attr.has 2) = 0 then some false
 else some true
 else some false
def xjg := aI (aI (aI (@EV) (@R3)) (aI (@R45) (@R47))) (aI (aI (@DOrigin) (@DAttr)) (aI (@DNode) (@DEntry)))
set_option maxHeartbeats 2000000 in
theorem x0i (a0 : Node) (r : Bool) (hm0 : xic a0 = some r) : Ok Tryd.prog 28 [xe a0] (bool r) := by
 unfold xic at hm0
 refine okG xum ?_
 unfold xlj
 rcases iteE hm0 with ⟨e2, hm0⟩ | ⟨e2, hm0⟩
 · rcases iteE hm0 with ⟨e4, hm0⟩ | ⟨e4, hm0⟩
   · obtain rfl := Option.some.inj hm0
     simp only [e2, e4, xjg, ↓EVd, isCall, sevalprocAttr]
     all_goals first | done | rfl
   obtain rfl := Option.some.inj hm0
   simp only [e2, e4, xjg, ↓EVd, isCall, sevalprocAttr]
   all_goals first | done | rfl
 obtain rfl := Option.some.inj hm0
 simp only [e2, xjg, ↓EVd, isCall, sevalprocAttr]
 all_goals first | done | rfl
def xlc (a0 : redirect_tree) (a1 : Int) : Option (Node) := (ix a0.stack.upper.nodes (wr (a1 - 1))).bind fun v1 => some v1
def xmo := aI (aI (aI (aI (@EV) (@R3)) (aI (@R24) (@R26))) (aI (aI (@R29) (@R47)) (aI (@R77) (@DBranch)))) (aI (aI (aI (@DStack) (@DOrigin)) (aI (@DAttr) (@DNode))) (aI (aI (@DPlace) (@DWay)) (aI (@DEntry) (aI (@xgg) (@DView)))))
set_option maxHeartbeats 2000000 in
theorem x9f (a0 : redirect_tree) (a1 : Int) (r : Node) (hm0 : xlc a0 a1 = some r) : Ok Tryd.prog 29 [xo a0, int a1] (xe r) := by
 unfold xlc at hm0
 refine okG xpn ?_
 unfold x7j
 obtain ⟨v1, e3, hm0⟩ := ixE xe hm0
 obtain rfl := Option.some.inj hm0
 simp only [e3, xmo, ↓EVd, isCall, sevalprocAttr]
 all_goals first | done | rfl | exact xg (by simp only [CLO])
def xhc (a0 : redirect_tree) (a1 : Int) : Option (Place) := (ix a0.views a1).bind fun v1 => if 0 < (v1.lower.length : Int) then (ix v1.lower 0).bind fun v6 => some v6
 else some (⟨0, 0⟩ : Place)
def xfj := aI (aI (aI (aI (@EV) (@R3)) (aI (@R63) (@R65))) (aI (aI (@R75) (@R77)) (aI (@R112) (@DBranch)))) (aI (aI (aI (@DStack) (@DOrigin)) (aI (@DAttr) (@DNode))) (aI (aI (@DPlace) (@DWay)) (aI (@DEntry) (aI (@xgg) (@DView)))))
set_option maxHeartbeats 2000000 in
theorem x0f (a0 : redirect_tree) (a1 : Int) (r : Place) (hm0 : xhc a0 a1 = some r) : Ok Tryd.prog 39 [xo a0, int a1] (xj r) := by
 unfold xhc at hm0
 refine okG x2m ?_
 unfold xdj
 obtain ⟨v1, e3, hm0⟩ := ixE xac hm0
 rcases iteE hm0 with ⟨e5, hm0⟩ | ⟨e5, hm0⟩
 · obtain ⟨v6, e8, hm0⟩ := ixE xj hm0
   try simp only [sevalprocAttr, eq_self, true_and] at e8
   obtain rfl := Option.some.inj hm0
   simp only [e3, e5, e8, xfj, ↓EVd, isCall, sevalprocAttr]
   all_goals first | done | rfl | exact xg (by simp only [CLO])
 have e9 : (.agg [int 0, int 0] : AV) = xj (⟨0, 0⟩ : Place) := _root_.id rfl
 obtain rfl := Option.some.inj hm0
 simp only [e3, e5, e9, xfj, ↓EVd, isCall, sevalprocAttr]
 all_goals first | done | rfl | exact xg (by simp only [CLO])
def xed (a0 : redirect_tree) (a1 : Int) : Option (Int) := (ix a0.ways a1).bind fun v1 => (xlc a0 v1.ino).bind fun v4 => (xkc v4.attr.redirect).bind fun v6 => if (!v6.2.2) = true then some 9
 else if v1.up < 0 then some 9
 else (x3i a0.ways a1).bind fun v12 => (xkd v12 v4.attr.redirect).bind fun v14 => if v14 = true then some 10
 else (ix a0.views a1).bind fun v18 => if (v18.lower.length : Int) = 0 then (xid v4).bind fun v23 => if (!v23) = true then some 11
 else some 0
 else some 0
def xlb := aI (aI (aI (aI (@EV) (aI (@R3) (@R9))) (aI (@R45) (aI (@R47) (@R61)))) (aI (aI (@R63) (aI (@R65) (@R68))) (aI (@R71) (aI (@R75) (@R77))))) (aI (aI (aI (@R112) (aI (@DBranch) (@DStack))) (aI (@DOrigin) (aI (@DAttr) (@DNode)))) (aI (aI (@DPlace) (aI (@DWay) (@DEntry))) (aI (@xgg) (aI (@DView) (@mixed)))))
set_option maxHeartbeats 2000000 in
theorem x5l (a0 : redirect_tree) (a1 : Int) (r : Int) (hm0 : xed a0 a1 = some r) : Ok Tryd.prog 43 [xo a0, int a1] (int r) := by
 unfold xed at hm0
 refine okG x4l ?_
 unfold xti
 obtain ⟨v1, e3, hm0⟩ := ixE encWay hm0
 obtain ⟨v4, h5, hm0⟩ := bsE hm0
 simp only [e3, xlb, ↓EVd, isCall, sevalprocAttr]
 refine qd (x9f _ _ _ h5) rfl ?_
 obtain ⟨v6, h7, hm0⟩ := bsE hm0
 simp only [e3, xlb, ↓EVd, isCall, sevalprocAttr]
 refine qc (x9i _ _ h7) rfl ?_
 rcases itbE hm0 with ⟨e9, hm0⟩ | ⟨e9, hm0⟩
 · obtain rfl := Option.some.inj hm0
   simp only [e3, e9, xlb, ↓EVd, isCall, sevalprocAttr]
   all_goals first | done | rfl
 rcases iteE hm0 with ⟨e11, hm0⟩ | ⟨e11, hm0⟩
 · obtain rfl := Option.some.inj hm0
   simp only [e3, e9, e11, xlb, ↓EVd, isCall, sevalprocAttr]
   all_goals first | done | rfl
 obtain ⟨v12, h13, hm0⟩ := bsE hm0
 simp only [e3, e9, e11, xlb, ↓EVd, isCall, sevalprocAttr]
 refine qd (x2y _ _ _ h13) rfl ?_
 obtain ⟨v14, h15, hm0⟩ := bsE hm0
 simp only [e3, e9, e11, xlb, ↓EVd, isCall, sevalprocAttr]
 refine qd (x0k _ _ _ h15) rfl ?_
 rcases itbE hm0 with ⟨e17, hm0⟩ | ⟨e17, hm0⟩
 · obtain rfl := Option.some.inj hm0
   simp only [e3, e9, e11, e17, xlb, ↓EVd, isCall, sevalprocAttr]
   all_goals first | done | rfl
 obtain ⟨v18, e20, hm0⟩ := ixE xac hm0
 rcases iteE hm0 with ⟨e22, hm0⟩ | ⟨e22, hm0⟩
 · obtain ⟨v23, h24, hm0⟩ := bsE hm0
   simp only [e3, e9, e11, e17, e20, e22, xlb, ↓EVd, isCall, sevalprocAttr]
   refine qc (xei _ _ h24) rfl ?_
   rcases itbE hm0 with ⟨e26, hm0⟩ | ⟨e26, hm0⟩
   · obtain rfl := Option.some.inj hm0
     simp only [e3, e9, e11, e17, e20, e22, e26, xlb, ↓EVd, isCall, sevalprocAttr]
     all_goals first | done | rfl
   obtain rfl := Option.some.inj hm0
   simp only [e3, e9, e11, e17, e20, e22, e26, xlb, ↓EVd, isCall, sevalprocAttr]
   all_goals first | done | rfl
 obtain rfl := Option.some.inj hm0
 simp only [e3, e9, e11, e17, e20, e22, xlb, ↓EVd, isCall, sevalprocAttr]
 all_goals first | done | rfl
def x0j (a0 : Stack) (v1 : List Way × List View) : (List Place × Int) → Option (St (List Place × Int) (List Place))
 | (v6, v7) => if v7 < (v1.1.length : Int) then (xhc (⟨(⟨(⟨a0.geo.lowers, a0.geo.inodes, a0.geo.blocks, a0.geo.log⟩ : Geo), (⟨a0.upper.nodes⟩ : Branch), a0.lowers⟩ : Stack), v1.1, v1.2⟩ : redirect_tree) v7).bind fun v13 => (ap 16 v6 ([v13] : List Place)).bind fun _ => some (.nx ((v6 ++ ([v13] : List Place)), (wr (v7 + 1))))
 else some (.out v6)
def x4f (a0 : Stack) : Option (List Place) := (xch a0).bind fun v1 => (iter (x0j a0 v1) big ([], 0)).bind fun o => (match o with
 | v10 => some v10)
def xyb := aI (aI (aI (aI (@EV) (@R3)) (aI (@R29) (@R63))) (aI (aI (@R65) (@R68)) (aI (@R71) (aI (@R77) (@DBranch))))) (aI (aI (aI (@DStack) (@DOrigin)) (aI (@DAttr) (@DNode))) (aI (aI (@DPlace) (@DWay)) (aI (@DEntry) (aI (@xgg) (@DView)))))
set_option maxHeartbeats 2000000 in
theorem xeq (a0 : Stack) (r : List Place) (hm0 : x4f a0 = some r) : Ok Tryd.prog 21 [xx a0] (.sl 2 (r.map xj)) := by
 unfold x4f at hm0
 refine okG xgr ?_
 unfold x5k
 simp only [xyb, ↓EVd, isCall, sevalprocAttr]
 refine xtc (acallF xpl (by simp) ?_) rfl
 unfold xsj
 obtain ⟨v1, h2, hm0⟩ := bsE hm0
 simp only [xyb, ↓EVd, isCall, sevalprocAttr]
 refine qc (xtp _ _ h2) rfl ?_
 have e3 : (.agg [int a0.geo.lowers, int a0.geo.inodes, int a0.geo.blocks, int a0.geo.log, .sl 13 (a0.upper.nodes.map xe), .sl 1 (a0.lowers.map xk), .sl 3 (v1.1.map encWay), .sl 2 (v1.2.map xac)] : AV) = xo (⟨(⟨(⟨a0.geo.lowers, a0.geo.inodes, a0.geo.blocks, a0.geo.log⟩ : Geo), (⟨a0.upper.nodes⟩ : Branch), a0.lowers⟩ : Stack), v1.1, v1.2⟩ : redirect_tree) := _root_.id rfl
 obtain ⟨o0, ho0, hm0⟩ := bsE hm0
 simp only [e3, xyb, ↓EVd, isCall, sevalprocAttr]
 refine cwp_cx 0 (fun s => ∃ v10 : List Place, ∃ l9 : Nat, (s.T 4 = .msl l9 v10.length ∧ s.H l9 = some (.row 65 2 (v10.map xj)) ∧ Lq l9 s.nx) ∧ v10 = o0) ?_ fun J0_0 hJ0_0 => ?_
 · rintro T0 H0 x8 ⟨v10, l9, kk0_0, rfl⟩
   dsimp only [Lq, Nq] at kk0_0
   try dsimp only at hm0
   obtain rfl := Option.some.inj hm0
   simp only [kk0_0, e3, xyb, ↓EVd, isCall, sevalprocAttr]
   all_goals first | done | rfl | exact frzR_e (by simp only [kk0_0, e3, FZ, CLO, xyb, ↓EVd, isCall, sevalprocAttr])
 refine cwp_lp ho0 (fun (v6, v7) s => ∃ l5 : Nat, s.T 3 = .loc 4 8 0 0 ∧ s.T 4 = .msl l5 v6.length ∧ s.T 10 = int (v1.1.length : Int) ∧ s.T 11 = int v7 ∧ s.H 4 = some (.row 77 8 [xo (⟨(⟨(⟨a0.geo.lowers, a0.geo.inodes, a0.geo.blocks, a0.geo.log⟩ : Geo), (⟨a0.upper.nodes⟩ : Branch), a0.lowers⟩ : Stack), v1.1, v1.2⟩ : redirect_tree)]) ∧ s.H l5 = some (.row 65 2 (v6.map xj)) ∧ Lq 4 s.nx ∧ Lq l5 s.nx ∧ Nq 4 l5) ?_ ?_
 · refine TI.by (Tn.adopt 4 65 2 (by simp only [e3, xyb, ↓EVd, isCall, sevalprocAttr])) ?_
   refine TI.here ⟨25, ?_, ?_, ?_, ?_, ?_, ?_, ?_, ?_, ?_⟩
   all_goals try simp only [e3, xyb, ↓EVd, isCall, sevalprocAttr]
   all_goals first | omega | exact lq (by omega) | exact nq (by omega) | rfl | (congr 1; omega)
 rintro I0 ⟨v6, v7⟩ T0 H0 x4 st0 ⟨l5, kk0⟩ hm1 hI0 hO0
 dsimp only [Lq, Nq] at kk0
 simp only [x0j] at hm1
 rcases iteE hm1 with ⟨e12, hm1⟩ | ⟨e12, hm1⟩
 · obtain ⟨v13, h14, hm1⟩ := bsE hm1
   simp only [kk0, e3, e12, xyb, ↓EVd, isCall, sevalprocAttr]
   refine qc (x0f _ _ _ h14) rfl ?_
   obtain ⟨e17, hm1⟩ := apE hm1
   try simp only [ZL] at e17
   obtain rfl := Option.some.inj hm1
   simp only [kk0, e3, e12, e17, xyb, ↓EVd, isCall, sevalprocAttr]
   refine TI.here (hI0 _ rfl _ ⟨(x4 + 8), ?_, ?_, ?_, ?_, ?_, ?_, ?_, ?_, ?_⟩)
   all_goals try simp only [kk0, e3, e12, e17, xyb, ↓EVd, isCall, sevalprocAttr]
   all_goals first | omega | exact lq (by omega) | exact nq (by omega) | rfl | (congr 1; omega)
 obtain rfl := Option.some.inj hm1
 simp only [kk0, e3, e12, xyb, ↓EVd, isCall, sevalprocAttr]
 refine TI.here (hJ0_0 _ ⟨v6, l5, ⟨?_, ?_, ?_⟩, hO0 _ rfl⟩)
 all_goals try simp only [kk0, e3, e12, xyb, ↓EVd, isCall, sevalprocAttr]
 all_goals first | omega | exact lq (by omega) | exact nq (by omega) | rfl | (congr 1; omega)
def xqc (a0 : Stack) (v1 : List Way × List View) : (List Int × Int × MapK Place) → Option (St (List Int × Int × MapK Place) (MapK Place × List Int))
 | (v6, v7, v8) => if v7 < (v1.1.length : Int) then (ix v1.1 v7).bind fun v15 => (xlc (⟨(⟨(⟨a0.geo.lowers, a0.geo.inodes, a0.geo.blocks, a0.geo.log⟩ : Geo), (⟨a0.upper.nodes⟩ : Branch), a0.lowers⟩ : Stack), v1.1, v1.2⟩ : redirect_tree) v15.ino).bind fun v18 => (xic v18).bind fun v20 => if v20 = true then (ap 8 v6 ([v7] : List Int)).bind fun _ => some (.nx ((v6 ++ ([v7] : List Int)), (wr (v7 + 1)), v8))
 else (xhc (⟨(⟨(⟨a0.geo.lowers, a0.geo.inodes, a0.geo.blocks, a0.geo.log⟩ : Geo), (⟨a0.upper.nodes⟩ : Branch), a0.lowers⟩ : Stack), v1.1, v1.2⟩ : redirect_tree) v7).bind fun v28 => (mstoK (mentM v8 v28) ((bornK v8 v28 : Nat) : Int) (wr ((mgetK v8 v28) + 1))).bind fun v30 => some (.nx (v6, (wr (v7 + 1)), v30))
 else some (.out (v8, v6))
def xpc (a0 : Stack) (v1 : List Way × List View) (v12 : List Int) : (Int × List (Int × Int) × MapK Place) → Option (St (Int × List (Int × Int) × MapK Place) (List (Int × Int)))
 | (v36, v37, v38) => if v36 < (v12.length : Int) then (ix v12 v36).bind fun v43 => (xed (⟨(⟨(⟨a0.geo.lowers, a0.geo.inodes, a0.geo.blocks, a0.geo.log⟩ : Geo), (⟨a0.upper.nodes⟩ : Branch), a0.lowers⟩ : Stack), v1.1, v1.2⟩ : redirect_tree) v43).bind fun v46 => (xhc (⟨(⟨(⟨a0.geo.lowers, a0.geo.inodes, a0.geo.blocks, a0.geo.log⟩ : Geo), (⟨a0.upper.nodes⟩ : Branch), a0.lowers⟩ : Stack), v1.1, v1.2⟩ : redirect_tree) v43).bind fun v48 => if v46 = 0 then if (decide (v48 = (⟨0, 0⟩ : Place))) = true then (ix v1.1 v43).bind fun v55 => some (.nx ((wr (v36 + 1)), (mset v37 v55.ino v46), v38))
 else if 0 < (mgetK v38 v48) then (ix v1.1 v43).bind fun v60 => some (.nx ((wr (v36 + 1)), (mset v37 v60.ino 12), v38))
 else (mstoK (mentM v38 v48) ((bornK v38 v48 : Nat) : Int) (wr ((mgetK v38 v48) + 1))).bind fun v63 => (ix v1.1 v43).bind fun v66 => some (.nx ((wr (v36 + 1)), (mset v37 v66.ino v46), v63))
 else (ix v1.1 v43).bind fun v69 => some (.nx ((wr (v36 + 1)), (mset v37 v69.ino v46), v38))
 else some (.out v37)
def xdd (a0 : Stack) (v1 : List Way × List View) (v40 : List (Int × Int)) (v72 : List Bool) : (List Finding × Int) → Option (St (List Finding × Int) (List Finding))
 | (v76, v77) => if v77 < (v72.length : Int) then (ix v72 v77).bind fun v83 => if (!v83) = true then some (.nx (v76, (wr (v77 + 1))))
 else (xlc (⟨(⟨(⟨a0.geo.lowers, a0.geo.inodes, a0.geo.blocks, a0.geo.log⟩ : Geo), (⟨a0.upper.nodes⟩ : Branch), a0.lowers⟩ : Stack), v1.1, v1.2⟩ : redirect_tree) (wr (v77 + 1))).bind fun v88 => (xic v88).bind fun v90 => if (!v90) = true then some (.nx (v76, (wr (v77 + 1))))
 else if (!(mhas v40 (wr (v77 + 1)))) = true then (ap 32 v76 ([(⟨9, 0, (wr (v77 + 1)), (-1)⟩ : Finding)] : List Finding)).bind fun _ => some (.nx ((v76 ++ ([(⟨9, 0, (wr (v77 + 1)), (-1)⟩ : Finding)] : List Finding)), (wr (v77 + 1))))
 else if (mget v40 (wr (v77 + 1))) = 0 then some (.nx (v76, (wr (v77 + 1))))
 else (ap 32 v76 ([(⟨(mget v40 (wr (v77 + 1))), 0, (wr (v77 + 1)), (-1)⟩ : Finding)] : List Finding)).bind fun _ => some (.nx ((v76 ++ ([(⟨(mget v40 (wr (v77 + 1))), 0, (wr (v77 + 1)), (-1)⟩ : Finding)] : List Finding)), (wr (v77 + 1))))
 else some (.out v76)
def x7b (a0 : Stack) : Option (List Finding) := (xch a0).bind fun v1 => (iter (xqc a0 v1) big ([], 0, (emptyK : MapK Place))).bind fun o => (match o with
 | (v10, v12) => (iter (xpc a0 v1 v12) big (0, ([] : List (Int × Int)), (mdelK v10 (⟨0, 0⟩ : Place)))).bind fun o => (match o with
 | v40 => (xph a0.upper ([1] : List Int)).bind fun v72 => (iter (xdd a0 v1 v40 v72) big ([], 0)).bind fun o => (match o with
 | v80 => some v80)))
def xb := aI (aI (aI (aI (@EV) (aI (@R3) (@R4))) (aI (aI (@R26) (@R29)) (aI (@R32) (@R34)))) (aI (aI (aI (@R35) (@R38)) (aI (@R47) (@R65))) (aI (aI (@R68) (@R71)) (aI (@R77) (@R79))))) (aI (aI (aI (@DBranch) (aI (@DStack) (@DFinding))) (aI (aI (@DOrigin) (@DAttr)) (aI (@DNode) (@DPlace)))) (aI (aI (aI (@DWay) (@DEntry)) (aI (@xgg) (@DView))) (aI (aI (@KM99) (@eq65)) (aI (@xx7) (@mixed)))))
set_option maxHeartbeats 2000000 in
theorem xze (a0 : Stack) (r : List Finding) (hm0 : x7b a0 = some r) : Ok Tryd.prog 7 [xx a0] (.sl 4 (r.map xq)) := by
 unfold x7b at hm0
 refine okG xun ?_
 unfold xak
 simp only [xb, ↓EVd, isCall, sevalprocAttr]
 refine xz3 ?_
 simp only [xb, ↓EVd, isCall, sevalprocAttr]
 refine xtc (acallF xpl (by simp) ?_) rfl
 unfold xsj
 obtain ⟨v1, h2, hm0⟩ := bsE hm0
 simp only [xb, ↓EVd, isCall, sevalprocAttr]
 refine qc (xtp _ _ h2) rfl ?_
 have e3 : (.agg [int a0.geo.lowers, int a0.geo.inodes, int a0.geo.blocks, int a0.geo.log, .sl 13 (a0.upper.nodes.map xe), .sl 1 (a0.lowers.map xk), .sl 3 (v1.1.map encWay), .sl 2 (v1.2.map xac)] : AV) = xo (⟨(⟨(⟨a0.geo.lowers, a0.geo.inodes, a0.geo.blocks, a0.geo.log⟩ : Geo), (⟨a0.upper.nodes⟩ : Branch), a0.lowers⟩ : Stack), v1.1, v1.2⟩ : redirect_tree) := _root_.id rfl
 simp only [e3, xb, ↓EVd, isCall, sevalprocAttr]
 refine xtc (acallF xzl (by simp) ?_) rfl
 unfold xpi
 obtain ⟨o0, ho0, hm0⟩ := bsE hm0
 simp only [e3, xb, ↓EVd, isCall, sevalprocAttr]
 refine cwp_cx 0 (fun s => ∃ v10 : MapK Place, ∃ v12 : List Int, ∃ l11 : Nat, (s.T 1 = .loc 23 8 0 0 ∧ s.T 3 = .mp 25 ∧ s.T 4 = .mp 27 ∧ s.T 5 = .msl l11 v12.length ∧ s.H 0 = some (.row 29 6 [xx a0]) ∧ s.H 4 = some (.row 77 8 [xo (⟨(⟨(⟨a0.geo.lowers, a0.geo.inodes, a0.geo.blocks, a0.geo.log⟩ : Geo), (⟨a0.upper.nodes⟩ : Branch), a0.lowers⟩ : Stack), v1.1, v1.2⟩ : redirect_tree)]) ∧ s.H 23 = some (.row 77 8 [xo (⟨(⟨(⟨a0.geo.lowers, a0.geo.inodes, a0.geo.blocks, a0.geo.log⟩ : Geo), (⟨a0.upper.nodes⟩ : Branch), a0.lowers⟩ : Stack), v1.1, v1.2⟩ : redirect_tree)]) ∧ s.H 25 = some (.map (([] : List (Int × Int)).map (kI .i64)) (([] : List (Int × Int)).map fun p => .val (.int .i64 p.2))) ∧ s.H 27 = some (kOb kv_65 v10) ∧ s.H l11 = some (.row 3 1 (v12.map int)) ∧ Lq 0 s.nx ∧ Lq 4 s.nx ∧ Lq 23 s.nx ∧ Lq 25 s.nx ∧ Lq 27 s.nx ∧ Lq l11 s.nx ∧ Nq 0 l11 ∧ Nq 4 l11 ∧ Nq 23 l11 ∧ Nq 25 l11 ∧ Nq 27 l11) ∧ (v10, v12) = o0) ?_ fun J0_0 hJ0_0 => ?_
 · rintro T0 H0 x9 ⟨v10, v12, l11, kk0_0, rfl⟩
   dsimp only [Lq, Nq] at kk0_0
   try dsimp only at hm0
   have e33 : (.agg [int 0, int 0] : AV) = xj (⟨0, 0⟩ : Place) := _root_.id rfl
   have e34 : (.agg [int 0, int 0] : AV) = xj (⟨0, 0⟩ : Place) := _root_.id rfl
   obtain ⟨o1, ho1, hm0⟩ := bsE hm0
   simp only [kk0_0, e3, e33, e34, xb, ↓EVd, isCall, sevalprocAttr]
   refine cwp_cx 2 (fun s => ∃ v40 : List (Int × Int), (s.T 3 = .mp 25 ∧ s.H 0 = some (.row 29 6 [xx a0]) ∧ s.H 4 = some (.row 77 8 [xo (⟨(⟨(⟨a0.geo.lowers, a0.geo.inodes, a0.geo.blocks, a0.geo.log⟩ : Geo), (⟨a0.upper.nodes⟩ : Branch), a0.lowers⟩ : Stack), v1.1, v1.2⟩ : redirect_tree)]) ∧ s.H 25 = some (.map (v40.map (kI .i64)) (v40.map fun p => .val (.int .i64 p.2))) ∧ Lq 0 s.nx ∧ Lq 4 s.nx ∧ Lq 25 s.nx) ∧ v40 = o1) ?_ fun J1_0 hJ1_0 => ?_
   · rintro T1 H1 x39 ⟨v40, kk1_0, rfl⟩
     dsimp only [Lq, Nq] at kk1_0
     try dsimp only at hm0
     obtain ⟨v72, h73, hm0⟩ := bsE hm0
     simp only [kk1_0, kk0_0, e3, e33, e34, xb, ↓EVd, isCall, sevalprocAttr]
     refine qcq (xzy _ _ _ h73) rfl (by simp only [kk1_0, kk0_0, e3, e33, e34, FQ, CLO, xb, ↓EVd, isCall, sevalprocAttr]; first | done | rfl) ?_
     obtain ⟨o2, ho2, hm0⟩ := bsE hm0
     simp only [kk1_0, kk0_0, e3, e33, e34, xb, ↓EVd, isCall, sevalprocAttr]
     refine cwp_cx 0 (fun s => ∃ v80 : List Finding, ∃ l79 : Nat, (s.T 5 = .msl l79 v80.length ∧ s.H l79 = some (.row 38 4 (v80.map xq)) ∧ Lq l79 s.nx) ∧ v80 = o2) ?_ fun J2_0 hJ2_0 => ?_
     · rintro T2 H2 x78 ⟨v80, l79, kk2_0, rfl⟩
       dsimp only [Lq, Nq] at kk2_0
       try dsimp only at hm0
       obtain rfl := Option.some.inj hm0
       simp only [kk2_0, kk1_0, kk0_0, e3, e33, e34, xb, ↓EVd, isCall, sevalprocAttr]
       all_goals first | done | rfl | exact frzR_e (by simp only [kk2_0, kk1_0, kk0_0, e3, e33, e34, FZ, CLO, xb, ↓EVd, isCall, sevalprocAttr])
     refine cwp_lp ho2 (fun (v76, v77) s => ∃ l75 : Nat, s.T 3 = .loc 4 8 0 0 ∧ s.T 4 = .mp 25 ∧ s.T 5 = .msl l75 v76.length ∧ s.T 17 = .sl 1 (v72.map bool) ∧ s.T 18 = int (v72.length : Int) ∧ s.T 19 = int v77 ∧ s.H 4 = some (.row 77 8 [xo (⟨(⟨(⟨a0.geo.lowers, a0.geo.inodes, a0.geo.blocks, a0.geo.log⟩ : Geo), (⟨a0.upper.nodes⟩ : Branch), a0.lowers⟩ : Stack), v1.1, v1.2⟩ : redirect_tree)]) ∧ s.H 25 = some (.map (v40.map (kI .i64)) (v40.map fun p => .val (.int .i64 p.2))) ∧ s.H l75 = some (.row 38 4 (v76.map xq)) ∧ Lq 4 s.nx ∧ Lq 25 s.nx ∧ Lq l75 s.nx ∧ Nq 4 l75 ∧ Nq 25 l75) ?_ ?_
     · refine TI.by (Tn.adopt 5 38 4 (by simp only [kk1_0, kk0_0, e3, e33, e34, xb, ↓EVd, isCall, sevalprocAttr])) ?_
       refine TI.here ⟨(x39 + 9), ?_, ?_, ?_, ?_, ?_, ?_, ?_, ?_, ?_, ?_, ?_, ?_, ?_, ?_⟩
       all_goals try simp only [kk1_0, kk0_0, e3, e33, e34, xb, ↓EVd, isCall, sevalprocAttr]
       all_goals first | omega | exact lq (by omega) | exact nq (by omega) | rfl | (congr 1; omega)
     rintro I2 ⟨v76, v77⟩ T2 H2 x74 st2 ⟨l75, kk2⟩ hm1 hI2 hO2
     dsimp only [Lq, Nq] at kk2
     simp only [xdd] at hm1
     rcases iteE hm1 with ⟨e82, hm1⟩ | ⟨e82, hm1⟩
     · obtain ⟨v83, e85, hm1⟩ := ixE bool hm1
       rcases itbE hm1 with ⟨e87, hm1⟩ | ⟨e87, hm1⟩
       · obtain rfl := Option.some.inj hm1
         simp only [kk2, kk1_0, kk0_0, e3, e33, e34, e82, e85, e87, xb, ↓EVd, isCall, sevalprocAttr]
         refine TI.here (hI2 _ rfl _ ⟨l75, ?_, ?_, ?_, ?_, ?_, ?_, ?_, ?_, ?_, ?_, ?_, ?_, ?_, ?_⟩)
         all_goals try simp only [kk2, kk1_0, kk0_0, e3, e33, e34, e82, e85, e87, xb, ↓EVd, isCall, sevalprocAttr]
         all_goals first | omega | exact lq (by omega) | exact nq (by omega) | rfl | (congr 1; omega)
       obtain ⟨v88, h89, hm1⟩ := bsE hm1
       simp only [kk2, kk1_0, kk0_0, e3, e33, e34, e82, e85, e87, xb, ↓EVd, isCall, sevalprocAttr]
       refine qc (x9f _ _ _ h89) rfl ?_
       obtain ⟨v90, h91, hm1⟩ := bsE hm1
       simp only [kk2, kk1_0, kk0_0, e3, e33, e34, e82, e85, e87, xb, ↓EVd, isCall, sevalprocAttr]
       refine qc (x0i _ _ h91) rfl ?_
       rcases itbE hm1 with ⟨e93, hm1⟩ | ⟨e93, hm1⟩
       · obtain rfl := Option.some.inj hm1
         simp only [kk2, kk1_0, kk0_0, e3, e33, e34, e82, e85, e87, e93, xb, ↓EVd, isCall, sevalprocAttr]
         refine TI.here (hI2 _ rfl _ ⟨l75, ?_, ?_, ?_, ?_, ?_, ?_, ?_, ?_, ?_, ?_, ?_, ?_, ?_, ?_⟩)
         all_goals try simp only [kk2, kk1_0, kk0_0, e3, e33, e34, e82, e85, e87, e93, xb, ↓EVd, isCall, sevalprocAttr]
         all_goals first | omega | exact lq (by omega) | exact nq (by omega) | rfl | (congr 1; omega)
       rcases itbE hm1 with ⟨e95, hm1⟩ | ⟨e95, hm1⟩
       · have e96 : (.agg [int 9, int 0, int (wr (v77 + 1)), int (-1)] : AV) = xq (⟨9, 0, (wr (v77 + 1)), (-1)⟩ : Finding) := _root_.id rfl
         obtain ⟨e99, hm1⟩ := apE hm1
         try simp only [ZL] at e99
         obtain rfl := Option.some.inj hm1
         simp only [kk2, kk1_0, kk0_0, e3, e33, e34, e82, e85, e87, e93, e95, e96, e99, xb, ↓EVd, isCall, sevalprocAttr]
         refine TI.here (hI2 _ rfl _ ⟨(x74 + 35), ?_, ?_, ?_, ?_, ?_, ?_, ?_, ?_, ?_, ?_, ?_, ?_, ?_, ?_⟩)
         all_goals try simp only [kk2, kk1_0, kk0_0, e3, e33, e34, e82, e85, e87, e93, e95, e96, e99, xb, ↓EVd, isCall, sevalprocAttr]
         all_goals first | omega | exact lq (by omega) | exact nq (by omega) | rfl | (congr 1; omega)
       have g108 := And.intro (And.intro (And.intro ((e3)) ((e33))) (And.intro ((e34)) ((e82)))) (And.intro (And.intro ((e85)) ((e87))) (And.intro ((e93)) ((e95))))
       rcases iteE hm1 with ⟨e102, hm1⟩ | ⟨e102, hm1⟩
       · obtain rfl := Option.some.inj hm1
         simp only [kk2, kk1_0, kk0_0, g108, e102, xb, ↓EVd, isCall, sevalprocAttr]
         refine TI.here (hI2 _ rfl _ ⟨l75, ?_, ?_, ?_, ?_, ?_, ?_, ?_, ?_, ?_, ?_, ?_, ?_, ?_, ?_⟩)
         all_goals try simp only [kk2, kk1_0, kk0_0, g108, e102, xb, ↓EVd, isCall, sevalprocAttr]
         all_goals first | omega | exact lq (by omega) | exact nq (by omega) | rfl | (congr 1; omega)
       have e103 : (.agg [int (mget v40 (wr (v77 + 1))), int 0, int (wr (v77 + 1)), int (-1)] : AV) = xq (⟨(mget v40 (wr (v77 + 1))), 0, (wr (v77 + 1)), (-1)⟩ : Finding) := _root_.id rfl
       obtain ⟨e106, hm1⟩ := apE hm1
       try simp only [ZL] at e106
       obtain rfl := Option.some.inj hm1
       simp only [kk2, kk1_0, kk0_0, g108, e102, e103, e106, xb, ↓EVd, isCall, sevalprocAttr]
       refine TI.here (hI2 _ rfl _ ⟨(x74 + 37), ?_, ?_, ?_, ?_, ?_, ?_, ?_, ?_, ?_, ?_, ?_, ?_, ?_, ?_⟩)
       all_goals try simp only [kk2, kk1_0, kk0_0, g108, e102, e103, e106, xb, ↓EVd, isCall, sevalprocAttr]
       all_goals first | omega | exact lq (by omega) | exact nq (by omega) | rfl | (congr 1; omega)
     obtain rfl := Option.some.inj hm1
     simp only [kk2, kk1_0, kk0_0, e3, e33, e34, e82, xb, ↓EVd, isCall, sevalprocAttr]
     refine TI.here (hJ2_0 _ ⟨v76, l75, ⟨?_, ?_, ?_⟩, hO2 _ rfl⟩)
     all_goals try simp only [kk2, kk1_0, kk0_0, e3, e33, e34, e82, xb, ↓EVd, isCall, sevalprocAttr]
     all_goals first | omega | exact lq (by omega) | exact nq (by omega) | rfl | (congr 1; omega)
   refine cwp_lp ho1 (fun (v36, v37, v38) s => s.T 1 = .loc 23 8 0 0 ∧ s.T 3 = .mp 25 ∧ s.T 4 = .mp 27 ∧ s.T 42 = .msl l11 v12.length ∧ s.T 43 = int (v12.length : Int) ∧ s.T 44 = int v36 ∧ s.H 0 = some (.row 29 6 [xx a0]) ∧ s.H 4 = some (.row 77 8 [xo (⟨(⟨(⟨a0.geo.lowers, a0.geo.inodes, a0.geo.blocks, a0.geo.log⟩ : Geo), (⟨a0.upper.nodes⟩ : Branch), a0.lowers⟩ : Stack), v1.1, v1.2⟩ : redirect_tree)]) ∧ s.H 23 = some (.row 77 8 [xo (⟨(⟨(⟨a0.geo.lowers, a0.geo.inodes, a0.geo.blocks, a0.geo.log⟩ : Geo), (⟨a0.upper.nodes⟩ : Branch), a0.lowers⟩ : Stack), v1.1, v1.2⟩ : redirect_tree)]) ∧ s.H 25 = some (.map (v37.map (kI .i64)) (v37.map fun p => .val (.int .i64 p.2))) ∧ s.H 27 = some (kOb kv_65 v38) ∧ s.H l11 = some (.row 3 1 (v12.map int)) ∧ Lq 0 s.nx ∧ Lq 4 s.nx ∧ Lq 23 s.nx ∧ Lq 25 s.nx ∧ Lq 27 s.nx ∧ Lq l11 s.nx ∧ Nq 0 l11 ∧ Nq 4 l11 ∧ Nq 23 l11 ∧ Nq 25 l11 ∧ Nq 27 l11) ?_ ?_
   · refine TI.here ⟨?_, ?_, ?_, ?_, ?_, ?_, ?_, ?_, ?_, ?_, ?_, ?_, ?_, ?_, ?_, ?_, ?_, ?_, ?_, ?_, ?_, ?_, ?_⟩
     all_goals try simp only [kk0_0, e3, e33, e34, xb, ↓EVd, isCall, sevalprocAttr]
     all_goals first | omega | exact lq (by omega) | exact nq (by omega) | rfl | (congr 1; omega)
   rintro I1 ⟨v36, v37, v38⟩ T1 H1 x35 st1 kk1 hm1 hI1 hO1
   dsimp only [Lq, Nq] at kk1
   simp only [xpc] at hm1
   rcases iteE hm1 with ⟨e42, hm1⟩ | ⟨e42, hm1⟩
   · obtain ⟨v43, e45, hm1⟩ := ixE int hm1
     obtain ⟨v46, h47, hm1⟩ := bsE hm1
     simp only [kk1, kk0_0, e3, e33, e34, e42, e45, xb, ↓EVd, isCall, sevalprocAttr]
     refine qd (x5l _ _ _ h47) rfl ?_
     obtain ⟨v48, h49, hm1⟩ := bsE hm1
     simp only [kk1, kk0_0, e3, e33, e34, e42, e45, xb, ↓EVd, isCall, sevalprocAttr]
     refine qd (x0f _ _ _ h49) rfl ?_
     rcases iteE hm1 with ⟨e51, hm1⟩ | ⟨e51, hm1⟩
     · have e52 : (.agg [int 0, int 0] : AV) = xj (⟨0, 0⟩ : Place) := _root_.id rfl
       rcases itbE hm1 with ⟨e54, hm1⟩ | ⟨e54, hm1⟩
       · obtain ⟨v55, e57, hm1⟩ := ixE encWay hm1
         obtain rfl := Option.some.inj hm1
         simp only [kk1, kk0_0, e3, e33, e34, e42, e45, e51, e52, e54, e57, xb, ↓EVd, isCall, sevalprocAttr]
         refine TI.here (hI1 _ rfl _ ⟨?_, ?_, ?_, ?_, ?_, ?_, ?_, ?_, ?_, ?_, ?_, ?_, ?_, ?_, ?_, ?_, ?_, ?_, ?_, ?_, ?_, ?_, ?_⟩)
         all_goals try simp only [kk1, kk0_0, e3, e33, e34, e42, e45, e51, e52, e54, e57, xb, ↓EVd, isCall, sevalprocAttr]
         all_goals first | omega | exact lq (by omega) | exact nq (by omega) | rfl | (congr 1; omega)
       have g109 := And.intro (And.intro (And.intro ((e3)) ((e33))) (And.intro ((e34)) ((e42)))) (And.intro (And.intro ((e45)) ((e51))) (And.intro ((e52)) ((e54))))
       rcases iteE hm1 with ⟨e59, hm1⟩ | ⟨e59, hm1⟩
       · obtain ⟨v60, e62, hm1⟩ := ixE encWay hm1
         obtain rfl := Option.some.inj hm1
         simp only [kk1, kk0_0, g109, e59, e62, xb, ↓EVd, isCall, sevalprocAttr]
         refine TI.here (hI1 _ rfl _ ⟨?_, ?_, ?_, ?_, ?_, ?_, ?_, ?_, ?_, ?_, ?_, ?_, ?_, ?_, ?_, ?_, ?_, ?_, ?_, ?_, ?_, ?_, ?_⟩)
         all_goals try simp only [kk1, kk0_0, g109, e59, e62, xb, ↓EVd, isCall, sevalprocAttr]
         all_goals first | omega | exact lq (by omega) | exact nq (by omega) | rfl | (congr 1; omega)
       simp only [kk1, kk0_0, g109, e59, xb, ↓EVd, isCall, sevalprocAttr]
       refine fineI [([], []), ([(x35 + 10)], []), ([27], []), ([], []), ([], [27]), ([], []), ([], [27])] rfl (by simp only [MT, sevalprocAttr]; first | done | omega) ?_
       obtain ⟨v63, h64, hm1⟩ := bsE hm1
       have e65 := esI kv_65 h64
       obtain ⟨v66, e68, hm1⟩ := ixE encWay hm1
       obtain rfl := Option.some.inj hm1
       simp only [kk1, kk0_0, g109, e59, e65, e68, xb, ↓EVd, isCall, sevalprocAttr]
       refine TI.here (hI1 _ rfl _ ⟨?_, ?_, ?_, ?_, ?_, ?_, ?_, ?_, ?_, ?_, ?_, ?_, ?_, ?_, ?_, ?_, ?_, ?_, ?_, ?_, ?_, ?_, ?_⟩)
       all_goals try simp only [kk1, kk0_0, g109, e59, e65, e68, xb, ↓EVd, isCall, sevalprocAttr]
       all_goals first | omega | exact lq (by omega) | exact nq (by omega) | rfl | (congr 1; omega)
     obtain ⟨v69, e71, hm1⟩ := ixE encWay hm1
     obtain rfl := Option.some.inj hm1
     simp only [kk1, kk0_0, e3, e33, e34, e42, e45, e51, e71, xb, ↓EVd, isCall, sevalprocAttr]
     refine TI.here (hI1 _ rfl _ ⟨?_, ?_, ?_, ?_, ?_, ?_, ?_, ?_, ?_, ?_, ?_, ?_, ?_, ?_, ?_, ?_, ?_, ?_, ?_, ?_, ?_, ?_, ?_⟩)
     all_goals try simp only [kk1, kk0_0, e3, e33, e34, e42, e45, e51, e71, xb, ↓EVd, isCall, sevalprocAttr]
     all_goals first | omega | exact lq (by omega) | exact nq (by omega) | rfl | (congr 1; omega)
   obtain rfl := Option.some.inj hm1
   simp only [kk1, kk0_0, e3, e33, e34, e42, xb, ↓EVd, isCall, sevalprocAttr]
   refine TI.here (hJ1_0 _ ⟨v37, ⟨?_, ?_, ?_, ?_, ?_, ?_, ?_⟩, hO1 _ rfl⟩)
   all_goals try simp only [kk1, kk0_0, e3, e33, e34, e42, xb, ↓EVd, isCall, sevalprocAttr]
   all_goals first | omega | exact lq (by omega) | exact nq (by omega) | rfl | (congr 1; omega)
 refine cwp_lp ho0 (fun (v6, v7, v8) s => ∃ l5 : Nat, s.T 1 = .loc 23 8 0 0 ∧ s.T 3 = .mp 25 ∧ s.T 4 = .mp 27 ∧ s.T 5 = .msl l5 v6.length ∧ s.T 15 = .sl 3 (v1.1.map encWay) ∧ s.T 16 = int (v1.1.length : Int) ∧ s.T 17 = int v7 ∧ s.H 0 = some (.row 29 6 [xx a0]) ∧ s.H 4 = some (.row 77 8 [xo (⟨(⟨(⟨a0.geo.lowers, a0.geo.inodes, a0.geo.blocks, a0.geo.log⟩ : Geo), (⟨a0.upper.nodes⟩ : Branch), a0.lowers⟩ : Stack), v1.1, v1.2⟩ : redirect_tree)]) ∧ s.H 23 = some (.row 77 8 [xo (⟨(⟨(⟨a0.geo.lowers, a0.geo.inodes, a0.geo.blocks, a0.geo.log⟩ : Geo), (⟨a0.upper.nodes⟩ : Branch), a0.lowers⟩ : Stack), v1.1, v1.2⟩ : redirect_tree)]) ∧ s.H 25 = some (.map (([] : List (Int × Int)).map (kI .i64)) (([] : List (Int × Int)).map fun p => .val (.int .i64 p.2))) ∧ s.H 27 = some (kOb kv_65 v8) ∧ s.H l5 = some (.row 3 1 (v6.map int)) ∧ Lq 0 s.nx ∧ Lq 4 s.nx ∧ Lq 23 s.nx ∧ Lq 25 s.nx ∧ Lq 27 s.nx ∧ Lq l5 s.nx ∧ Nq 0 l5 ∧ Nq 4 l5 ∧ Nq 23 l5 ∧ Nq 25 l5 ∧ Nq 27 l5) ?_ ?_
 · refine TI.by (Tn.adopt 5 3 1 (by simp only [e3, xb, ↓EVd, isCall, sevalprocAttr])) ?_
   refine TI.here ⟨34, ?_, ?_, ?_, ?_, ?_, ?_, ?_, ?_, ?_, ?_, ?_, ?_, ?_, ?_, ?_, ?_, ?_, ?_, ?_, ?_, ?_, ?_, ?_, ?_⟩
   all_goals try simp only [e3, xb, ↓EVd, isCall, sevalprocAttr]
   all_goals first | omega | exact lq (by omega) | exact nq (by omega) | rfl | (congr 1; omega)
 rintro I0 ⟨v6, v7, v8⟩ T0 H0 x4 st0 ⟨l5, kk0⟩ hm1 hI0 hO0
 dsimp only [Lq, Nq] at kk0
 simp only [xqc] at hm1
 rcases iteE hm1 with ⟨e14, hm1⟩ | ⟨e14, hm1⟩
 · obtain ⟨v15, e17, hm1⟩ := ixE encWay hm1
   obtain ⟨v18, h19, hm1⟩ := bsE hm1
   simp only [kk0, e3, e14, e17, xb, ↓EVd, isCall, sevalprocAttr]
   refine qc (x9f _ _ _ h19) rfl ?_
   obtain ⟨v20, h21, hm1⟩ := bsE hm1
   simp only [kk0, e3, e14, e17, xb, ↓EVd, isCall, sevalprocAttr]
   refine qc (x0i _ _ h21) rfl ?_
   rcases itbE hm1 with ⟨e23, hm1⟩ | ⟨e23, hm1⟩
   · obtain ⟨e26, hm1⟩ := apE hm1
     try simp only [ZL] at e26
     obtain rfl := Option.some.inj hm1
     simp only [kk0, e3, e14, e17, e23, e26, xb, ↓EVd, isCall, sevalprocAttr]
     refine TI.here (hI0 _ rfl _ ⟨(x4 + 15), ?_, ?_, ?_, ?_, ?_, ?_, ?_, ?_, ?_, ?_, ?_, ?_, ?_, ?_, ?_, ?_, ?_, ?_, ?_, ?_, ?_, ?_, ?_, ?_⟩)
     all_goals try simp only [kk0, e3, e14, e17, e23, e26, xb, ↓EVd, isCall, sevalprocAttr]
     all_goals first | omega | exact lq (by omega) | exact nq (by omega) | rfl | (congr 1; omega)
   simp only [kk0, e3, e14, e17, e23, xb, ↓EVd, isCall, sevalprocAttr]
   refine fineI [([], []), ([23], []), ([], []), ([], []), ([27], []), ([], []), ([], [27]), ([], []), ([], [27])] rfl (by simp only [MT, sevalprocAttr]; first | done | omega) ?_
   obtain ⟨v28, h29, hm1⟩ := bsE hm1
   simp only [kk0, e3, e14, e17, e23, xb, ↓EVd, isCall, sevalprocAttr]
   refine qv (x0f _ _ _ h29) rfl ?_
   obtain ⟨v30, h31, hm1⟩ := bsE hm1
   have e32 := esI kv_65 h31
   obtain rfl := Option.some.inj hm1
   simp only [kk0, e3, e14, e17, e23, e32, xb, ↓EVd, isCall, sevalprocAttr]
   refine TI.here (hI0 _ rfl _ ⟨l5, ?_, ?_, ?_, ?_, ?_, ?_, ?_, ?_, ?_, ?_, ?_, ?_, ?_, ?_, ?_, ?_, ?_, ?_, ?_, ?_, ?_, ?_, ?_, ?_⟩)
   all_goals try simp only [kk0, e3, e14, e17, e23, e32, xb, ↓EVd, isCall, sevalprocAttr]
   all_goals first | omega | exact lq (by omega) | exact nq (by omega) | rfl | (congr 1; omega)
 obtain rfl := Option.some.inj hm1
 simp only [kk0, e3, e14, xb, ↓EVd, isCall, sevalprocAttr]
 refine TI.here (hJ0_0 _ ⟨v8, v6, l5, ⟨?_, ?_, ?_, ?_, ?_, ?_, ?_, ?_, ?_, ?_, ?_, ?_, ?_, ?_, ?_, ?_, ?_, ?_, ?_, ?_, ?_⟩, hO0 _ rfl⟩)
 all_goals try simp only [kk0, e3, e14, xb, ↓EVd, isCall, sevalprocAttr]
 all_goals first | omega | exact lq (by omega) | exact nq (by omega) | rfl | (congr 1; omega)
end Go.Proofs.YtmacnoajlofdbaaDoor.AL


/- Plain laws of chapter 21: nodes, claims, loops, clauses. -/
set_option linter.all false
namespace Go.Proofs.YtmacnoajlofdbaaDoor.AL
open Go Go.Proofs
theorem xwt {s : Stack} (hb : PB s.upper) (W : List Way) (V : List View) {ino : Int} (h1 : 1 ≤ ino) (h2 : ino ≤ (s.upper.nodes.length : Int)) : xlc ⟨s, W, V⟩ ino = some (nodeP s.upper ino) := by
  unfold xlc
  have hn := hb.len
  simp only
  rw [xbj (by omega) (by omega) (by omega)]
  rfl
theorem xwo {n : Node} (h : NV n) : xic n = some (redB n) := by
  unfold xic
  rw [if_pos h.has0]
  by_cases hq : redB n = true
  · rw [if_neg (fun e => (xcs h).1 e hq), hq]
  · rw [if_pos ((xcs h).2 hq)]
    simp at hq
    rw [hq]
def claimP (v : View) : Place := v.lower.headD ⟨0, 0⟩
theorem x3ab (l : List Place) : (if 0 < (l.length : Int) then (ix l 0).bind fun v => some v else some (⟨0, 0⟩ : Place)) = some (l.headD ⟨0, 0⟩) := by
  cases l with
  | nil => rfl
  | cons x l =>
    rw [if_pos (by simp)]
    have := ix_at (xs := x :: l) (i := 0) (by simp)
    have e0 : ((0 : Nat) : Int) = 0 := rfl
    rw [e0] at this
    rw [this]
    rfl
theorem xs0 (s : Stack) (W : List Way) (V : List View) {i : Nat} (hi : i < V.length) : xhc ⟨s, W, V⟩ (i : Int) = some (claimP V[i]) := by
  unfold xhc
  simp only
  rw [ix_at hi]
  simp only [Option.bind_some]
  exact x3ab _
theorem x0p {s : Stack} (h : SV s) (hb : PB s.upper) : (treeV s).length = (walkP s.upper [1]).2.1.length := (x92 h hb).2.len
def loopsP (own : List ByteArray) (tx : ByteArray) : Bool :=
  if (redirP tx).2.2 = true then (if (redirP tx).2.1 = true then beginP (redirP tx).1 own else decide (0 < own.length ∧ own.getLast? = (redirP tx).1.head?)) else false
theorem xe5 (l : List ByteArray) (h : 0 < l.length) : l.drop (l.length - 1) = [l[l.length - 1]] := by
  rw [List.drop_eq_getElem_cons (by omega)]
  rw [List.drop_eq_nil_of_le (by omega)]
theorem xiu {own : List ByteArray} (ho : own.length ≤ 1000) (tx : ByteArray) : xkd own tx = some (loopsP own tx) := by
  unfold xkd loopsP
  rw [xst]
  simp only [Option.bind_some]
  have hl := x6t tx
  by_cases h1 : (redirP tx).2.2 = true
  · rw [if_neg (by simp [h1]), if_pos h1]
    by_cases h2 : (redirP tx).2.1 = true
    · rw [if_pos h2, if_pos h2, xm1 (by omega) (by omega)]
      rfl
    · rw [if_neg h2, if_neg h2]
      obtain ⟨x, hx⟩ := xju h1 h2
      by_cases h3 : 0 < own.length
      · rw [if_pos (by omega)]
        have e : wr ((own.length : Int) - 1) = ((own.length - 1 : Nat) : Int) := by rw [wr_in (by omega) (by omega)]; omega
        have hs : slM own (some (wr ((own.length : Int) - 1))) none = some [own[own.length - 1]] := by
          unfold slM
          rw [e]
          simp only [Option.getD_none, Option.getD_some, Int.toNat_natCast]
          rw [if_pos (by omega), xe5 own h3]
          congr 1
          rw [List.take_of_length_le (by simp; omega)]
        rw [hs]
        simp only [Option.bind_some]
        rw [xjx (by simp), hx]
        simp only [Option.bind_some]
        congr 1
        rw [List.getLast?_eq_getElem?, List.getElem?_eq_getElem (by omega)]
        simp [h3]
      · rw [if_neg (by omega)]
        simp [h3]
  · rw [if_pos (by simpa using h1), if_neg h1]
def wI (s : Stack) (i : Nat) : Way := ((walkP s.upper [1]).2.1[i]?).getD ⟨0, 0, xl⟩
def vI (s : Stack) (i : Nat) : View := ((treeV s)[i]?).getD ⟨0, []⟩
def nI (s : Stack) (i : Nat) : Node := nodeP s.upper (wI s i).ino
def clP (s : Stack) (i : Nat) : Int :=
  if (redirP (nI s i).attr.redirect).2.2 = true then
    (if (wI s i).up < 0 then 9 else if loopsP (pathP (walkP s.upper [1]).2.1 i) (nI s i).attr.redirect = true then 10
     else if (vI s i).lower.length = 0 ∧ ¬ opqV (nI s i) = true then 11 else 0)
  else 9
theorem wI_at {s : Stack} {i : Nat} (hi : i < (walkP s.upper [1]).2.1.length) : (walkP s.upper [1]).2.1[i] = wI s i := by
  unfold wI; rw [List.getElem?_eq_getElem hi]; rfl
theorem vI_at {s : Stack} {i : Nat} (hi : i < (treeV s).length) : (treeV s)[i] = vI s i := by
  unfold vI; rw [List.getElem?_eq_getElem hi]; rfl
theorem wI_in {s : Stack} (h : SV s) (hb : PB s.upper) {i : Nat} (hi : i < (walkP s.upper [1]).2.1.length) : 1 ≤ (wI s i).ino ∧ (wI s i).ino ≤ (s.upper.nodes.length : Int) := by
  have := (xn0 h hb hi).2.2
  rw [wI_at hi] at this
  exact xof this
theorem x71 {s : Stack} (h : SV s) (hb : PB s.upper) {i : Nat} (hi : i < (walkP s.upper [1]).2.1.length) : xed ⟨s, (walkP s.upper [1]).2.1, treeV s⟩ (i : Int) = some (clP s i) := by
  unfold xed clP
  simp only
  have hwl := xom hb (fr := [1]) (by simp)
  have hvl := x0p h hb
  obtain ⟨i1, i2⟩ := wI_in h hb hi
  rw [ix_at hi, wI_at hi]
  simp only [Option.bind_some]
  rw [xwt hb _ _ i1 i2]
  simp only [Option.bind_some]
  have hn : NV (nI s i) := xtl h.up _
  change (xkc (nI s i).attr.redirect).bind _ = _
  rw [xst]
  simp only [Option.bind_some]
  by_cases h1 : (redirP (nI s i).attr.redirect).2.2 = true
  · rw [if_neg (by simp [h1]), if_pos h1]
    by_cases h2 : (wI s i).up < 0
    · rw [if_pos h2, if_pos h2]
    · rw [if_neg h2, if_neg h2, xa7 (by omega)]
      simp only [Option.bind_some]
      have hp := xp7 (walkP s.upper [1]).2.1 i
      change (xkd _ (nI s i).attr.redirect).bind _ = _
      rw [xiu (by omega)]
      simp only [Option.bind_some]
      by_cases h3 : loopsP (pathP (walkP s.upper [1]).2.1 i) (nI s i).attr.redirect = true
      · rw [if_pos h3, if_pos h3]
      · rw [if_neg h3, if_neg h3, ix_at (show i < (treeV s).length by omega), vI_at (by omega)]
        simp only [Option.bind_some]
        change (if ((vI s i).lower.length : Int) = 0 then (xid (nI s i)).bind _ else _) = _
        rw [xco hn]
        simp only [Option.bind_some]
        by_cases h4 : (vI s i).lower.length = 0
        · rw [if_pos (by omega)]
          by_cases h5 : opqV (nI s i) = true
          · rw [if_neg (by simp [h5]), if_neg (fun c => c.2 h5)]
          · rw [if_pos (by simpa using h5), if_pos ⟨h4, h5⟩]
        · rw [if_neg (by omega), if_neg (fun c => h4 c.1)]
  · rw [if_pos (by simpa using h1), if_neg h1]
end Go.Proofs.YtmacnoajlofdbaaDoor.AL

/- Plain laws of chapter 21: findings. -/
set_option linter.all false
namespace Go.Proofs.YtmacnoajlofdbaaDoor.AL
open Go Go.Proofs
def rdI (s : Stack) (i : Nat) : Bool := redB (nI s i)
def cmI (s : Stack) (i : Nat) : Place := claimP (vI s i)
def clT (s : Stack) (T : List Place) (i : Nat) : Int := if clP s i = 0 then (if cmI s i = ⟨0, 0⟩ then 0 else if cmI s i ∈ T then 12 else 0) else clP s i
def nxT (s : Stack) (T : List Place) (i : Nat) : List Place := if clP s i = 0 ∧ (cmI s i = ⟨0, 0⟩ ∨ cmI s i ∉ T) then T ++ [cmI s i] else T
def gT (s : Stack) : List Place → List Nat → List (Nat × Int)
  | _, [] => []
  | T, i :: L => (i, clT s T i) :: gT s (nxT s T i) L
def hT (s : Stack) : List Place → List Nat → List Int
  | _, [] => []
  | T, i :: L => if rdI s i = true then clT s T i :: hT s (nxT s T i) L else 0 :: hT s T L
def nW (s : Stack) : Nat := (walkP s.upper [1]).2.1.length
def laterP (s : Stack) : List Nat := (List.range (nW s)).filter (rdI s)
def takenP (s : Stack) : List Place := ((List.range (nW s)).filter (fun i => !rdI s i)).map (cmI s)
def tellX (s : Stack) (ino : Int) (x : Int) (q : Nat × Int) : Int := if (wI s q.1).ino = ino then q.2 else x
def xP (s : Stack) (ino : Int) : Int := (gT s (takenP s) (laterP s)).foldl (tellX s ino) 9
def valM (m : List (Int × Int)) (k : Int) : Int := if mhas m k = true then mget m k else 9
theorem xuw (k v k' : Int) : ∀ m : List (Int × Int), mhas (mset m k v) k' = (decide (k' = k) || mhas m k')
  | [] => by simp [mhas, mset]; by_cases h : k' = k <;> simp [h]
  | p :: m => by
    unfold mset
    by_cases h : k = p.1
    · rw [if_pos h]
      unfold mhas
      simp only [List.any_cons]
      by_cases h2 : k' = p.1 <;> simp [h, h2]
    · rw [if_neg h]
      have ih := xuw k v k' m
      unfold mhas at ih ⊢
      simp only [List.any_cons]
      rw [ih]
      by_cases h2 : k' = p.1 <;> by_cases h3 : k' = k <;> simp [h2, h3]
theorem xe6 (m : List (Int × Int)) (k v k' : Int) : valM (mset m k v) k' = if k = k' then v else valM m k' := by
  unfold valM
  rw [xuw, xzq]
  by_cases h : k' = k
  · subst h; simp
  · have h' : ¬ k = k' := fun e => h e.symm
    simp [h, h']
def setW (s : Stack) (o : List (Int × Int)) (q : Nat × Int) : List (Int × Int) := mset o (wI s q.1).ino q.2
theorem x1w (s : Stack) (ino : Int) : ∀ (G : List (Nat × Int)) (o : List (Int × Int)), valM (G.foldl (setW s) o) ino = G.foldl (tellX s ino) (valM o ino)
  | [], o => rfl
  | q :: G, o => by
    rw [List.foldl_cons, List.foldl_cons, x1w s ino G]
    congr 1
    unfold setW tellX
    rw [xe6]
def outM (s : Stack) : List (Int × Int) := (gT s (takenP s) (laterP s)).foldl (setW s) []
theorem x87 (s : Stack) (ino : Int) : valM (outM s) ino = xP s ino := x1w s ino _ []
structure TK (M : MapK Place) (T : List Place) (k : Nat) : Prop where
  born : BornK M
  le : ∀ p, mgetK M p ≤ k
  iff : ∀ p, ¬ p = ⟨0, 0⟩ → (0 < mgetK M p ↔ p ∈ T)
  ge : ∀ p, 0 ≤ mgetK M p
theorem TK.put {M : MapK Place} {T : List Place} {k : Nat} (h : TK M T k) (p : Place) : TK (msetK M p (mgetK M p + 1)) (T ++ [p]) (k + 1) := by
  refine ⟨h.born.set _ _, fun q => ?_, fun q hq => ?_, fun q => ?_⟩
  · rw [x9g]
    have h1 := h.le p
    have h2 := h.le q
    split <;> omega
  · rw [x9g]
    have h1 := h.ge p
    by_cases e : q = p
    · subst e
      rw [if_pos rfl]
      simp
      omega
    · rw [if_neg e, h.iff q hq]
      simp [e]
  · rw [x9g]
    have h1 := h.ge p
    have h2 := h.ge q
    split <;> omega
theorem TK.put0 {M : MapK Place} {T : List Place} {k : Nat} (h : TK M T k) : TK M (T ++ [⟨0, 0⟩]) k :=
  ⟨h.born, h.le, fun q hq => by rw [h.iff q hq]; simp [hq], h.ge⟩
theorem TK.mono {M : MapK Place} {T : List Place} {k k' : Nat} (h : TK M T k) (hk : k ≤ k') : TK M T k' := ⟨h.born, fun p => by have := h.le p; omega, h.iff, h.ge⟩
theorem TK.inc {M : MapK Place} {T : List Place} {k : Nat} (h : TK M T k) (hk : k ≤ 1000) (p : Place) : mstoK (mentM M p) ((bornK M p : Nat) : Int) (wr ((mgetK M p) + 1)) = some (msetK M p (mgetK M p + 1)) := by
  have h1 := h.le p
  have h2 := h.ge p
  rw [wr_in (by omega) (by omega)]
  exact x5w h.born p _
theorem xvn (s : Stack) (M0 : MapK Place → Nat → MapK Place) : ∀ (L : List Nat) (l : List Nat) (M : MapK Place) (T : List Place),
    (L.foldl (fun (t : List Nat × MapK Place × List Place) i => if rdI s i = true then (t.1 ++ [i], t.2.1, t.2.2) else (t.1, M0 t.2.1 i, t.2.2 ++ [cmI s i])) (l, M, T)).1 = l ++ L.filter (rdI s) ∧
    (L.foldl (fun (t : List Nat × MapK Place × List Place) i => if rdI s i = true then (t.1 ++ [i], t.2.1, t.2.2) else (t.1, M0 t.2.1 i, t.2.2 ++ [cmI s i])) (l, M, T)).2.2 = T ++ (L.filter (fun i => !rdI s i)).map (cmI s)
  | [], l, M, T => by simp
  | i :: L, l, M, T => by
    rw [List.foldl_cons]
    by_cases hi : rdI s i = true
    · simp only [hi, if_true]
      obtain ⟨h1, h2⟩ := xvn s M0 L (l ++ [i]) M T
      rw [h1, h2]
      simp [hi]
    · simp only [hi, if_false]
      obtain ⟨h1, h2⟩ := xvn s M0 L l (M0 M i) (T ++ [cmI s i])
      simp only [Bool.false_eq_true, if_false]
      rw [h1, h2]
      simp [hi]
theorem xt4 {s : Stack} (h : SV s) (hb : PB s.upper) : ∃ M, iter (xqc s ((walkP s.upper [1]).2.1, treeV s)) big ([], 0, (emptyK : MapK Place)) = some (M, (laterP s).map (fun i : Nat => (i : Int))) ∧ TK M (takenP s) 24 := by
  have hwl := xom hb (fr := [1]) (by simp)
  have hvl := x0p h hb
  have := xpd (B := xqc s ((walkP s.upper [1]).2.1, treeV s)) (fun i (t : List Nat × MapK Place × List Place) => (t.1.map (fun i : Nat => (i : Int)), (i : Int), t.2.1)) (List.range (nW s))
    (fun t i => if rdI s i = true then (t.1 ++ [i], t.2.1, t.2.2) else (t.1, msetK t.2.1 (cmI s i) (mgetK t.2.1 (cmI s i) + 1), t.2.2 ++ [cmI s i])) (fun t => (t.2.1, t.1.map (fun i : Nat => (i : Int)))) (fun i t => t.1.length ≤ i ∧ TK t.2.1 t.2.2 i) (by
    rintro i ⟨l, M, T⟩ hi ⟨t1, t2⟩
    simp only [List.length_range] at hi
    have hi' : i < (walkP s.upper [1]).2.1.length := hi
    simp only [List.getElem_range]
    dsimp only at t1 t2
    obtain ⟨w1, w2⟩ := wI_in h hb hi'
    have hn : NV (nI s i) := xtl h.up _
    simp only [xqc]
    rw [if_pos (by omega), ix_at hi', wI_at hi', xqk]
    simp only [Option.bind_some]
    rw [xwt hb _ _ w1 w2]
    simp only [Option.bind_some]
    change (((xic (nI s i)).bind _ = _) ∧ _)
    rw [xwo hn]
    simp only [Option.bind_some]
    by_cases hr : redB (nI s i) = true
    · have hr' : rdI s i = true := hr
      rw [if_pos hr]
      simp only [hr', if_true]
      rw [ap_of (by simp; omega) (by decide), wr_suc (by omega)]
      refine ⟨?_, by simp; omega, t2.mono (by omega)⟩
      simp
    · have hr' : ¬ rdI s i = true := hr
      rw [if_neg hr, xs0 s _ _ (show i < (treeV s).length by omega), vI_at (by omega)]
      simp only [hr', if_false, Option.bind_some]
      change (((mstoK (mentM M (cmI s i)) ((bornK M (cmI s i) : Nat) : Int) (wr ((mgetK M (cmI s i)) + 1))).bind _ = _) ∧ _)
      rw [t2.inc (by omega), wr_suc (by omega)]
      refine ⟨?_, by simp; omega, t2.put _⟩
      simp) (by
    rintro ⟨l, M, T⟩ ⟨t1, t2⟩
    simp only [xqc, List.length_range]
    rw [if_neg (by unfold nW; omega)]) (s0 := ([], emptyK, [])) ⟨by simp, BornK.empty, fun p => by simp [x0m], fun p hp => by simp [x0m], fun p => by simp [x0m]⟩ (fuel := big) (by rw [big_eq]; simp [nW]; omega)
  obtain ⟨h1, h2, h3⟩ := this
  obtain ⟨g1, g2⟩ := xvn s (fun M i => msetK M (cmI s i) (mgetK M (cmI s i) + 1)) (List.range (nW s)) [] emptyK []
  simp only [List.length_range] at h2 h3
  have e0 : ((0 : Nat) : Int) = 0 := rfl
  simp only [List.map_nil, e0] at h1
  rw [g1] at h1
  rw [g2] at h3
  exact ⟨_, h1, by simpa [takenP] using h3.mono (show nW s ≤ 24 from hwl)⟩
end Go.Proofs.YtmacnoajlofdbaaDoor.AL

/- Plain laws of chapter 21: findings, on. -/
set_option linter.all false
namespace Go.Proofs.YtmacnoajlofdbaaDoor.AL
open Go Go.Proofs
def nxM (s : Stack) (M : MapK Place) (i : Nat) : MapK Place := if clP s i = 0 then (if cmI s i = ⟨0, 0⟩ then M else if 0 < mgetK M (cmI s i) then M else msetK M (cmI s i) (mgetK M (cmI s i) + 1)) else M
structure TKd (M : MapK Place) (T : List Place) (k : Nat) : Prop where
  born : BornK M
  le : ∀ p, ¬ p = ⟨0, 0⟩ → mgetK M p ≤ k
  iff : ∀ p, ¬ p = ⟨0, 0⟩ → (0 < mgetK M p ↔ p ∈ T)
  ge : ∀ p, ¬ p = ⟨0, 0⟩ → 0 ≤ mgetK M p
theorem TKd.of {M : MapK Place} {T : List Place} {k : Nat} (h : TK M T k) : TKd (mdelK M ⟨0, 0⟩) T k :=
  ⟨h.born.del _, fun p hp => by rw [x3m M hp]; exact h.le p, fun p hp => by rw [x3m M hp]; exact h.iff p hp, fun p hp => by rw [x3m M hp]; exact h.ge p⟩
theorem TKd.mono {M : MapK Place} {T : List Place} {k k' : Nat} (h : TKd M T k) (hk : k ≤ k') : TKd M T k' := ⟨h.born, fun p hp => by have := h.le p hp; omega, h.iff, h.ge⟩
theorem TKd.put0 {M : MapK Place} {T : List Place} {k : Nat} (h : TKd M T k) : TKd M (T ++ [⟨0, 0⟩]) k :=
  ⟨h.born, h.le, fun q hq => by rw [h.iff q hq]; simp [hq], h.ge⟩
theorem TKd.put {M : MapK Place} {T : List Place} {k : Nat} (h : TKd M T k) {p : Place} (hp : ¬ p = ⟨0, 0⟩) : TKd (msetK M p (mgetK M p + 1)) (T ++ [p]) (k + 1) := by
  have h0 := h.ge p hp
  have h1 := h.le p hp
  refine ⟨h.born.set _ _, fun q hq => ?_, fun q hq => ?_, fun q hq => ?_⟩
  · rw [x9g]
    have h2 := h.le q hq
    split <;> omega
  · rw [x9g]
    by_cases e : q = p
    · subst e
      rw [if_pos rfl]
      simp
      omega
    · rw [if_neg e, h.iff q hq]
      simp [e]
  · rw [x9g]
    have h2 := h.ge q hq
    split <;> omega
theorem TKd.inc {M : MapK Place} {T : List Place} {k : Nat} (h : TKd M T k) (hk : k ≤ 1000) {p : Place} (hp : ¬ p = ⟨0, 0⟩) : mstoK (mentM M p) ((bornK M p : Nat) : Int) (wr ((mgetK M p) + 1)) = some (msetK M p (mgetK M p + 1)) := by
  have h1 := h.le p hp
  have h2 := h.ge p hp
  rw [wr_in (by omega) (by omega)]
  exact x5w h.born p _
theorem TKd.nx {s : Stack} {M : MapK Place} {T : List Place} {k : Nat} (h : TKd M T k) (i : Nat) : TKd (nxM s M i) (nxT s T i) (k + 1) := by
  unfold nxM nxT
  by_cases h1 : clP s i = 0
  · rw [if_pos h1]
    by_cases h2 : cmI s i = ⟨0, 0⟩
    · rw [if_pos h2, if_pos ⟨h1, .inl h2⟩, h2]
      exact TKd.mono (TKd.put0 h) (by omega)
    · rw [if_neg h2]
      by_cases h3 : 0 < mgetK M (cmI s i)
      · rw [if_pos h3, if_neg (fun c => by
          rcases c.2 with c | c
          · exact h2 c
          · exact c ((h.iff _ h2).1 h3))]
        exact h.mono (by omega)
      · rw [if_neg h3, if_pos ⟨h1, .inr (fun c => h3 ((h.iff _ h2).2 c))⟩]
        exact h.put h2
  · rw [if_neg h1, if_neg (fun c => h1 c.1)]
    exact h.mono (by omega)
theorem xj1 (s : Stack) : ∀ (L : List Nat) (o : List (Int × Int)) (M : MapK Place) (T : List Place),
    (L.foldl (fun (t : List (Int × Int) × MapK Place × List Place) i => (mset t.1 (wI s i).ino (clT s t.2.2 i), nxM s t.2.1 i, nxT s t.2.2 i)) (o, M, T)).1 = (gT s T L).foldl (setW s) o
  | [], o, M, T => rfl
  | i :: L, o, M, T => by
    rw [List.foldl_cons]
    unfold gT
    rw [List.foldl_cons]
    exact xj1 s L _ _ _
theorem xt6 {s : Stack} {i : Nat} (h : i ∈ laterP s) : i < nW s ∧ rdI s i = true := by
  unfold laterP at h
  rw [List.mem_filter, List.mem_range] at h
  exact h
theorem x65 (s : Stack) : (laterP s).length ≤ nW s := by
  unfold laterP
  exact Nat.le_trans (List.length_filter_le _ _) (by simp)
theorem xi9 {s : Stack} (h : SV s) (hb : PB s.upper) {M : MapK Place} (hM : TK M (takenP s) 24) :
    iter (xpc s ((walkP s.upper [1]).2.1, treeV s) ((laterP s).map (fun i : Nat => (i : Int)))) big (0, ([] : List (Int × Int)), (mdelK M (⟨0, 0⟩ : Place))) = some (outM s) := by
  have hwl := xom hb (fr := [1]) (by simp)
  have hvl := x0p h hb
  have hll := x65 s
  have hnw : nW s = (walkP s.upper [1]).2.1.length := rfl
  -- what is told of the map, but for the place of nothing
  have := xpd (B := xpc s ((walkP s.upper [1]).2.1, treeV s) ((laterP s).map (fun i : Nat => (i : Int)))) (fun i (t : List (Int × Int) × MapK Place × List Place) => ((i : Int), t.1, t.2.1)) (laterP s)
    (fun t i => (mset t.1 (wI s i).ino (clT s t.2.2 i), nxM s t.2.1 i, nxT s t.2.2 i)) (fun t => t.1) (fun i t => TKd t.2.1 t.2.2 (24 + i)) (by
    rintro k ⟨o, M, T⟩ hk t
    dsimp only at t
    have hk' : k < ((laterP s).map (fun i : Nat => (i : Int))).length := by simpa using hk
    obtain ⟨hi, hr⟩ := xt6 (List.getElem_mem hk)
    have hi' : (laterP s)[k] < (walkP s.upper [1]).2.1.length := hi
    simp only [xpc]
    rw [if_pos (by simp; omega), ix_at hk']
    simp only [List.getElem_map, Option.bind_some, xqk]
    generalize (laterP s)[k] = i at hi hr hi'
    rw [x71 h hb hi']
    simp only [Option.bind_some]
    rw [xs0 s _ _ (show i < (treeV s).length by omega), vI_at (by omega)]
    simp only [Option.bind_some]
    rw [ix_at hi', wI_at hi', wr_suc (by omega)]
    simp only [Option.bind_some]
    have hnx := t.nx (s := s) i
    refine ⟨?_, hnx.mono (by omega)⟩
    change (if clP s i = 0 then (if (decide (cmI s i = (⟨0, 0⟩ : Place))) = true then _ else if 0 < (mgetK M (cmI s i)) then _ else ((mstoK (mentM M (cmI s i)) ((bornK M (cmI s i) : Nat) : Int) (wr ((mgetK M (cmI s i)) + 1))).bind _)) else _) = _
    unfold nxM clT
    by_cases h1 : clP s i = 0
    · rw [if_pos h1, if_pos h1, if_pos h1]
      by_cases h2 : cmI s i = ⟨0, 0⟩
      · rw [if_pos (by simpa using h2), if_pos h2, if_pos h2, h1]
      · rw [if_neg (by simpa using h2), if_neg h2, if_neg h2]
        by_cases h3 : 0 < mgetK M (cmI s i)
        · rw [if_pos h3, if_pos h3, if_pos ((t.iff _ h2).1 h3)]
        · rw [if_neg h3, if_neg h3, if_neg (fun c => h3 ((t.iff _ h2).2 c)), t.inc (by omega) h2, h1]
          rfl
    · rw [if_neg h1, if_neg h1, if_neg h1]) (by
    rintro ⟨o, M, T⟩ t
    simp only [xpc]
    rw [if_neg (by simp)]) (s0 := ([], mdelK M ⟨0, 0⟩, takenP s)) (TKd.of hM) (fuel := big) (by rw [big_eq]; omega)
  have e0 : ((0 : Nat) : Int) = 0 := rfl
  rw [e0] at this
  rw [this.1, xj1]
  rfl
end Go.Proofs.YtmacnoajlofdbaaDoor.AL

/- Plain laws of chapter 21: findings, on. -/
set_option linter.all false
namespace Go.Proofs.YtmacnoajlofdbaaDoor.AL
open Go Go.Proofs
def fdP (s : Stack) (j : Nat) : List Finding := if ((reachP s.upper [1])[j]?).getD false = true ∧ redB (nodeP s.upper ((j : Int) + 1)) = true ∧ ¬ xP s ((j : Int) + 1) = 0 then [⟨xP s ((j : Int) + 1), 0, (j : Int) + 1, -1⟩] else []
def findP (s : Stack) : List Finding := (List.range s.upper.nodes.length).flatMap (fdP s)
theorem xsx (s : Stack) : ∀ (L : List Nat) (d : List Finding), L.foldl (fun d j => d ++ fdP s j) d = d ++ L.flatMap (fdP s)
  | [], d => by simp
  | j :: L, d => by rw [List.foldl_cons, xsx s L]; simp
theorem xaw (s : Stack) (j : Nat) : (fdP s j).length ≤ 1 := by unfold fdP; split <;> simp
theorem xzz (s : Stack) {j : Nat} (hj : j < s.upper.nodes.length) : ix (reachP s.upper [1]) (j : Int) = some (((reachP s.upper [1])[j]?).getD false) := by
  have hl := x6n s.upper [1]
  rw [ix_at (by omega), List.getElem?_eq_getElem (by omega)]
  rfl
theorem xp8 (s : Stack) (ino : Int) : xP s ino = if mhas (outM s) ino = true then mget (outM s) ino else 9 := (x87 s ino).symm
theorem xyk {s : Stack} (h : SV s) (hb : PB s.upper) : x7b s = some (findP s) := by
  unfold x7b
  have hn := hb.len
  have hrl := x6n s.upper [1]
  obtain ⟨M, hM1, hM2⟩ := xt4 h hb
  rw [(x92 h hb).1]
  simp only [Option.bind_some]
  rw [hM1]
  simp only [Option.bind_some]
  rw [xi9 h hb hM2]
  simp only [Option.bind_some]
  rw [x2z hb (by simp)]
  simp only [Option.bind_some]
  have := xpd (B := xdd s ((walkP s.upper [1]).2.1, treeV s) (outM s) (reachP s.upper [1])) (fun i d => (d, (i : Int))) (List.range s.upper.nodes.length) (fun d j => d ++ fdP s j) (fun d => d) (fun i d => d.length ≤ i) (by
    intro i d hi t
    simp only [List.length_range] at hi
    simp only [List.getElem_range]
    have hfl := xaw s i
    refine ⟨?_, by simp; omega⟩
    simp only [xdd]
    rw [if_pos (by omega), xzz s hi, xqk, wr_suc (by omega)]
    simp only [Option.bind_some]
    have e1 : ((i + 1 : Nat) : Int) = (i : Int) + 1 := by omega
    rw [e1]
    unfold fdP
    by_cases h1 : ((reachP s.upper [1])[i]?).getD false = true
    · rw [if_neg (by simp [h1]), xwt hb _ _ (by omega) (by omega)]
      simp only [Option.bind_some]
      rw [xwo (xtl h.up _)]
      simp only [Option.bind_some]
      by_cases h2 : redB (nodeP s.upper ((i : Int) + 1)) = true
      · rw [if_neg (by simp [h2])]
        have hv := xp8 s ((i : Int) + 1)
        by_cases h3 : mhas (outM s) ((i : Int) + 1) = true
        · rw [if_pos h3] at hv
          rw [if_neg (by simp [h3])]
          by_cases h4 : mget (outM s) ((i : Int) + 1) = 0
          · rw [if_pos h4, if_neg (fun c => c.2.2 (by rw [hv]; exact h4))]
            simp
          · rw [if_neg h4, if_pos ⟨h1, h2, by rw [hv]; exact h4⟩, ap_of (by simp; omega) (by decide), hv]
            rfl
        · rw [if_neg h3] at hv
          rw [if_pos (by simpa using h3), if_pos ⟨h1, h2, by rw [hv]; decide⟩, ap_of (by simp; omega) (by decide), hv]
          rfl
      · rw [if_pos (by simpa using h2), if_neg (fun c => h2 c.2.1)]
        simp
    · rw [if_pos (by simpa using h1), if_neg (fun c => h1 c.1)]
      simp) (by
    intro d t
    simp only [xdd, List.length_range]
    rw [if_neg (by omega)]) (s0 := []) (by simp) (fuel := big) (by rw [big_eq]; simp; omega)
  have e0 : ((0 : Nat) : Int) = 0 := rfl
  rw [e0] at this
  rw [this.1, xsx]
  rfl
theorem xax {s : Stack} (hb : PB s.upper) : (findP s).length ≤ 24 := by
  unfold findP
  have key : ∀ L : List Nat, (L.flatMap (fdP s)).length ≤ L.length := by
    intro L
    induction L with
    | nil => simp
    | cons j L ih =>
      have := xaw s j
      simp only [List.flatMap_cons, List.length_append, List.length_cons]
      omega
  have := key (List.range s.upper.nodes.length)
  have hn := hb.len
  simp at this
  simp
  omega
end Go.Proofs.YtmacnoajlofdbaaDoor.AL

/- Plain laws: places compared. -/
set_option linter.all false
namespace Go.Proofs.YtmacnoajlofdbaaDoor.AL
open Go Go.Proofs
theorem xl1 {a b : List Place} (h : a.length ≤ 1000000000) : x2b a b = some (decide (a = b)) := by
  unfold x2b
  by_cases hl : a.length = b.length
  · rw [if_pos (by omega), eqLoop hl h]
    · by_cases he : a = b <;> simp [he]
    · intro i h1 h2
      simp only [xdc]
      rw [if_pos (by omega), ix_at h1, ix_at h2]
      simp only [Option.bind_some, decide_eq_true_eq]
      rw [wr_suc (by omega)]
    · simp only [xdc]
      rw [if_neg (by omega)]
  · rw [if_neg (by omega)]
    have : ¬ a = b := by rintro rfl; exact hl rfl
    simp [this]
end Go.Proofs.YtmacnoajlofdbaaDoor.AL

/- Plain laws: findings compared. -/
set_option linter.all false
namespace Go.Proofs.YtmacnoajlofdbaaDoor.AL
open Go Go.Proofs
theorem xly {a b : List Finding} (h : a.length ≤ 1000000000) : xvb a b = some (decide (a = b)) := by
  unfold xvb
  by_cases hl : a.length = b.length
  · rw [if_pos (by omega), eqLoop hl h]
    · by_cases he : a = b <;> simp [he]
    · intro i h1 h2
      simp only [x1b]
      rw [if_pos (by omega), ix_at h1, ix_at h2]
      simp only [Option.bind_some, decide_eq_true_eq]
      rw [wr_suc (by omega)]
    · simp only [x1b]
      rw [if_neg (by omega)]
  · rw [if_neg (by omega)]
    have : ¬ a = b := by rintro rfl; exact hl rfl
    simp [this]
end Go.Proofs.YtmacnoajlofdbaaDoor.AL

