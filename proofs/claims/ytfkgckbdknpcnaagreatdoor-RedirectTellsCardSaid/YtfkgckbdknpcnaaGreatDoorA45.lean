/- A law of the given program is proved: part 45 of 51. -/
import Derived.Test.YtfkgckbdknpcnaaGreatDoorA44
set_option linter.all false
/- Models of functions, and that the functions are as their models: written by gen.py. -/
set_option linter.all false
set_option maxRecDepth 100000
namespace Go.Proofs.YtfkgckbdknpcnaaGreatDoor.AL
open Go Go.Proofs
def xad (a0 : List ByteArray) (a1 : ByteArray) : Option (Bool) := (xsc a1).bind fun v1 => if (!v1.2.2) = true then some false
 else if v1.2.1 = true then (xci v1.1 a0).bind fun v7 => some v7
 else if 0 < (a0.length : Int) then (slM a0 (some (wr ((a0.length : Int) - 1))) none).bind fun v11 => (x9b v11 v1.1).bind fun v14 => some v14
 else some false
def xwd := aI (aI (@EV) (@R3)) (aI (@R9) (@R30))
set_option maxHeartbeats 2000000 in
theorem x5j (a0 : List ByteArray) (a1 : ByteArray) (r : Bool) (hm0 : xad a0 a1 = some r) : Ok Tryz.prog 12 [.sl 1 (a0.map str), str a1] (bool r) := by
 unfold xad at hm0
 refine okG x6u ?_
 unfold xtn
 obtain ⟨v1, h2, hm0⟩ := bsE hm0
 simp only [xwd, ↓EVd, isCall, sevalprocAttr]
 refine qc (xpk _ _ h2) rfl ?_
 rcases itbE hm0 with ⟨e4, hm0⟩ | ⟨e4, hm0⟩
 · obtain rfl := Option.some.inj hm0
   simp only [e4, xwd, ↓EVd, isCall, sevalprocAttr]
   all_goals first | done | rfl
 rcases itbE hm0 with ⟨e6, hm0⟩ | ⟨e6, hm0⟩
 · obtain ⟨v7, h8, hm0⟩ := bsE hm0
   simp only [e4, e6, xwd, ↓EVd, isCall, sevalprocAttr]
   refine qc (xwy _ _ _ h8) rfl ?_
   obtain rfl := Option.some.inj hm0
   simp only [e4, e6, xwd, ↓EVd, isCall, sevalprocAttr]
   all_goals first | done | rfl
 rcases iteE hm0 with ⟨e10, hm0⟩ | ⟨e10, hm0⟩
 · obtain ⟨v11, h12, hm0⟩ := bsE hm0
   have e13 := show x1d Tryz.prog 30 (.sl 1 (a0.map str)) (some (int (wr ((a0.length : Int) - 1)))) none none = some (.sl 1 (v11.map str)) from x0w xbe aggN_9 str h12
   obtain ⟨v14, h15, hm0⟩ := bsE hm0
   simp only [e4, e6, e10, e13, xwd, ↓EVd, isCall, sevalprocAttr]
   refine qc (x5g _ _ _ h15) rfl ?_
   obtain rfl := Option.some.inj hm0
   simp only [e4, e6, e10, e13, xwd, ↓EVd, isCall, sevalprocAttr]
   all_goals first | done | rfl
 obtain rfl := Option.some.inj hm0
 simp only [e4, e6, e10, xwd, ↓EVd, isCall, sevalprocAttr]
 all_goals first | done | rfl
def xqc (a0 : Node) : Option (Bool) := if 0 ≤ a0.attr.has then if (bAnd .i64 a0.attr.has 2) = 0 then some false
 else some true
 else some false
def xkh := aI (aI (@EV) (aI (@R3) (@R66))) (aI (aI (@R68) (@DAttr)) (aI (@DNode) (@DEntry)))
set_option maxHeartbeats 2000000 in
theorem xek (a0 : Node) (r : Bool) (hm0 : xqc a0 = some r) : Ok Tryz.prog 23 [xf a0] (bool r) := by
 unfold xqc at hm0
 refine okG x0o ?_
 unfold xtk
 rcases iteE hm0 with ⟨e2, hm0⟩ | ⟨e2, hm0⟩
 · rcases iteE hm0 with ⟨e4, hm0⟩ | ⟨e4, hm0⟩
   · obtain rfl := Option.some.inj hm0
     simp only [e2, e4, xkh, ↓EVd, isCall, sevalprocAttr]
     all_goals first | done | rfl
   obtain rfl := Option.some.inj hm0
   simp only [e2, e4, xkh, ↓EVd, isCall, sevalprocAttr]
   all_goals first | done | rfl
 obtain rfl := Option.some.inj hm0
 simp only [e2, xkh, ↓EVd, isCall, sevalprocAttr]
 all_goals first | done | rfl
def xvc (a0 : redirect_tree) (a1 : Int) : Option (Node) := (ix a0.stack.upper.nodes (wr (a1 - 1))).bind fun v1 => some v1
def xkq := aI (aI (aI (aI (@EV) (@R3)) (aI (@R24) (@R26))) (aI (aI (@R29) (@R54)) (aI (@R68) (@DBranch)))) (aI (aI (aI (@DStack) (@DPlace)) (aI (@xfh) (@DAttr))) (aI (aI (@DNode) (@DWay)) (aI (@DView) (@DEntry))))
set_option maxHeartbeats 2000000 in
theorem xph (a0 : redirect_tree) (a1 : Int) (r : Node) (hm0 : xvc a0 a1 = some r) : Ok Tryz.prog 24 [xr a0, int a1] (xf r) := by
 unfold xvc at hm0
 refine okG xep ?_
 unfold xrl
 obtain ⟨v1, e3, hm0⟩ := ixE xf hm0
 obtain rfl := Option.some.inj hm0
 simp only [e3, xkq, ↓EVd, isCall, sevalprocAttr]
 all_goals first | done | rfl | exact xd (by simp only [CLO])
def xpc (a0 : redirect_tree) (a1 : Int) : Option (Place) := (ix a0.views a1).bind fun v1 => if 0 < (v1.lower.length : Int) then (ix v1.lower 0).bind fun v6 => some v6
 else some (⟨0, 0⟩ : Place)
def x3k := aI (aI (aI (aI (@EV) (@R3)) (aI (@R39) (@R41))) (aI (aI (@R52) (@R54)) (aI (@R80) (@DBranch)))) (aI (aI (aI (@DStack) (@DPlace)) (aI (@xfh) (@DAttr))) (aI (aI (@DNode) (@DWay)) (aI (@DView) (@DEntry))))
set_option maxHeartbeats 2000000 in
theorem x4g (a0 : redirect_tree) (a1 : Int) (r : Place) (hm0 : xpc a0 a1 = some r) : Ok Tryz.prog 29 [xr a0, int a1] (xc r) := by
 unfold xpc at hm0
 refine okG xxo ?_
 unfold x2k
 obtain ⟨v1, e3, hm0⟩ := ixE xjb hm0
 rcases iteE hm0 with ⟨e5, hm0⟩ | ⟨e5, hm0⟩
 · obtain ⟨v6, e8, hm0⟩ := ixE xc hm0
   try simp only [sevalprocAttr, eq_self, true_and] at e8
   obtain rfl := Option.some.inj hm0
   simp only [e3, e5, e8, x3k, ↓EVd, isCall, sevalprocAttr]
   all_goals first | done | rfl | exact xd (by simp only [CLO])
 have e9 : (.agg [int 0, int 0] : AV) = xc (⟨0, 0⟩ : Place) := _root_.id rfl
 obtain rfl := Option.some.inj hm0
 simp only [e3, e5, e9, x3k, ↓EVd, isCall, sevalprocAttr]
 all_goals first | done | rfl | exact xd (by simp only [CLO])
def xrd (a0 : redirect_tree) (a1 : Int) : Option (Int) := (ix a0.ways a1).bind fun v1 => (xvc a0 v1.ino).bind fun v4 => (xsc v4.attr.redirect).bind fun v6 => if (!v6.2.2) = true then some 9
 else if v1.up < 0 then some 9
 else (xik a0.ways a1).bind fun v12 => (xad v12 v4.attr.redirect).bind fun v14 => if v14 = true then some 10
 else (ix a0.views a1).bind fun v18 => if (v18.lower.length : Int) = 0 then (xtd v4).bind fun v23 => if (!v23) = true then some 11
 else some 0
 else some 0
def xqb := aI (aI (aI (aI (@EV) (@R3)) (aI (@R9) (aI (@R30) (@R39)))) (aI (aI (@R41) (aI (@R51) (@R52))) (aI (@R54) (aI (@R66) (@R68))))) (aI (aI (aI (@R77) (aI (@R80) (@DBranch))) (aI (@DStack) (aI (@DPlace) (@xfh)))) (aI (aI (@DAttr) (aI (@DNode) (@DWay))) (aI (@DView) (aI (@DEntry) (@mixed)))))
set_option maxHeartbeats 2000000 in
theorem x5n (a0 : redirect_tree) (a1 : Int) (r : Int) (hm0 : xrd a0 a1 = some r) : Ok Tryz.prog 41 [xr a0, int a1] (int r) := by
 unfold xrd at hm0
 refine okG x4n ?_
 unfold xdk
 obtain ⟨v1, e3, hm0⟩ := ixE encWay hm0
 obtain ⟨v4, h5, hm0⟩ := bsE hm0
 simp only [e3, xqb, ↓EVd, isCall, sevalprocAttr]
 refine qd (xph _ _ _ h5) rfl ?_
 obtain ⟨v6, h7, hm0⟩ := bsE hm0
 simp only [e3, xqb, ↓EVd, isCall, sevalprocAttr]
 refine qc (xpk _ _ h7) rfl ?_
 rcases itbE hm0 with ⟨e9, hm0⟩ | ⟨e9, hm0⟩
 · obtain rfl := Option.some.inj hm0
   simp only [e3, e9, xqb, ↓EVd, isCall, sevalprocAttr]
   all_goals first | done | rfl
 rcases iteE hm0 with ⟨e11, hm0⟩ | ⟨e11, hm0⟩
 · obtain rfl := Option.some.inj hm0
   simp only [e3, e9, e11, xqb, ↓EVd, isCall, sevalprocAttr]
   all_goals first | done | rfl
 obtain ⟨v12, h13, hm0⟩ := bsE hm0
 simp only [e3, e9, e11, xqb, ↓EVd, isCall, sevalprocAttr]
 refine qd (xn2 _ _ _ h13) rfl ?_
 obtain ⟨v14, h15, hm0⟩ := bsE hm0
 simp only [e3, e9, e11, xqb, ↓EVd, isCall, sevalprocAttr]
 refine qd (x5j _ _ _ h15) rfl ?_
 rcases itbE hm0 with ⟨e17, hm0⟩ | ⟨e17, hm0⟩
 · obtain rfl := Option.some.inj hm0
   simp only [e3, e9, e11, e17, xqb, ↓EVd, isCall, sevalprocAttr]
   all_goals first | done | rfl
 obtain ⟨v18, e20, hm0⟩ := ixE xjb hm0
 rcases iteE hm0 with ⟨e22, hm0⟩ | ⟨e22, hm0⟩
 · obtain ⟨v23, h24, hm0⟩ := bsE hm0
   simp only [e3, e9, e11, e17, e20, e22, xqb, ↓EVd, isCall, sevalprocAttr]
   refine qc (xqj _ _ h24) rfl ?_
   rcases itbE hm0 with ⟨e26, hm0⟩ | ⟨e26, hm0⟩
   · obtain rfl := Option.some.inj hm0
     simp only [e3, e9, e11, e17, e20, e22, e26, xqb, ↓EVd, isCall, sevalprocAttr]
     all_goals first | done | rfl
   obtain rfl := Option.some.inj hm0
   simp only [e3, e9, e11, e17, e20, e22, e26, xqb, ↓EVd, isCall, sevalprocAttr]
   all_goals first | done | rfl
 obtain rfl := Option.some.inj hm0
 simp only [e3, e9, e11, e17, e20, e22, xqb, ↓EVd, isCall, sevalprocAttr]
 all_goals first | done | rfl
def xee (a0 : Stack) (v1 : List Way × List View) : (List Place × Int) → Option (St (List Place × Int) (List Place))
 | (v6, v7) => if v7 < (v1.1.length : Int) then (xpc (⟨(⟨(⟨a0.geo.lowers, a0.geo.inodes, a0.geo.blocks, a0.geo.log⟩ : Geo), (⟨a0.upper.nodes⟩ : Branch), a0.lowers⟩ : Stack), v1.1, v1.2⟩ : redirect_tree) v7).bind fun v13 => (ap 16 v6 ([v13] : List Place)).bind fun _ => some (.nx ((v6 ++ ([v13] : List Place)), (wr (v7 + 1))))
 else some (.out v6)
def xkd (a0 : Stack) : Option (List Place) := (xli a0).bind fun v1 => (iter (xee a0 v1) big ([], 0)).bind fun o => (match o with
 | v10 => some v10)
def x2b := aI (aI (aI (aI (@EV) (@R3)) (aI (@R29) (@R39))) (aI (aI (@R41) (@R51)) (aI (@R54) (@R77)))) (aI (aI (aI (@DBranch) (@DStack)) (aI (@DPlace) (@xfh))) (aI (aI (@DAttr) (@DNode)) (aI (@DWay) (aI (@DView) (@DEntry)))))
set_option maxHeartbeats 2000000 in
theorem xdm (a0 : Stack) (r : List Place) (hm0 : xkd a0 = some r) : Ok Tryz.prog 10 [xl a0] (.sl 2 (r.map xc)) := by
 unfold xkd at hm0
 refine okG xst ?_
 unfold xwm
 simp only [x2b, ↓EVd, isCall, sevalprocAttr]
 refine xfd (acallF xon (by simp) ?_) rfl
 unfold xcl
 obtain ⟨v1, h2, hm0⟩ := bsE hm0
 simp only [x2b, ↓EVd, isCall, sevalprocAttr]
 refine qc (x1t _ _ h2) rfl ?_
 have e3 : (.agg [int a0.geo.lowers, int a0.geo.inodes, int a0.geo.blocks, int a0.geo.log, .sl 13 (a0.upper.nodes.map xf), .sl 1 (a0.lowers.map xi), .sl 3 (v1.1.map encWay), .sl 2 (v1.2.map xjb)] : AV) = xr (⟨(⟨(⟨a0.geo.lowers, a0.geo.inodes, a0.geo.blocks, a0.geo.log⟩ : Geo), (⟨a0.upper.nodes⟩ : Branch), a0.lowers⟩ : Stack), v1.1, v1.2⟩ : redirect_tree) := _root_.id rfl
 obtain ⟨o0, ho0, hm0⟩ := bsE hm0
 simp only [e3, x2b, ↓EVd, isCall, sevalprocAttr]
 refine cwp_cx 0 (fun s => ∃ v10 : List Place, ∃ l9 : Nat, (s.T 4 = .msl l9 v10.length ∧ s.H l9 = some (.row 41 2 (v10.map xc)) ∧ Lq l9 s.nx) ∧ v10 = o0) ?_ fun J0_0 hJ0_0 => ?_
 · rintro T0 H0 x8 ⟨v10, l9, kk0_0, rfl⟩
   dsimp only [Lq, Nq] at kk0_0
   try dsimp only at hm0
   obtain rfl := Option.some.inj hm0
   simp only [kk0_0, e3, x2b, ↓EVd, isCall, sevalprocAttr]
   all_goals first | done | rfl | exact frzR_e (by simp only [kk0_0, e3, FZ, CLO, x2b, ↓EVd, isCall, sevalprocAttr])
 refine cwp_lp ho0 (fun (v6, v7) s => ∃ l5 : Nat, s.T 3 = .loc 4 8 0 0 ∧ s.T 4 = .msl l5 v6.length ∧ s.T 10 = int (v1.1.length : Int) ∧ s.T 11 = int v7 ∧ s.H 4 = some (.row 54 8 [xr (⟨(⟨(⟨a0.geo.lowers, a0.geo.inodes, a0.geo.blocks, a0.geo.log⟩ : Geo), (⟨a0.upper.nodes⟩ : Branch), a0.lowers⟩ : Stack), v1.1, v1.2⟩ : redirect_tree)]) ∧ s.H l5 = some (.row 41 2 (v6.map xc)) ∧ Lq 4 s.nx ∧ Lq l5 s.nx ∧ Nq 4 l5) ?_ ?_
 · refine TI.by (Tn.adopt 4 41 2 (by simp only [e3, x2b, ↓EVd, isCall, sevalprocAttr])) ?_
   refine TI.here ⟨25, ?_, ?_, ?_, ?_, ?_, ?_, ?_, ?_, ?_⟩
   all_goals try simp only [e3, x2b, ↓EVd, isCall, sevalprocAttr]
   all_goals first | omega | exact lq (by omega) | exact nq (by omega) | rfl | (congr 1; omega)
 rintro I0 ⟨v6, v7⟩ T0 H0 x4 st0 ⟨l5, kk0⟩ hm1 hI0 hO0
 dsimp only [Lq, Nq] at kk0
 simp only [xee] at hm1
 rcases iteE hm1 with ⟨e12, hm1⟩ | ⟨e12, hm1⟩
 · obtain ⟨v13, h14, hm1⟩ := bsE hm1
   simp only [kk0, e3, e12, x2b, ↓EVd, isCall, sevalprocAttr]
   refine qc (x4g _ _ _ h14) rfl ?_
   obtain ⟨e17, hm1⟩ := apE hm1
   try simp only [ZL] at e17
   obtain rfl := Option.some.inj hm1
   simp only [kk0, e3, e12, e17, x2b, ↓EVd, isCall, sevalprocAttr]
   refine TI.here (hI0 _ rfl _ ⟨(x4 + 8), ?_, ?_, ?_, ?_, ?_, ?_, ?_, ?_, ?_⟩)
   all_goals try simp only [kk0, e3, e12, e17, x2b, ↓EVd, isCall, sevalprocAttr]
   all_goals first | omega | exact lq (by omega) | exact nq (by omega) | rfl | (congr 1; omega)
 obtain rfl := Option.some.inj hm1
 simp only [kk0, e3, e12, x2b, ↓EVd, isCall, sevalprocAttr]
 refine TI.here (hJ0_0 _ ⟨v6, l5, ⟨?_, ?_, ?_⟩, hO0 _ rfl⟩)
 all_goals try simp only [kk0, e3, e12, x2b, ↓EVd, isCall, sevalprocAttr]
 all_goals first | omega | exact lq (by omega) | exact nq (by omega) | rfl | (congr 1; omega)
def x2c (a0 : Stack) (v1 : List Way × List View) : (List Int × Int × MapK Place) → Option (St (List Int × Int × MapK Place) (MapK Place × List Int))
 | (v6, v7, v8) => if v7 < (v1.1.length : Int) then (ix v1.1 v7).bind fun v15 => (xvc (⟨(⟨(⟨a0.geo.lowers, a0.geo.inodes, a0.geo.blocks, a0.geo.log⟩ : Geo), (⟨a0.upper.nodes⟩ : Branch), a0.lowers⟩ : Stack), v1.1, v1.2⟩ : redirect_tree) v15.ino).bind fun v18 => (xqc v18).bind fun v20 => if v20 = true then (ap 8 v6 ([v7] : List Int)).bind fun _ => some (.nx ((v6 ++ ([v7] : List Int)), (wr (v7 + 1)), v8))
 else (xpc (⟨(⟨(⟨a0.geo.lowers, a0.geo.inodes, a0.geo.blocks, a0.geo.log⟩ : Geo), (⟨a0.upper.nodes⟩ : Branch), a0.lowers⟩ : Stack), v1.1, v1.2⟩ : redirect_tree) v7).bind fun v28 => (mstoK (mentM v8 v28) ((bornK v8 v28 : Nat) : Int) (wr ((mgetK v8 v28) + 1))).bind fun v30 => some (.nx (v6, (wr (v7 + 1)), v30))
 else some (.out (v8, v6))
def x3c (a0 : Stack) (v1 : List Way × List View) (v12 : List Int) : (Int × List (Int × Int) × MapK Place) → Option (St (Int × List (Int × Int) × MapK Place) (List (Int × Int)))
 | (v36, v37, v38) => if v36 < (v12.length : Int) then (ix v12 v36).bind fun v43 => (xrd (⟨(⟨(⟨a0.geo.lowers, a0.geo.inodes, a0.geo.blocks, a0.geo.log⟩ : Geo), (⟨a0.upper.nodes⟩ : Branch), a0.lowers⟩ : Stack), v1.1, v1.2⟩ : redirect_tree) v43).bind fun v46 => (xpc (⟨(⟨(⟨a0.geo.lowers, a0.geo.inodes, a0.geo.blocks, a0.geo.log⟩ : Geo), (⟨a0.upper.nodes⟩ : Branch), a0.lowers⟩ : Stack), v1.1, v1.2⟩ : redirect_tree) v43).bind fun v48 => if v46 = 0 then if (decide (v48 = (⟨0, 0⟩ : Place))) = true then (ix v1.1 v43).bind fun v55 => some (.nx ((wr (v36 + 1)), (mset v37 v55.ino v46), v38))
 else if 0 < (mgetK v38 v48) then (ix v1.1 v43).bind fun v60 => some (.nx ((wr (v36 + 1)), (mset v37 v60.ino 12), v38))
 else (mstoK (mentM v38 v48) ((bornK v38 v48 : Nat) : Int) (wr ((mgetK v38 v48) + 1))).bind fun v63 => (ix v1.1 v43).bind fun v66 => some (.nx ((wr (v36 + 1)), (mset v37 v66.ino v46), v63))
 else (ix v1.1 v43).bind fun v69 => some (.nx ((wr (v36 + 1)), (mset v37 v69.ino v46), v38))
 else some (.out v37)
def xsd (a0 : Stack) (v1 : List Way × List View) (v40 : List (Int × Int)) (v72 : List Bool) : (List Finding × Int) → Option (St (List Finding × Int) (List Finding))
 | (v76, v77) => if v77 < (v72.length : Int) then (ix v72 v77).bind fun v83 => if (!v83) = true then some (.nx (v76, (wr (v77 + 1))))
 else (xvc (⟨(⟨(⟨a0.geo.lowers, a0.geo.inodes, a0.geo.blocks, a0.geo.log⟩ : Geo), (⟨a0.upper.nodes⟩ : Branch), a0.lowers⟩ : Stack), v1.1, v1.2⟩ : redirect_tree) (wr (v77 + 1))).bind fun v88 => (xqc v88).bind fun v90 => if (!v90) = true then some (.nx (v76, (wr (v77 + 1))))
 else if (!(mhas v40 (wr (v77 + 1)))) = true then (ap 32 v76 ([(⟨9, 0, (wr (v77 + 1)), (-1)⟩ : Finding)] : List Finding)).bind fun _ => some (.nx ((v76 ++ ([(⟨9, 0, (wr (v77 + 1)), (-1)⟩ : Finding)] : List Finding)), (wr (v77 + 1))))
 else if (mget v40 (wr (v77 + 1))) = 0 then some (.nx (v76, (wr (v77 + 1))))
 else (ap 32 v76 ([(⟨(mget v40 (wr (v77 + 1))), 0, (wr (v77 + 1)), (-1)⟩ : Finding)] : List Finding)).bind fun _ => some (.nx ((v76 ++ ([(⟨(mget v40 (wr (v77 + 1))), 0, (wr (v77 + 1)), (-1)⟩ : Finding)] : List Finding)), (wr (v77 + 1))))
 else some (.out v76)
def xod (a0 : Stack) : Option (List Finding) := (xli a0).bind fun v1 => (iter (x2c a0 v1) big ([], 0, (emptyK : MapK Place))).bind fun o => (match o with
 | (v10, v12) => (iter (x3c a0 v1 v12) big (0, ([] : List (Int × Int)), (mdelK v10 (⟨0, 0⟩ : Place)))).bind fun o => (match o with
 | v40 => (x1i a0.upper ([1] : List Int)).bind fun v72 => (iter (xsd a0 v1 v40 v72) big ([], 0)).bind fun o => (match o with
 | v80 => some v80)))
def xb := aI (aI (aI (aI (@EV) (aI (@R3) (@R4))) (aI (aI (@R26) (@R29)) (aI (@R34) (@R36)))) (aI (aI (@R41) (aI (@R51) (@R54))) (aI (aI (@R56) (@R58)) (aI (@R68) (@R73))))) (aI (aI (aI (@R77) (aI (@DBranch) (@DStack))) (aI (aI (@DFinding) (@DPlace)) (aI (@xfh) (@DAttr)))) (aI (aI (aI (@DNode) (@DWay)) (aI (@DView) (@DEntry))) (aI (aI (@KM89) (@eq41)) (aI (@x89) (@mixed)))))
set_option maxHeartbeats 2000000 in
theorem xgl (a0 : Stack) (r : List Finding) (hm0 : xod a0 = some r) : Ok Tryz.prog 7 [xl a0] (.sl 4 (r.map xcb)) := by
 unfold xod at hm0
 refine okG xgq ?_
 unfold xyl
 simp only [xb, ↓EVd, isCall, sevalprocAttr]
 refine xm7 ?_
 simp only [xb, ↓EVd, isCall, sevalprocAttr]
 refine xfd (acallF xon (by simp) ?_) rfl
 unfold xcl
 obtain ⟨v1, h2, hm0⟩ := bsE hm0
 simp only [xb, ↓EVd, isCall, sevalprocAttr]
 refine qc (x1t _ _ h2) rfl ?_
 have e3 : (.agg [int a0.geo.lowers, int a0.geo.inodes, int a0.geo.blocks, int a0.geo.log, .sl 13 (a0.upper.nodes.map xf), .sl 1 (a0.lowers.map xi), .sl 3 (v1.1.map encWay), .sl 2 (v1.2.map xjb)] : AV) = xr (⟨(⟨(⟨a0.geo.lowers, a0.geo.inodes, a0.geo.blocks, a0.geo.log⟩ : Geo), (⟨a0.upper.nodes⟩ : Branch), a0.lowers⟩ : Stack), v1.1, v1.2⟩ : redirect_tree) := _root_.id rfl
 simp only [e3, xb, ↓EVd, isCall, sevalprocAttr]
 refine xfd (acallF xqn (by simp) ?_) rfl
 unfold x2j
 obtain ⟨o0, ho0, hm0⟩ := bsE hm0
 simp only [e3, xb, ↓EVd, isCall, sevalprocAttr]
 refine cwp_cx 0 (fun s => ∃ v10 : MapK Place, ∃ v12 : List Int, ∃ l11 : Nat, (s.T 1 = .loc 23 8 0 0 ∧ s.T 3 = .mp 25 ∧ s.T 4 = .mp 27 ∧ s.T 5 = .msl l11 v12.length ∧ s.H 0 = some (.row 29 6 [xl a0]) ∧ s.H 4 = some (.row 54 8 [xr (⟨(⟨(⟨a0.geo.lowers, a0.geo.inodes, a0.geo.blocks, a0.geo.log⟩ : Geo), (⟨a0.upper.nodes⟩ : Branch), a0.lowers⟩ : Stack), v1.1, v1.2⟩ : redirect_tree)]) ∧ s.H 23 = some (.row 54 8 [xr (⟨(⟨(⟨a0.geo.lowers, a0.geo.inodes, a0.geo.blocks, a0.geo.log⟩ : Geo), (⟨a0.upper.nodes⟩ : Branch), a0.lowers⟩ : Stack), v1.1, v1.2⟩ : redirect_tree)]) ∧ s.H 25 = some (.map (([] : List (Int × Int)).map (kI .i64)) (([] : List (Int × Int)).map fun p => .val (.int .i64 p.2))) ∧ s.H 27 = some (kOb kv_41 v10) ∧ s.H l11 = some (.row 3 1 (v12.map int)) ∧ Lq 0 s.nx ∧ Lq 4 s.nx ∧ Lq 23 s.nx ∧ Lq 25 s.nx ∧ Lq 27 s.nx ∧ Lq l11 s.nx ∧ Nq 0 l11 ∧ Nq 4 l11 ∧ Nq 23 l11 ∧ Nq 25 l11 ∧ Nq 27 l11) ∧ (v10, v12) = o0) ?_ fun J0_0 hJ0_0 => ?_
 · rintro T0 H0 x9 ⟨v10, v12, l11, kk0_0, rfl⟩
   dsimp only [Lq, Nq] at kk0_0
   try dsimp only at hm0
   have e33 : (.agg [int 0, int 0] : AV) = xc (⟨0, 0⟩ : Place) := _root_.id rfl
   have e34 : (.agg [int 0, int 0] : AV) = xc (⟨0, 0⟩ : Place) := _root_.id rfl
   obtain ⟨o1, ho1, hm0⟩ := bsE hm0
   simp only [kk0_0, e3, e33, e34, xb, ↓EVd, isCall, sevalprocAttr]
   refine cwp_cx 2 (fun s => ∃ v40 : List (Int × Int), (s.T 3 = .mp 25 ∧ s.H 0 = some (.row 29 6 [xl a0]) ∧ s.H 4 = some (.row 54 8 [xr (⟨(⟨(⟨a0.geo.lowers, a0.geo.inodes, a0.geo.blocks, a0.geo.log⟩ : Geo), (⟨a0.upper.nodes⟩ : Branch), a0.lowers⟩ : Stack), v1.1, v1.2⟩ : redirect_tree)]) ∧ s.H 25 = some (.map (v40.map (kI .i64)) (v40.map fun p => .val (.int .i64 p.2))) ∧ Lq 0 s.nx ∧ Lq 4 s.nx ∧ Lq 25 s.nx) ∧ v40 = o1) ?_ fun J1_0 hJ1_0 => ?_
   · rintro T1 H1 x39 ⟨v40, kk1_0, rfl⟩
     dsimp only [Lq, Nq] at kk1_0
     try dsimp only at hm0
     obtain ⟨v72, h73, hm0⟩ := bsE hm0
     simp only [kk1_0, kk0_0, e3, e33, e34, xb, ↓EVd, isCall, sevalprocAttr]
     refine qcq (xf2 _ _ _ h73) rfl (by simp only [kk1_0, kk0_0, e3, e33, e34, FQ, CLO, xb, ↓EVd, isCall, sevalprocAttr]; first | done | rfl) ?_
     obtain ⟨o2, ho2, hm0⟩ := bsE hm0
     simp only [kk1_0, kk0_0, e3, e33, e34, xb, ↓EVd, isCall, sevalprocAttr]
     refine cwp_cx 0 (fun s => ∃ v80 : List Finding, ∃ l79 : Nat, (s.T 5 = .msl l79 v80.length ∧ s.H l79 = some (.row 36 4 (v80.map xcb)) ∧ Lq l79 s.nx) ∧ v80 = o2) ?_ fun J2_0 hJ2_0 => ?_
     · rintro T2 H2 x78 ⟨v80, l79, kk2_0, rfl⟩
       dsimp only [Lq, Nq] at kk2_0
       try dsimp only at hm0
       obtain rfl := Option.some.inj hm0
       simp only [kk2_0, kk1_0, kk0_0, e3, e33, e34, xb, ↓EVd, isCall, sevalprocAttr]
       all_goals first | done | rfl | exact frzR_e (by simp only [kk2_0, kk1_0, kk0_0, e3, e33, e34, FZ, CLO, xb, ↓EVd, isCall, sevalprocAttr])
     refine cwp_lp ho2 (fun (v76, v77) s => ∃ l75 : Nat, s.T 3 = .loc 4 8 0 0 ∧ s.T 4 = .mp 25 ∧ s.T 5 = .msl l75 v76.length ∧ s.T 17 = .sl 1 (v72.map bool) ∧ s.T 18 = int (v72.length : Int) ∧ s.T 19 = int v77 ∧ s.H 4 = some (.row 54 8 [xr (⟨(⟨(⟨a0.geo.lowers, a0.geo.inodes, a0.geo.blocks, a0.geo.log⟩ : Geo), (⟨a0.upper.nodes⟩ : Branch), a0.lowers⟩ : Stack), v1.1, v1.2⟩ : redirect_tree)]) ∧ s.H 25 = some (.map (v40.map (kI .i64)) (v40.map fun p => .val (.int .i64 p.2))) ∧ s.H l75 = some (.row 36 4 (v76.map xcb)) ∧ Lq 4 s.nx ∧ Lq 25 s.nx ∧ Lq l75 s.nx ∧ Nq 4 l75 ∧ Nq 25 l75) ?_ ?_
     · refine TI.by (Tn.adopt 5 36 4 (by simp only [kk1_0, kk0_0, e3, e33, e34, xb, ↓EVd, isCall, sevalprocAttr])) ?_
       refine TI.here ⟨(x39 + 9), ?_, ?_, ?_, ?_, ?_, ?_, ?_, ?_, ?_, ?_, ?_, ?_, ?_, ?_⟩
       all_goals try simp only [kk1_0, kk0_0, e3, e33, e34, xb, ↓EVd, isCall, sevalprocAttr]
       all_goals first | omega | exact lq (by omega) | exact nq (by omega) | rfl | (congr 1; omega)
     rintro I2 ⟨v76, v77⟩ T2 H2 x74 st2 ⟨l75, kk2⟩ hm1 hI2 hO2
     dsimp only [Lq, Nq] at kk2
     simp only [xsd] at hm1
     rcases iteE hm1 with ⟨e82, hm1⟩ | ⟨e82, hm1⟩
     · obtain ⟨v83, e85, hm1⟩ := ixE bool hm1
       rcases itbE hm1 with ⟨e87, hm1⟩ | ⟨e87, hm1⟩
       · obtain rfl := Option.some.inj hm1
         simp only [kk2, kk1_0, kk0_0, e3, e33, e34, e82, e85, e87, xb, ↓EVd, isCall, sevalprocAttr]
         refine TI.here (hI2 _ rfl _ ⟨l75, ?_, ?_, ?_, ?_, ?_, ?_, ?_, ?_, ?_, ?_, ?_, ?_, ?_, ?_⟩)
         all_goals try simp only [kk2, kk1_0, kk0_0, e3, e33, e34, e82, e85, e87, xb, ↓EVd, isCall, sevalprocAttr]
         all_goals first | omega | exact lq (by omega) | exact nq (by omega) | rfl | (congr 1; omega)
       obtain ⟨v88, h89, hm1⟩ := bsE hm1
       simp only [kk2, kk1_0, kk0_0, e3, e33, e34, e82, e85, e87, xb, ↓EVd, isCall, sevalprocAttr]
       refine qc (xph _ _ _ h89) rfl ?_
       obtain ⟨v90, h91, hm1⟩ := bsE hm1
       simp only [kk2, kk1_0, kk0_0, e3, e33, e34, e82, e85, e87, xb, ↓EVd, isCall, sevalprocAttr]
       refine qc (xek _ _ h91) rfl ?_
       rcases itbE hm1 with ⟨e93, hm1⟩ | ⟨e93, hm1⟩
       · obtain rfl := Option.some.inj hm1
         simp only [kk2, kk1_0, kk0_0, e3, e33, e34, e82, e85, e87, e93, xb, ↓EVd, isCall, sevalprocAttr]
         refine TI.here (hI2 _ rfl _ ⟨l75, ?_, ?_, ?_, ?_, ?_, ?_, ?_, ?_, ?_, ?_, ?_, ?_, ?_, ?_⟩)
         all_goals try simp only [kk2, kk1_0, kk0_0, e3, e33, e34, e82, e85, e87, e93, xb, ↓EVd, isCall, sevalprocAttr]
         all_goals first | omega | exact lq (by omega) | exact nq (by omega) | rfl | (congr 1; omega)
       rcases itbE hm1 with ⟨e95, hm1⟩ | ⟨e95, hm1⟩
       · have e96 : (.agg [int 9, int 0, int (wr (v77 + 1)), int (-1)] : AV) = xcb (⟨9, 0, (wr (v77 + 1)), (-1)⟩ : Finding) := _root_.id rfl
         obtain ⟨e99, hm1⟩ := apE hm1
         try simp only [ZL] at e99
         obtain rfl := Option.some.inj hm1
         simp only [kk2, kk1_0, kk0_0, e3, e33, e34, e82, e85, e87, e93, e95, e96, e99, xb, ↓EVd, isCall, sevalprocAttr]
         refine TI.here (hI2 _ rfl _ ⟨(x74 + 35), ?_, ?_, ?_, ?_, ?_, ?_, ?_, ?_, ?_, ?_, ?_, ?_, ?_, ?_⟩)
         all_goals try simp only [kk2, kk1_0, kk0_0, e3, e33, e34, e82, e85, e87, e93, e95, e96, e99, xb, ↓EVd, isCall, sevalprocAttr]
         all_goals first | omega | exact lq (by omega) | exact nq (by omega) | rfl | (congr 1; omega)
       have g108 := And.intro (And.intro (And.intro ((e3)) ((e33))) (And.intro ((e34)) ((e82)))) (And.intro (And.intro ((e85)) ((e87))) (And.intro ((e93)) ((e95))))
       rcases iteE hm1 with ⟨e102, hm1⟩ | ⟨e102, hm1⟩
       · obtain rfl := Option.some.inj hm1
         simp only [kk2, kk1_0, kk0_0, g108, e102, xb, ↓EVd, isCall, sevalprocAttr]
         refine TI.here (hI2 _ rfl _ ⟨l75, ?_, ?_, ?_, ?_, ?_, ?_, ?_, ?_, ?_, ?_, ?_, ?_, ?_, ?_⟩)
         all_goals try simp only [kk2, kk1_0, kk0_0, g108, e102, xb, ↓EVd, isCall, sevalprocAttr]
         all_goals first | omega | exact lq (by omega) | exact nq (by omega) | rfl | (congr 1; omega)
       have e103 : (.agg [int (mget v40 (wr (v77 + 1))), int 0, int (wr (v77 + 1)), int (-1)] : AV) = xcb (⟨(mget v40 (wr (v77 + 1))), 0, (wr (v77 + 1)), (-1)⟩ : Finding) := _root_.id rfl
       obtain ⟨e106, hm1⟩ := apE hm1
       try simp only [ZL] at e106
       obtain rfl := Option.some.inj hm1
       simp only [kk2, kk1_0, kk0_0, g108, e102, e103, e106, xb, ↓EVd, isCall, sevalprocAttr]
       refine TI.here (hI2 _ rfl _ ⟨(x74 + 37), ?_, ?_, ?_, ?_, ?_, ?_, ?_, ?_, ?_, ?_, ?_, ?_, ?_, ?_⟩)
       all_goals try simp only [kk2, kk1_0, kk0_0, g108, e102, e103, e106, xb, ↓EVd, isCall, sevalprocAttr]
       all_goals first | omega | exact lq (by omega) | exact nq (by omega) | rfl | (congr 1; omega)
     obtain rfl := Option.some.inj hm1
     simp only [kk2, kk1_0, kk0_0, e3, e33, e34, e82, xb, ↓EVd, isCall, sevalprocAttr]
     refine TI.here (hJ2_0 _ ⟨v76, l75, ⟨?_, ?_, ?_⟩, hO2 _ rfl⟩)
     all_goals try simp only [kk2, kk1_0, kk0_0, e3, e33, e34, e82, xb, ↓EVd, isCall, sevalprocAttr]
     all_goals first | omega | exact lq (by omega) | exact nq (by omega) | rfl | (congr 1; omega)
   refine cwp_lp ho1 (fun (v36, v37, v38) s => s.T 1 = .loc 23 8 0 0 ∧ s.T 3 = .mp 25 ∧ s.T 4 = .mp 27 ∧ s.T 42 = .msl l11 v12.length ∧ s.T 43 = int (v12.length : Int) ∧ s.T 44 = int v36 ∧ s.H 0 = some (.row 29 6 [xl a0]) ∧ s.H 4 = some (.row 54 8 [xr (⟨(⟨(⟨a0.geo.lowers, a0.geo.inodes, a0.geo.blocks, a0.geo.log⟩ : Geo), (⟨a0.upper.nodes⟩ : Branch), a0.lowers⟩ : Stack), v1.1, v1.2⟩ : redirect_tree)]) ∧ s.H 23 = some (.row 54 8 [xr (⟨(⟨(⟨a0.geo.lowers, a0.geo.inodes, a0.geo.blocks, a0.geo.log⟩ : Geo), (⟨a0.upper.nodes⟩ : Branch), a0.lowers⟩ : Stack), v1.1, v1.2⟩ : redirect_tree)]) ∧ s.H 25 = some (.map (v37.map (kI .i64)) (v37.map fun p => .val (.int .i64 p.2))) ∧ s.H 27 = some (kOb kv_41 v38) ∧ s.H l11 = some (.row 3 1 (v12.map int)) ∧ Lq 0 s.nx ∧ Lq 4 s.nx ∧ Lq 23 s.nx ∧ Lq 25 s.nx ∧ Lq 27 s.nx ∧ Lq l11 s.nx ∧ Nq 0 l11 ∧ Nq 4 l11 ∧ Nq 23 l11 ∧ Nq 25 l11 ∧ Nq 27 l11) ?_ ?_
   · refine TI.here ⟨?_, ?_, ?_, ?_, ?_, ?_, ?_, ?_, ?_, ?_, ?_, ?_, ?_, ?_, ?_, ?_, ?_, ?_, ?_, ?_, ?_, ?_, ?_⟩
     all_goals try simp only [kk0_0, e3, e33, e34, xb, ↓EVd, isCall, sevalprocAttr]
     all_goals first | omega | exact lq (by omega) | exact nq (by omega) | rfl | (congr 1; omega)
   rintro I1 ⟨v36, v37, v38⟩ T1 H1 x35 st1 kk1 hm1 hI1 hO1
   dsimp only [Lq, Nq] at kk1
   simp only [x3c] at hm1
   rcases iteE hm1 with ⟨e42, hm1⟩ | ⟨e42, hm1⟩
   · obtain ⟨v43, e45, hm1⟩ := ixE int hm1
     obtain ⟨v46, h47, hm1⟩ := bsE hm1
     simp only [kk1, kk0_0, e3, e33, e34, e42, e45, xb, ↓EVd, isCall, sevalprocAttr]
     refine qd (x5n _ _ _ h47) rfl ?_
     obtain ⟨v48, h49, hm1⟩ := bsE hm1
     simp only [kk1, kk0_0, e3, e33, e34, e42, e45, xb, ↓EVd, isCall, sevalprocAttr]
     refine qd (x4g _ _ _ h49) rfl ?_
     rcases iteE hm1 with ⟨e51, hm1⟩ | ⟨e51, hm1⟩
     · have e52 : (.agg [int 0, int 0] : AV) = xc (⟨0, 0⟩ : Place) := _root_.id rfl
       rcases itbE hm1 with ⟨e54, hm1⟩ | ⟨e54, hm1⟩
       · obtain ⟨v55, e57, hm1⟩ := ixE encWay hm1
         obtain rfl := Option.some.inj hm1
         simp only [kk1, kk0_0, e3, e33, e34, e42, e45, e51, e52, e54, e57, xb, ↓EVd, isCall, sevalprocAttr]
         refine TI.here (hI1 _ rfl _ ⟨?_, ?_, ?_, ?_, ?_, ?_, ?_, ?_, ?_, ?_, ?_, ?_, ?_, ?_, ?_, ?_, ?_, ?_, ?_, ?_, ?_, ?_, ?_⟩)
         all_goals try simp only [kk1, kk0_0, e3, e33, e34, e42, e45, e51, e52, e54, e57, xb, ↓EVd, isCall, sevalprocAttr]
         all_goals first | omega | exact lq (by omega) | exact nq (by omega) | rfl | (congr 1; omega)
       have g109 := And.intro (And.intro (And.intro ((e3)) ((e33))) (And.intro ((e34)) ((e42)))) (And.intro (And.intro ((e45)) ((e51))) (And.intro ((e52)) ((e54))))
       rcases iteE hm1 with ⟨e59, hm1⟩ | ⟨e59, hm1⟩
       · obtain ⟨v60, e62, hm1⟩ := ixE encWay hm1
         obtain rfl := Option.some.inj hm1
         simp only [kk1, kk0_0, g109, e59, e62, xb, ↓EVd, isCall, sevalprocAttr]
         refine TI.here (hI1 _ rfl _ ⟨?_, ?_, ?_, ?_, ?_, ?_, ?_, ?_, ?_, ?_, ?_, ?_, ?_, ?_, ?_, ?_, ?_, ?_, ?_, ?_, ?_, ?_, ?_⟩)
         all_goals try simp only [kk1, kk0_0, g109, e59, e62, xb, ↓EVd, isCall, sevalprocAttr]
         all_goals first | omega | exact lq (by omega) | exact nq (by omega) | rfl | (congr 1; omega)
       simp only [kk1, kk0_0, g109, e59, xb, ↓EVd, isCall, sevalprocAttr]
       refine fineI [([], []), ([(x35 + 10)], []), ([27], []), ([], []), ([], [27]), ([], []), ([], [27])] rfl (by simp only [MT, sevalprocAttr]; first | done | omega) ?_
       obtain ⟨v63, h64, hm1⟩ := bsE hm1
       have e65 := esI kv_41 h64
       obtain ⟨v66, e68, hm1⟩ := ixE encWay hm1
       obtain rfl := Option.some.inj hm1
       simp only [kk1, kk0_0, g109, e59, e65, e68, xb, ↓EVd, isCall, sevalprocAttr]
       refine TI.here (hI1 _ rfl _ ⟨?_, ?_, ?_, ?_, ?_, ?_, ?_, ?_, ?_, ?_, ?_, ?_, ?_, ?_, ?_, ?_, ?_, ?_, ?_, ?_, ?_, ?_, ?_⟩)
       all_goals try simp only [kk1, kk0_0, g109, e59, e65, e68, xb, ↓EVd, isCall, sevalprocAttr]
       all_goals first | omega | exact lq (by omega) | exact nq (by omega) | rfl | (congr 1; omega)
     obtain ⟨v69, e71, hm1⟩ := ixE encWay hm1
     obtain rfl := Option.some.inj hm1
     simp only [kk1, kk0_0, e3, e33, e34, e42, e45, e51, e71, xb, ↓EVd, isCall, sevalprocAttr]
     refine TI.here (hI1 _ rfl _ ⟨?_, ?_, ?_, ?_, ?_, ?_, ?_, ?_, ?_, ?_, ?_, ?_, ?_, ?_, ?_, ?_, ?_, ?_, ?_, ?_, ?_, ?_, ?_⟩)
     all_goals try simp only [kk1, kk0_0, e3, e33, e34, e42, e45, e51, e71, xb, ↓EVd, isCall, sevalprocAttr]
     all_goals first | omega | exact lq (by omega) | exact nq (by omega) | rfl | (congr 1; omega)
   obtain rfl := Option.some.inj hm1
   simp only [kk1, kk0_0, e3, e33, e34, e42, xb, ↓EVd, isCall, sevalprocAttr]
   refine TI.here (hJ1_0 _ ⟨v37, ⟨?_, ?_, ?_, ?_, ?_, ?_, ?_⟩, hO1 _ rfl⟩)
   all_goals try simp only [kk1, kk0_0, e3, e33, e34, e42, xb, ↓EVd, isCall, sevalprocAttr]
   all_goals first | omega | exact lq (by omega) | exact nq (by omega) | rfl | (congr 1; omega)
 refine cwp_lp ho0 (fun (v6, v7, v8) s => ∃ l5 : Nat, s.T 1 = .loc 23 8 0 0 ∧ s.T 3 = .mp 25 ∧ s.T 4 = .mp 27 ∧ s.T 5 = .msl l5 v6.length ∧ s.T 15 = .sl 3 (v1.1.map encWay) ∧ s.T 16 = int (v1.1.length : Int) ∧ s.T 17 = int v7 ∧ s.H 0 = some (.row 29 6 [xl a0]) ∧ s.H 4 = some (.row 54 8 [xr (⟨(⟨(⟨a0.geo.lowers, a0.geo.inodes, a0.geo.blocks, a0.geo.log⟩ : Geo), (⟨a0.upper.nodes⟩ : Branch), a0.lowers⟩ : Stack), v1.1, v1.2⟩ : redirect_tree)]) ∧ s.H 23 = some (.row 54 8 [xr (⟨(⟨(⟨a0.geo.lowers, a0.geo.inodes, a0.geo.blocks, a0.geo.log⟩ : Geo), (⟨a0.upper.nodes⟩ : Branch), a0.lowers⟩ : Stack), v1.1, v1.2⟩ : redirect_tree)]) ∧ s.H 25 = some (.map (([] : List (Int × Int)).map (kI .i64)) (([] : List (Int × Int)).map fun p => .val (.int .i64 p.2))) ∧ s.H 27 = some (kOb kv_41 v8) ∧ s.H l5 = some (.row 3 1 (v6.map int)) ∧ Lq 0 s.nx ∧ Lq 4 s.nx ∧ Lq 23 s.nx ∧ Lq 25 s.nx ∧ Lq 27 s.nx ∧ Lq l5 s.nx ∧ Nq 0 l5 ∧ Nq 4 l5 ∧ Nq 23 l5 ∧ Nq 25 l5 ∧ Nq 27 l5) ?_ ?_
 · refine TI.by (Tn.adopt 5 3 1 (by simp only [e3, xb, ↓EVd, isCall, sevalprocAttr])) ?_
   refine TI.here ⟨34, ?_, ?_, ?_, ?_, ?_, ?_, ?_, ?_, ?_, ?_, ?_, ?_, ?_, ?_, ?_, ?_, ?_, ?_, ?_, ?_, ?_, ?_, ?_, ?_⟩
   all_goals try simp only [e3, xb, ↓EVd, isCall, sevalprocAttr]
   all_goals first | omega | exact lq (by omega) | exact nq (by omega) | rfl | (congr 1; omega)
 rintro I0 ⟨v6, v7, v8⟩ T0 H0 x4 st0 ⟨l5, kk0⟩ hm1 hI0 hO0
 dsimp only [Lq, Nq] at kk0
 simp only [x2c] at hm1
 rcases iteE hm1 with ⟨e14, hm1⟩ | ⟨e14, hm1⟩
 · obtain ⟨v15, e17, hm1⟩ := ixE encWay hm1
   obtain ⟨v18, h19, hm1⟩ := bsE hm1
   simp only [kk0, e3, e14, e17, xb, ↓EVd, isCall, sevalprocAttr]
   refine qc (xph _ _ _ h19) rfl ?_
   obtain ⟨v20, h21, hm1⟩ := bsE hm1
   simp only [kk0, e3, e14, e17, xb, ↓EVd, isCall, sevalprocAttr]
   refine qc (xek _ _ h21) rfl ?_
   rcases itbE hm1 with ⟨e23, hm1⟩ | ⟨e23, hm1⟩
   · obtain ⟨e26, hm1⟩ := apE hm1
     try simp only [ZL] at e26
     obtain rfl := Option.some.inj hm1
     simp only [kk0, e3, e14, e17, e23, e26, xb, ↓EVd, isCall, sevalprocAttr]
     refine TI.here (hI0 _ rfl _ ⟨(x4 + 15), ?_, ?_, ?_, ?_, ?_, ?_, ?_, ?_, ?_, ?_, ?_, ?_, ?_, ?_, ?_, ?_, ?_, ?_, ?_, ?_, ?_, ?_, ?_, ?_⟩)
     all_goals try simp only [kk0, e3, e14, e17, e23, e26, xb, ↓EVd, isCall, sevalprocAttr]
     all_goals first | omega | exact lq (by omega) | exact nq (by omega) | rfl | (congr 1; omega)
   simp only [kk0, e3, e14, e17, e23, xb, ↓EVd, isCall, sevalprocAttr]
   refine fineI [([], []), ([23], []), ([], []), ([], []), ([27], []), ([], []), ([], [27]), ([], []), ([], [27])] rfl (by simp only [MT, sevalprocAttr]; first | done | omega) ?_
   obtain ⟨v28, h29, hm1⟩ := bsE hm1
   simp only [kk0, e3, e14, e17, e23, xb, ↓EVd, isCall, sevalprocAttr]
   refine qv (x4g _ _ _ h29) rfl ?_
   obtain ⟨v30, h31, hm1⟩ := bsE hm1
   have e32 := esI kv_41 h31
   obtain rfl := Option.some.inj hm1
   simp only [kk0, e3, e14, e17, e23, e32, xb, ↓EVd, isCall, sevalprocAttr]
   refine TI.here (hI0 _ rfl _ ⟨l5, ?_, ?_, ?_, ?_, ?_, ?_, ?_, ?_, ?_, ?_, ?_, ?_, ?_, ?_, ?_, ?_, ?_, ?_, ?_, ?_, ?_, ?_, ?_, ?_⟩)
   all_goals try simp only [kk0, e3, e14, e17, e23, e32, xb, ↓EVd, isCall, sevalprocAttr]
   all_goals first | omega | exact lq (by omega) | exact nq (by omega) | rfl | (congr 1; omega)
 obtain rfl := Option.some.inj hm1
 simp only [kk0, e3, e14, xb, ↓EVd, isCall, sevalprocAttr]
 refine TI.here (hJ0_0 _ ⟨v8, v6, l5, ⟨?_, ?_, ?_, ?_, ?_, ?_, ?_, ?_, ?_, ?_, ?_, ?_, ?_, ?_, ?_, ?_, ?_, ?_, ?_, ?_, ?_⟩, hO0 _ rfl⟩)
 all_goals try simp only [kk0, e3, e14, xb, ↓EVd, isCall, sevalprocAttr]
 all_goals first | omega | exact lq (by omega) | exact nq (by omega) | rfl | (congr 1; omega)
end Go.Proofs.YtfkgckbdknpcnaaGreatDoor.AL

