/- A law of the given program is proved: part 46 of 51. -/
import Derived.Test.YtfkgckbdknpcnaaGreatDoorA45
set_option linter.all false
/- Models of functions, and that the functions are as their models: written by gen.py. -/
set_option linter.all false
set_option maxRecDepth 100000
namespace Go.Proofs.YtfkgckbdknpcnaaGreatDoor.AL
open Go Go.Proofs
def xpf (a0 : List ByteArray) (a1 : ByteArray) : Option (Bool) := (xkc a1).bind fun v1 => if (!v1.2.2) = true then some false
 else if v1.2.1 = true then (xjh v1.1 a0).bind fun v7 => some v7
 else if 0 < (a0.length : Int) then (ix a0 (wr ((a0.length : Int) - 1))).bind fun v11 => (ix v1.1 0).bind fun v14 => if v11 = v14 then some true
 else some false
 else some false
def xtf := aI (aI (@EV) (@R3)) (aI (@R9) (aI (@R30) (@mixed)))
set_option maxHeartbeats 2000000 in
theorem xyp (a0 : List ByteArray) (a1 : ByteArray) (r : Bool) (hm0 : xpf a0 a1 = some r) : Ok Tryz.prog 13 [.sl 1 (a0.map str), str a1] (bool r) := by
 unfold xpf at hm0
 refine okG xiz ?_
 unfold xcr
 obtain ⟨v1, h2, hm0⟩ := bsE hm0
 simp only [xtf, ↓EVd, isCall, sevalprocAttr]
 refine qc (x4j _ _ h2) rfl ?_
 rcases itbE hm0 with ⟨e4, hm0⟩ | ⟨e4, hm0⟩
 · obtain rfl := Option.some.inj hm0
   simp only [e4, xtf, ↓EVd, isCall, sevalprocAttr]
   all_goals first | done | rfl
 rcases itbE hm0 with ⟨e6, hm0⟩ | ⟨e6, hm0⟩
 · obtain ⟨v7, h8, hm0⟩ := bsE hm0
   simp only [e4, e6, xtf, ↓EVd, isCall, sevalprocAttr]
   refine qc (xzx _ _ _ h8) rfl ?_
   obtain rfl := Option.some.inj hm0
   simp only [e4, e6, xtf, ↓EVd, isCall, sevalprocAttr]
   all_goals first | done | rfl
 rcases iteE hm0 with ⟨e10, hm0⟩ | ⟨e10, hm0⟩
 · obtain ⟨v11, e13, hm0⟩ := ixE str hm0
   obtain ⟨v14, e16, hm0⟩ := ixE str hm0
   try simp only [sevalprocAttr, eq_self, true_and] at e16
   rcases iteE hm0 with ⟨e18, hm0⟩ | ⟨e18, hm0⟩
   · obtain rfl := Option.some.inj hm0
     simp only [e4, e6, e10, e13, e16, e18, xtf, ↓EVd, isCall, sevalprocAttr]
     all_goals first | done | rfl
   obtain rfl := Option.some.inj hm0
   simp only [e4, e6, e10, e13, e16, e18, xtf, ↓EVd, isCall, sevalprocAttr]
   all_goals first | done | rfl
 obtain rfl := Option.some.inj hm0
 simp only [e4, e6, e10, xtf, ↓EVd, isCall, sevalprocAttr]
 all_goals first | done | rfl
def xuf (v1 : List Way × List View) : (List Place × Int) → Option (St (List Place × Int) (List Place))
 | (v5, v6) => if v6 < (v1.2.length : Int) then (ix v1.2 v6).bind fun v12 => if 0 < (v12.lower.length : Int) then (ix v12.lower 0).bind fun v17 => (ap 16 v5 ([v17] : List Place)).bind fun _ => some (.nx ((v5 ++ ([v17] : List Place)), (wr (v6 + 1))))
 else (ap 16 v5 ([(⟨0, 0⟩ : Place)] : List Place)).bind fun _ => some (.nx ((v5 ++ ([(⟨0, 0⟩ : Place)] : List Place)), (wr (v6 + 1))))
 else some (.out v5)
def xag (a0 : Stack) : Option (List Place) := (xkg a0).bind fun v1 => (iter (xuf v1) big (([] : List Place), 0)).bind fun o => (match o with
 | v9 => some v9)
def xrc := aI (aI (aI (@EV) (aI (@R3) (@R29))) (aI (aI (@R39) (@R41)) (aI (@R52) (@R80)))) (aI (aI (@DBranch) (aI (@DStack) (@DPlace))) (aI (aI (@DAttr) (@DNode)) (aI (@DView) (@DEntry))))
set_option maxHeartbeats 2000000 in
theorem xbo (a0 : Stack) (r : List Place) (hm0 : xag a0 = some r) : Ok Tryz.prog 11 [xl a0] (.sl 2 (r.map xc)) := by
 unfold xag at hm0
 refine okG xix ?_
 unfold xgp
 obtain ⟨v1, h2, hm0⟩ := bsE hm0
 simp only [xrc, ↓EVd, isCall, sevalprocAttr]
 refine qc (xpm _ _ h2) rfl ?_
 obtain ⟨o0, ho0, hm0⟩ := bsE hm0
 simp only [xrc, ↓EVd, isCall, sevalprocAttr]
 refine cwp_cx 0 (fun s => ∃ v9 : List Place, ∃ l8 : Nat, (s.T 3 = .msl l8 v9.length ∧ s.H l8 = some (.row 41 2 (v9.map xc)) ∧ Lq l8 s.nx) ∧ v9 = o0) ?_ fun J0_0 hJ0_0 => ?_
 · rintro T0 H0 x7 ⟨v9, l8, kk0_0, rfl⟩
   dsimp only [Lq, Nq] at kk0_0
   try dsimp only at hm0
   obtain rfl := Option.some.inj hm0
   simp only [kk0_0, xrc, ↓EVd, isCall, sevalprocAttr]
   all_goals first | done | rfl | exact frzR_e (by simp only [kk0_0, FZ, CLO, xrc, ↓EVd, isCall, sevalprocAttr])
 refine cwp_lp ho0 (fun (v5, v6) s => ∃ l4 : Nat, s.T 3 = .msl l4 v5.length ∧ s.T 5 = .sl 2 (v1.2.map xjb) ∧ s.T 6 = int v6 ∧ s.H l4 = some (.row 41 2 (v5.map xc)) ∧ Lq l4 s.nx) ?_ ?_
 · refine TI.here ⟨2, ?_, ?_, ?_, ?_, ?_⟩
   all_goals try simp only [xrc, ↓EVd, isCall, sevalprocAttr]
   all_goals first | omega | exact lq (by omega) | exact nq (by omega) | rfl | (congr 1; omega)
 rintro I0 ⟨v5, v6⟩ T0 H0 x3 st0 ⟨l4, kk0⟩ hm1 hI0 hO0
 dsimp only [Lq, Nq] at kk0
 simp only [xuf] at hm1
 rcases iteE hm1 with ⟨e11, hm1⟩ | ⟨e11, hm1⟩
 · obtain ⟨v12, e14, hm1⟩ := ixE xjb hm1
   rcases iteE hm1 with ⟨e16, hm1⟩ | ⟨e16, hm1⟩
   · obtain ⟨v17, e19, hm1⟩ := ixE xc hm1
     try simp only [sevalprocAttr, eq_self, true_and] at e19
     obtain ⟨e22, hm1⟩ := apE hm1
     try simp only [ZL] at e22
     obtain rfl := Option.some.inj hm1
     simp only [kk0, e11, e14, e16, e19, e22, xrc, ↓EVd, isCall, sevalprocAttr]
     refine TI.here (hI0 _ rfl _ ⟨(x3 + 20), ?_, ?_, ?_, ?_, ?_⟩)
     all_goals try simp only [kk0, e11, e14, e16, e19, e22, xrc, ↓EVd, isCall, sevalprocAttr]
     all_goals first | omega | exact lq (by omega) | exact nq (by omega) | rfl | (congr 1; omega)
   have e24 : (.agg [int 0, int 0] : AV) = xc (⟨0, 0⟩ : Place) := _root_.id rfl
   obtain ⟨e27, hm1⟩ := apE hm1
   try simp only [ZL] at e27
   obtain rfl := Option.some.inj hm1
   simp only [kk0, e11, e14, e16, e24, e27, xrc, ↓EVd, isCall, sevalprocAttr]
   refine TI.here (hI0 _ rfl _ ⟨(x3 + 14), ?_, ?_, ?_, ?_, ?_⟩)
   all_goals try simp only [kk0, e11, e14, e16, e24, e27, xrc, ↓EVd, isCall, sevalprocAttr]
   all_goals first | omega | exact lq (by omega) | exact nq (by omega) | rfl | (congr 1; omega)
 obtain rfl := Option.some.inj hm1
 simp only [kk0, e11, xrc, ↓EVd, isCall, sevalprocAttr]
 refine TI.here (hJ0_0 _ ⟨v5, l4, ⟨?_, ?_, ?_⟩, hO0 _ rfl⟩)
 all_goals try simp only [kk0, e11, xrc, ↓EVd, isCall, sevalprocAttr]
 all_goals first | omega | exact lq (by omega) | exact nq (by omega) | rfl | (congr 1; omega)
def x9c (a0 : Stack) (a1 : Int) : Option (Bool) := (xwc a0.upper a1).bind fun v1 => (x0f v1.attr 2).bind fun v3 => some v3
def xzi := aI (aI (aI (@EV) (@R3)) (aI (@R26) (aI (@R29) (@R66)))) (aI (aI (@R68) (aI (@DBranch) (@DStack))) (aI (@DAttr) (aI (@DNode) (@DEntry))))
set_option maxHeartbeats 2000000 in
theorem xri (a0 : Stack) (a1 : Int) (r : Bool) (hm0 : x9c a0 a1 = some r) : Ok Tryz.prog 28 [xl a0, int a1] (bool r) := by
 unfold x9c at hm0
 refine okG x5r ?_
 unfold xgm
 obtain ⟨v1, h2, hm0⟩ := bsE hm0
 simp only [xzi, ↓EVd, isCall, sevalprocAttr]
 refine qc (x4e _ _ _ h2) rfl ?_
 obtain ⟨v3, h4, hm0⟩ := bsE hm0
 simp only [xzi, ↓EVd, isCall, sevalprocAttr]
 refine qc (xpn _ _ _ h4) rfl ?_
 obtain rfl := Option.some.inj hm0
 simp only [xzi, ↓EVd, isCall, sevalprocAttr]
 all_goals first | done | rfl
def xoh (a0 : Stack) (a1 : List Way) (a2 : List View) (a3 : Int) : Option (Int) := (ix a1 a3).bind fun v1 => (xwc a0.upper v1.ino).bind fun v4 => (xkc v4.attr.redirect).bind fun v6 => if v1.up < 0 then some 9
 else if (!v6.2.2) = true then some 9
 else (xcj a1 a3).bind fun v12 => (xpf v12 v4.attr.redirect).bind fun v14 => if v14 = true then some 10
 else (ix a2 a3).bind fun v18 => if (v18.lower.length : Int) = 0 then (x6d v4).bind fun v23 => if (!v23) = true then some 11
 else some 0
 else some 0
def xoc := aI (aI (aI (aI (@EV) (@R3)) (aI (@R9) (aI (@R26) (@R29)))) (aI (aI (@R30) (aI (@R39) (@R41))) (aI (@R51) (aI (@R52) (@R66))))) (aI (aI (aI (@R68) (aI (@R77) (@R80))) (aI (@DBranch) (aI (@DStack) (@DPlace)))) (aI (aI (@DAttr) (aI (@DNode) (@DWay))) (aI (@DView) (aI (@DEntry) (@mixed)))))
set_option maxHeartbeats 2000000 in
theorem x7w (a0 : Stack) (a1 : List Way) (a2 : List View) (a3 : Int) (r : Int) (hm0 : xoh a0 a1 a2 a3 = some r) : Ok Tryz.prog 47 [xl a0, .sl 3 (a1.map encWay), .sl 2 (a2.map xjb), int a3] (int r) := by
 unfold xoh at hm0
 refine okG xox ?_
 unfold xup
 obtain ⟨v1, e3, hm0⟩ := ixE encWay hm0
 obtain ⟨v4, h5, hm0⟩ := bsE hm0
 simp only [e3, xoc, ↓EVd, isCall, sevalprocAttr]
 refine qd (x4e _ _ _ h5) rfl ?_
 obtain ⟨v6, h7, hm0⟩ := bsE hm0
 simp only [e3, xoc, ↓EVd, isCall, sevalprocAttr]
 refine qc (x4j _ _ h7) rfl ?_
 rcases iteE hm0 with ⟨e9, hm0⟩ | ⟨e9, hm0⟩
 · obtain rfl := Option.some.inj hm0
   simp only [e3, e9, xoc, ↓EVd, isCall, sevalprocAttr]
   all_goals first | done | rfl
 rcases itbE hm0 with ⟨e11, hm0⟩ | ⟨e11, hm0⟩
 · obtain rfl := Option.some.inj hm0
   simp only [e3, e9, e11, xoc, ↓EVd, isCall, sevalprocAttr]
   all_goals first | done | rfl
 obtain ⟨v12, h13, hm0⟩ := bsE hm0
 simp only [e3, e9, e11, xoc, ↓EVd, isCall, sevalprocAttr]
 refine qd (xt1 _ _ _ h13) rfl ?_
 obtain ⟨v14, h15, hm0⟩ := bsE hm0
 simp only [e3, e9, e11, xoc, ↓EVd, isCall, sevalprocAttr]
 refine qd (xyp _ _ _ h15) rfl ?_
 rcases itbE hm0 with ⟨e17, hm0⟩ | ⟨e17, hm0⟩
 · obtain rfl := Option.some.inj hm0
   simp only [e3, e9, e11, e17, xoc, ↓EVd, isCall, sevalprocAttr]
   all_goals first | done | rfl
 obtain ⟨v18, e20, hm0⟩ := ixE xjb hm0
 rcases iteE hm0 with ⟨e22, hm0⟩ | ⟨e22, hm0⟩
 · obtain ⟨v23, h24, hm0⟩ := bsE hm0
   simp only [e3, e9, e11, e17, e20, e22, xoc, ↓EVd, isCall, sevalprocAttr]
   refine qc (xtl _ _ h24) rfl ?_
   rcases itbE hm0 with ⟨e26, hm0⟩ | ⟨e26, hm0⟩
   · obtain rfl := Option.some.inj hm0
     simp only [e3, e9, e11, e17, e20, e22, e26, xoc, ↓EVd, isCall, sevalprocAttr]
     all_goals first | done | rfl
   obtain rfl := Option.some.inj hm0
   simp only [e3, e9, e11, e17, e20, e22, e26, xoc, ↓EVd, isCall, sevalprocAttr]
   all_goals first | done | rfl
 obtain rfl := Option.some.inj hm0
 simp only [e3, e9, e11, e17, e20, e22, xoc, ↓EVd, isCall, sevalprocAttr]
 all_goals first | done | rfl
def xmk (a0 : List Place) (a1 : Place) : Int → Option (St (Int) ((Unit) ⊕ (Bool)))
 | v2 => if v2 < (a0.length : Int) then (ix a0 v2).bind fun v6 => if (decide (v6 = a1)) = true then some (.out (.inr true))
 else some (.nx (wr (v2 + 1)))
 else some (.out (.inl ()))
def xll (a0 : List Place) (a1 : Place) : Option (Bool) := (iter (xmk a0 a1) big 0).bind fun o => (match o with
 | (.inl _) => some false
 | (.inr r) => some r)
def x2h := aI (aI (@EV) (aI (@R3) (@R39))) (aI (aI (@R41) (@DPlace)) (aI (@eq41) (@mixed)))
set_option maxHeartbeats 2000000 in
theorem xe5 (a0 : List Place) (a1 : Place) (r : Bool) (hm0 : xll a0 a1 = some r) : Ok Tryz.prog 48 [.sl 2 (a0.map xc), xc a1] (bool r) := by
 unfold xll at hm0
 refine okG xh5 ?_
 unfold x3w
 obtain ⟨o0, ho0, hm0⟩ := bsE hm0
 simp only [x2h, ↓EVd, isCall, sevalprocAttr]
 refine cwp_cx 0 (fun s => (.inl ()) = o0) ?_ fun J0_0 hJ0_0 => ?_
 · rintro T0 H0 x3 rfl
   try dsimp only at hm0
   obtain rfl := Option.some.inj hm0
   simp only [x2h, ↓EVd, isCall, sevalprocAttr]
   all_goals first | done | rfl
 refine cwp_lp ho0 (fun v2 s => s.T 0 = .sl 2 (a0.map xc) ∧ s.T 3 = .loc 0 2 0 0 ∧ s.T 5 = int v2 ∧ s.H 0 = some (.row 41 2 [xc a1]) ∧ Lq 0 s.nx) ?_ ?_
 · refine TI.here ⟨?_, ?_, ?_, ?_, ?_⟩
   all_goals try simp only [x2h, ↓EVd, isCall, sevalprocAttr]
   all_goals first | omega | exact lq (by omega) | exact nq (by omega) | rfl | (congr 1; omega)
 rintro I0 v2 T0 H0 x1 st0 kk0 hm1 hI0 hO0
 dsimp only [Lq, Nq] at kk0
 simp only [xmk] at hm1
 rcases iteE hm1 with ⟨e5, hm1⟩ | ⟨e5, hm1⟩
 · obtain ⟨v6, e8, hm1⟩ := ixE xc hm1
   rcases itbE hm1 with ⟨e10, hm1⟩ | ⟨e10, hm1⟩
   · obtain rfl := Option.some.inj hm1
     obtain rfl := hO0 _ rfl
     try dsimp only at hm0
     obtain rfl := Option.some.inj hm0
     simp only [kk0, e5, e8, e10, x2h, ↓EVd, isCall, sevalprocAttr]
     all_goals first | done | rfl
   obtain rfl := Option.some.inj hm1
   simp only [kk0, e5, e8, e10, x2h, ↓EVd, isCall, sevalprocAttr]
   refine TI.here (hI0 _ rfl _ ⟨?_, ?_, ?_, ?_, ?_⟩)
   all_goals try simp only [kk0, e5, e8, e10, x2h, ↓EVd, isCall, sevalprocAttr]
   all_goals first | omega | exact lq (by omega) | exact nq (by omega) | rfl | (congr 1; omega)
 obtain rfl := Option.some.inj hm1
 simp only [kk0, e5, x2h, ↓EVd, isCall, sevalprocAttr]
 refine TI.here (hJ0_0 _ (hO0 _ rfl))
def x3d (a0 : Stack) (v1 : List Way × List View) (v3 : List Place) : (List Place × Int) → Option (St (List Place × Int) (List Place))
 | (v7, v8) => if v8 < (v1.1.length : Int) then (ix v1.1 v8).bind fun v14 => (x9c a0 v14.ino).bind fun v17 => if (!v17) = true then (ix v3 v8).bind fun v21 => (ap 16 v7 ([v21] : List Place)).bind fun _ => some (.nx ((v7 ++ ([v21] : List Place)), (wr (v8 + 1))))
 else some (.nx (v7, (wr (v8 + 1))))
 else some (.out v7)
def x7e (a0 : Stack) (v1 : List Way × List View) (v3 : List Place) : (List Place × List Int × Int) → Option (St (List Place × List Int × Int) (List Int))
 | (v30, v32, v33) => if v33 < (v1.1.length : Int) then (ix v1.1 v33).bind fun v39 => (x9c a0 v39.ino).bind fun v42 => if v42 = true then (xoh a0 v1.1 v1.2 v33).bind fun v46 => if v46 = 0 then (ix v3 v33).bind fun v50 => if (decide (v50 = (⟨0, 0⟩ : Place))) = true then (ap 16 v30 ([v50] : List Place)).bind fun _ => (ap 8 v32 ([v46] : List Int)).bind fun _ => some (.nx ((v30 ++ ([v50] : List Place)), (v32 ++ ([v46] : List Int)), (wr (v33 + 1))))
 else (xll v30 v50).bind fun v64 => if v64 = true then (ap 8 v32 ([12] : List Int)).bind fun _ => some (.nx (v30, (v32 ++ ([12] : List Int)), (wr (v33 + 1))))
 else (ap 16 v30 ([v50] : List Place)).bind fun _ => (ap 8 v32 ([v46] : List Int)).bind fun _ => some (.nx ((v30 ++ ([v50] : List Place)), (v32 ++ ([v46] : List Int)), (wr (v33 + 1))))
 else (ap 8 v32 ([v46] : List Int)).bind fun _ => some (.nx (v30, (v32 ++ ([v46] : List Int)), (wr (v33 + 1))))
 else (ap 8 v32 ([0] : List Int)).bind fun _ => some (.nx (v30, (v32 ++ ([0] : List Int)), (wr (v33 + 1))))
 else some (.out v32)
def xug (a0 : Stack) : Option (List Int) := (xkg a0).bind fun v1 => (xag a0).bind fun v3 => (iter (x3d a0 v1 v3) big (([] : List Place), 0)).bind fun o => (match o with
 | v11 => (iter (x7e a0 v1 v3) big (v11, ([] : List Int), 0)).bind fun o => (match o with
 | v36 => some v36))
def xo := aI (aI (aI (aI (@EV) (@R3)) (aI (@R29) (aI (@R39) (@R41)))) (aI (aI (@R51) (@R52)) (aI (@R73) (aI (@R77) (@R80))))) (aI (aI (aI (@DBranch) (@DStack)) (aI (@DPlace) (aI (@DAttr) (@DNode)))) (aI (aI (@DWay) (@DView)) (aI (@DEntry) (aI (@eq41) (@mixed)))))
set_option maxHeartbeats 2000000 in
theorem xbw (a0 : Stack) (r : List Int) (hm0 : xug a0 = some r) : Ok Tryz.prog 26 [xl a0] (.sl 1 (r.map int)) := by
 unfold xug at hm0
 refine okG x4v ?_
 unfold xao
 obtain ⟨v1, h2, hm0⟩ := bsE hm0
 simp only [xo, ↓EVd, isCall, sevalprocAttr]
 refine qc (xpm _ _ h2) rfl ?_
 obtain ⟨v3, h4, hm0⟩ := bsE hm0
 simp only [xo, ↓EVd, isCall, sevalprocAttr]
 refine qc (xbo _ _ h4) rfl ?_
 obtain ⟨o0, ho0, hm0⟩ := bsE hm0
 simp only [xo, ↓EVd, isCall, sevalprocAttr]
 refine cwp_cx 0 (fun s => ∃ v11 : List Place, ∃ l10 : Nat, (s.T 1 = .loc 0 6 0 0 ∧ s.T 3 = .sl 3 (v1.1.map encWay) ∧ s.T 4 = .sl 2 (v1.2.map xjb) ∧ s.T 5 = .sl 2 (v3.map xc) ∧ s.T 6 = .msl l10 v11.length ∧ s.H 0 = some (.row 29 6 [xl a0]) ∧ s.H l10 = some (.row 41 2 (v11.map xc)) ∧ Lq 0 s.nx ∧ Lq l10 s.nx ∧ Nq 0 l10) ∧ v11 = o0) ?_ fun J0_0 hJ0_0 => ?_
 · rintro T0 H0 x9 ⟨v11, l10, kk0_0, rfl⟩
   dsimp only [Lq, Nq] at kk0_0
   try dsimp only at hm0
   obtain ⟨o1, ho1, hm0⟩ := bsE hm0
   simp only [kk0_0, xo, ↓EVd, isCall, sevalprocAttr]
   refine cwp_cx 2 (fun s => ∃ v36 : List Int, ∃ l35 : Nat, (s.T 8 = .msl l35 v36.length ∧ s.H l35 = some (.row 3 1 (v36.map int)) ∧ Lq l35 s.nx) ∧ v36 = o1) ?_ fun J1_0 hJ1_0 => ?_
   · rintro T1 H1 x34 ⟨v36, l35, kk1_0, rfl⟩
     dsimp only [Lq, Nq] at kk1_0
     try dsimp only at hm0
     obtain rfl := Option.some.inj hm0
     simp only [kk1_0, xo, ↓EVd, isCall, sevalprocAttr]
     all_goals first | done | rfl | exact frzR_e (by simp only [kk1_0, FZ, CLO, xo, ↓EVd, isCall, sevalprocAttr])
   refine cwp_lp ho1 (fun (v30, v32, v33) s => ∃ l29 : Nat, ∃ l31 : Nat, s.T 1 = .loc 0 6 0 0 ∧ s.T 3 = .sl 3 (v1.1.map encWay) ∧ s.T 4 = .sl 2 (v1.2.map xjb) ∧ s.T 5 = .sl 2 (v3.map xc) ∧ s.T 6 = .msl l29 v30.length ∧ s.T 8 = .msl l31 v32.length ∧ s.T 9 = int v33 ∧ s.H 0 = some (.row 29 6 [xl a0]) ∧ s.H l29 = some (.row 41 2 (v30.map xc)) ∧ s.H l31 = some (.row 3 1 (v32.map int)) ∧ Lq 0 s.nx ∧ Lq l29 s.nx ∧ Lq l31 s.nx ∧ Nq 0 l29 ∧ Nq 0 l31 ∧ Nq l29 l31) ?_ ?_
   · refine TI.here ⟨l10, x9, ?_, ?_, ?_, ?_, ?_, ?_, ?_, ?_, ?_, ?_, ?_, ?_, ?_, ?_, ?_, ?_⟩
     all_goals try simp only [kk0_0, xo, ↓EVd, isCall, sevalprocAttr]
     all_goals first | omega | exact lq (by omega) | exact nq (by omega) | rfl | (congr 1; omega)
   rintro I1 ⟨v30, v32, v33⟩ T1 H1 x28 st1 ⟨l29, l31, kk1⟩ hm1 hI1 hO1
   dsimp only [Lq, Nq] at kk1
   simp only [x7e] at hm1
   rcases iteE hm1 with ⟨e38, hm1⟩ | ⟨e38, hm1⟩
   · obtain ⟨v39, e41, hm1⟩ := ixE encWay hm1
     obtain ⟨v42, h43, hm1⟩ := bsE hm1
     simp only [kk1, e38, e41, xo, ↓EVd, isCall, sevalprocAttr]
     refine qd (xri _ _ _ h43) rfl ?_
     rcases itbE hm1 with ⟨e45, hm1⟩ | ⟨e45, hm1⟩
     · obtain ⟨v46, h47, hm1⟩ := bsE hm1
       simp only [kk1, e38, e41, e45, xo, ↓EVd, isCall, sevalprocAttr]
       refine qc (x7w _ _ _ _ _ h47) rfl ?_
       rcases iteE hm1 with ⟨e49, hm1⟩ | ⟨e49, hm1⟩
       · obtain ⟨v50, e52, hm1⟩ := ixE xc hm1
         have e53 : (.agg [int 0, int 0] : AV) = xc (⟨0, 0⟩ : Place) := _root_.id rfl
         rcases itbE hm1 with ⟨e55, hm1⟩ | ⟨e55, hm1⟩
         · obtain ⟨e58, hm1⟩ := apE hm1
           try simp only [ZL] at e58
           obtain ⟨e62, hm1⟩ := apE hm1
           try simp only [ZL] at e62
           obtain rfl := Option.some.inj hm1
           simp only [kk1, e38, e41, e45, e49, e52, e53, e55, e58, e62, xo, ↓EVd, isCall, sevalprocAttr]
           refine TI.here (hI1 _ rfl _ ⟨(x28 + 44), (x28 + 49), ?_, ?_, ?_, ?_, ?_, ?_, ?_, ?_, ?_, ?_, ?_, ?_, ?_, ?_, ?_, ?_⟩)
           all_goals try simp only [kk1, e38, e41, e45, e49, e52, e53, e55, e58, e62, xo, ↓EVd, isCall, sevalprocAttr]
           all_goals first | omega | exact lq (by omega) | exact nq (by omega) | rfl | (congr 1; omega)
         obtain ⟨v64, h65, hm1⟩ := bsE hm1
         simp only [kk1, e38, e41, e45, e49, e52, e53, e55, xo, ↓EVd, isCall, sevalprocAttr]
         refine qcb (xe5 _ _ _ h65) rfl (by simp only [kk1, e38, e41, e45, e49, e52, e53, e55, FZ, CLO, xo, ↓EVd, isCall, sevalprocAttr]) ?_
         rcases itbE hm1 with ⟨e67, hm1⟩ | ⟨e67, hm1⟩
         · have e68 : ((12 : Int) = 0) = False := by decide
           obtain ⟨e71, hm1⟩ := apE hm1
           try simp only [ZL] at e71
           obtain rfl := Option.some.inj hm1
           simp only [kk1, e38, e41, e45, e49, e52, e53, e55, e67, e68, e71, xo, ↓EVd, isCall, sevalprocAttr]
           refine TI.here (hI1 _ rfl _ ⟨l29, (x28 + 42), ?_, ?_, ?_, ?_, ?_, ?_, ?_, ?_, ?_, ?_, ?_, ?_, ?_, ?_, ?_, ?_⟩)
           all_goals try simp only [kk1, e38, e41, e45, e49, e52, e53, e55, e67, e68, e71, xo, ↓EVd, isCall, sevalprocAttr]
           all_goals first | omega | exact lq (by omega) | exact nq (by omega) | rfl | (congr 1; omega)
         obtain ⟨e75, hm1⟩ := apE hm1
         try simp only [ZL] at e75
         obtain ⟨e79, hm1⟩ := apE hm1
         try simp only [ZL] at e79
         obtain rfl := Option.some.inj hm1
         simp only [kk1, e38, e41, e45, e49, e52, e53, e55, e67, e75, e79, xo, ↓EVd, isCall, sevalprocAttr]
         refine TI.here (hI1 _ rfl _ ⟨(x28 + 44), (x28 + 49), ?_, ?_, ?_, ?_, ?_, ?_, ?_, ?_, ?_, ?_, ?_, ?_, ?_, ?_, ?_, ?_⟩)
         all_goals try simp only [kk1, e38, e41, e45, e49, e52, e53, e55, e67, e75, e79, xo, ↓EVd, isCall, sevalprocAttr]
         all_goals first | omega | exact lq (by omega) | exact nq (by omega) | rfl | (congr 1; omega)
       obtain ⟨e83, hm1⟩ := apE hm1
       try simp only [ZL] at e83
       obtain rfl := Option.some.inj hm1
       simp only [kk1, e38, e41, e45, e49, e83, xo, ↓EVd, isCall, sevalprocAttr]
       refine TI.here (hI1 _ rfl _ ⟨l29, (x28 + 41), ?_, ?_, ?_, ?_, ?_, ?_, ?_, ?_, ?_, ?_, ?_, ?_, ?_, ?_, ?_, ?_⟩)
       all_goals try simp only [kk1, e38, e41, e45, e49, e83, xo, ↓EVd, isCall, sevalprocAttr]
       all_goals first | omega | exact lq (by omega) | exact nq (by omega) | rfl | (congr 1; omega)
     obtain ⟨e87, hm1⟩ := apE hm1
     try simp only [ZL] at e87
     obtain rfl := Option.some.inj hm1
     simp only [kk1, e38, e41, e45, e87, xo, ↓EVd, isCall, sevalprocAttr]
     refine TI.here (hI1 _ rfl _ ⟨l29, (x28 + 15), ?_, ?_, ?_, ?_, ?_, ?_, ?_, ?_, ?_, ?_, ?_, ?_, ?_, ?_, ?_, ?_⟩)
     all_goals try simp only [kk1, e38, e41, e45, e87, xo, ↓EVd, isCall, sevalprocAttr]
     all_goals first | omega | exact lq (by omega) | exact nq (by omega) | rfl | (congr 1; omega)
   obtain rfl := Option.some.inj hm1
   simp only [kk1, e38, xo, ↓EVd, isCall, sevalprocAttr]
   refine TI.here (hJ1_0 _ ⟨v32, l31, ⟨?_, ?_, ?_⟩, hO1 _ rfl⟩)
   all_goals try simp only [kk1, e38, xo, ↓EVd, isCall, sevalprocAttr]
   all_goals first | omega | exact lq (by omega) | exact nq (by omega) | rfl | (congr 1; omega)
 refine cwp_lp ho0 (fun (v7, v8) s => ∃ l6 : Nat, s.T 1 = .loc 0 6 0 0 ∧ s.T 3 = .sl 3 (v1.1.map encWay) ∧ s.T 4 = .sl 2 (v1.2.map xjb) ∧ s.T 5 = .sl 2 (v3.map xc) ∧ s.T 6 = .msl l6 v7.length ∧ s.T 7 = int v8 ∧ s.H 0 = some (.row 29 6 [xl a0]) ∧ s.H l6 = some (.row 41 2 (v7.map xc)) ∧ Lq 0 s.nx ∧ Lq l6 s.nx ∧ Nq 0 l6) ?_ ?_
 · refine TI.here ⟨12, ?_, ?_, ?_, ?_, ?_, ?_, ?_, ?_, ?_, ?_, ?_⟩
   all_goals try simp only [xo, ↓EVd, isCall, sevalprocAttr]
   all_goals first | omega | exact lq (by omega) | exact nq (by omega) | rfl | (congr 1; omega)
 rintro I0 ⟨v7, v8⟩ T0 H0 x5 st0 ⟨l6, kk0⟩ hm1 hI0 hO0
 dsimp only [Lq, Nq] at kk0
 simp only [x3d] at hm1
 rcases iteE hm1 with ⟨e13, hm1⟩ | ⟨e13, hm1⟩
 · obtain ⟨v14, e16, hm1⟩ := ixE encWay hm1
   obtain ⟨v17, h18, hm1⟩ := bsE hm1
   simp only [kk0, e13, e16, xo, ↓EVd, isCall, sevalprocAttr]
   refine qd (xri _ _ _ h18) rfl ?_
   rcases itbE hm1 with ⟨e20, hm1⟩ | ⟨e20, hm1⟩
   · obtain ⟨v21, e23, hm1⟩ := ixE xc hm1
     obtain ⟨e26, hm1⟩ := apE hm1
     try simp only [ZL] at e26
     obtain rfl := Option.some.inj hm1
     simp only [kk0, e13, e16, e20, e23, e26, xo, ↓EVd, isCall, sevalprocAttr]
     refine TI.here (hI0 _ rfl _ ⟨(x5 + 18), ?_, ?_, ?_, ?_, ?_, ?_, ?_, ?_, ?_, ?_, ?_⟩)
     all_goals try simp only [kk0, e13, e16, e20, e23, e26, xo, ↓EVd, isCall, sevalprocAttr]
     all_goals first | omega | exact lq (by omega) | exact nq (by omega) | rfl | (congr 1; omega)
   obtain rfl := Option.some.inj hm1
   simp only [kk0, e13, e16, e20, xo, ↓EVd, isCall, sevalprocAttr]
   refine TI.here (hI0 _ rfl _ ⟨l6, ?_, ?_, ?_, ?_, ?_, ?_, ?_, ?_, ?_, ?_, ?_⟩)
   all_goals try simp only [kk0, e13, e16, e20, xo, ↓EVd, isCall, sevalprocAttr]
   all_goals first | omega | exact lq (by omega) | exact nq (by omega) | rfl | (congr 1; omega)
 obtain rfl := Option.some.inj hm1
 simp only [kk0, e13, xo, ↓EVd, isCall, sevalprocAttr]
 refine TI.here (hJ0_0 _ ⟨v7, l6, ⟨?_, ?_, ?_, ?_, ?_, ?_, ?_, ?_, ?_, ?_⟩, hO0 _ rfl⟩)
 all_goals try simp only [kk0, e13, xo, ↓EVd, isCall, sevalprocAttr]
 all_goals first | omega | exact lq (by omega) | exact nq (by omega) | rfl | (congr 1; omega)
def xnd (v1 : List Way × List View) (v3 : List Int) (v10 : Int) : (Int × Int) → Option (St (Int × Int) (Int))
 | (v26, v27) => if v27 < (v1.1.length : Int) then (ix v1.1 v27).bind fun v32 => if v32.ino = v10 then (ix v3 v27).bind fun v37 => some (.nx (v37, (wr (v27 + 1))))
 else some (.nx (v26, (wr (v27 + 1))))
 else some (.out v26)
def xpe (a0 : Stack) (v1 : List Way × List View) (v3 : List Int) (v5 : List Bool) : (List Finding × Int) → Option (St (List Finding × Int) (List Finding))
 | (v9, v10) => if v10 ≤ (v5.length : Int) then (ix v5 (wr (v10 - 1))).bind fun v16 => if (!v16) = true then some (.nx (v9, (wr (v10 + 1))))
 else (x9c a0 v10).bind fun v21 => if (!v21) = true then some (.nx (v9, (wr (v10 + 1))))
 else (iter (xnd v1 v3 v10) big (9, 0)).bind fun o => (match o with
 | v29 => if v29 = 0 then some (.nx (v9, (wr (v10 + 1))))
 else (ap 32 v9 ([(⟨v29, 0, v10, (-1)⟩ : Finding)] : List Finding)).bind fun _ => some (.nx ((v9 ++ ([(⟨v29, 0, v10, (-1)⟩ : Finding)] : List Finding)), (wr (v10 + 1)))))
 else some (.out v9)
def xog (a0 : Stack) : Option (List Finding) := (xkg a0).bind fun v1 => (xug a0).bind fun v3 => (xbi a0.upper ([1] : List Int)).bind fun v5 => (iter (xpe a0 v1 v3 v5) big (([] : List Finding), 1)).bind fun o => (match o with
 | v13 => some v13)
def xp := aI (aI (aI (aI (@EV) (@R3)) (aI (@R4) (@R26))) (aI (aI (@R29) (@R34)) (aI (@R36) (aI (@R51) (@R58))))) (aI (aI (aI (@R73) (@R77)) (aI (@DBranch) (@DStack))) (aI (aI (@DFinding) (@DAttr)) (aI (@DNode) (aI (@DWay) (@DEntry)))))
set_option maxHeartbeats 2000000 in
theorem xzu (a0 : Stack) (r : List Finding) (hm0 : xog a0 = some r) : Ok Tryz.prog 8 [xl a0] (.sl 4 (r.map xcb)) := by
 unfold xog at hm0
 refine okG x3u ?_
 unfold xdn
 obtain ⟨v1, h2, hm0⟩ := bsE hm0
 simp only [xp, ↓EVd, isCall, sevalprocAttr]
 refine qc (xpm _ _ h2) rfl ?_
 obtain ⟨v3, h4, hm0⟩ := bsE hm0
 simp only [xp, ↓EVd, isCall, sevalprocAttr]
 refine qc (xbw _ _ h4) rfl ?_
 obtain ⟨v5, h6, hm0⟩ := bsE hm0
 simp only [xp, ↓EVd, isCall, sevalprocAttr]
 refine qcq (xjz _ _ _ h6) rfl (by simp only [FQ, CLO, xp, ↓EVd, isCall, sevalprocAttr]; first | done | rfl) ?_
 obtain ⟨o0, ho0, hm0⟩ := bsE hm0
 simp only [xp, ↓EVd, isCall, sevalprocAttr]
 refine cwp_cx 0 (fun s => ∃ v13 : List Finding, ∃ l12 : Nat, (s.T 3 = .msl l12 v13.length ∧ s.H l12 = some (.row 36 4 (v13.map xcb)) ∧ Lq l12 s.nx) ∧ v13 = o0) ?_ fun J0_0 hJ0_0 => ?_
 · rintro T0 H0 x11 ⟨v13, l12, kk0_0, rfl⟩
   dsimp only [Lq, Nq] at kk0_0
   try dsimp only at hm0
   obtain rfl := Option.some.inj hm0
   simp only [kk0_0, xp, ↓EVd, isCall, sevalprocAttr]
   all_goals first | done | rfl | exact frzR_e (by simp only [kk0_0, FZ, CLO, xp, ↓EVd, isCall, sevalprocAttr])
 refine cwp_lp ho0 (fun (v9, v10) s => ∃ l8 : Nat, s.T 1 = .loc 0 6 0 0 ∧ s.T 3 = .msl l8 v9.length ∧ s.T 4 = .sl 3 (v1.1.map encWay) ∧ s.T 6 = .sl 1 (v3.map int) ∧ s.T 7 = .sl 1 (v5.map bool) ∧ s.T 8 = int v10 ∧ s.H 0 = some (.row 29 6 [xl a0]) ∧ s.H l8 = some (.row 36 4 (v9.map xcb)) ∧ Lq 0 s.nx ∧ Lq l8 s.nx ∧ Nq 0 l8) ?_ ?_
 · refine TI.here ⟨2, ?_, ?_, ?_, ?_, ?_, ?_, ?_, ?_, ?_, ?_, ?_⟩
   all_goals try simp only [xp, ↓EVd, isCall, sevalprocAttr]
   all_goals first | omega | exact lq (by omega) | exact nq (by omega) | rfl | (congr 1; omega)
 rintro I0 ⟨v9, v10⟩ T0 H0 x7 st0 ⟨l8, kk0⟩ hm1 hI0 hO0
 dsimp only [Lq, Nq] at kk0
 simp only [xpe] at hm1
 rcases iteE hm1 with ⟨e15, hm1⟩ | ⟨e15, hm1⟩
 · obtain ⟨v16, e18, hm1⟩ := ixE bool hm1
   rcases itbE hm1 with ⟨e20, hm1⟩ | ⟨e20, hm1⟩
   · obtain rfl := Option.some.inj hm1
     simp only [kk0, e15, e18, e20, xp, ↓EVd, isCall, sevalprocAttr]
     refine TI.here (hI0 _ rfl _ ⟨l8, ?_, ?_, ?_, ?_, ?_, ?_, ?_, ?_, ?_, ?_, ?_⟩)
     all_goals try simp only [kk0, e15, e18, e20, xp, ↓EVd, isCall, sevalprocAttr]
     all_goals first | omega | exact lq (by omega) | exact nq (by omega) | rfl | (congr 1; omega)
   obtain ⟨v21, h22, hm1⟩ := bsE hm1
   simp only [kk0, e15, e18, e20, xp, ↓EVd, isCall, sevalprocAttr]
   refine qc (xri _ _ _ h22) rfl ?_
   rcases itbE hm1 with ⟨e24, hm1⟩ | ⟨e24, hm1⟩
   · obtain rfl := Option.some.inj hm1
     simp only [kk0, e15, e18, e20, e24, xp, ↓EVd, isCall, sevalprocAttr]
     refine TI.here (hI0 _ rfl _ ⟨l8, ?_, ?_, ?_, ?_, ?_, ?_, ?_, ?_, ?_, ?_, ?_⟩)
     all_goals try simp only [kk0, e15, e18, e20, e24, xp, ↓EVd, isCall, sevalprocAttr]
     all_goals first | omega | exact lq (by omega) | exact nq (by omega) | rfl | (congr 1; omega)
   obtain ⟨o1, ho1, hm1⟩ := bsE hm1
   simp only [kk0, e15, e18, e20, e24, xp, ↓EVd, isCall, sevalprocAttr]
   refine cwp_cx 2 (fun s => ∃ v29 : Int, (s.T 1 = .loc 0 6 0 0 ∧ s.T 3 = .msl l8 v9.length ∧ s.T 4 = .sl 3 (v1.1.map encWay) ∧ s.T 6 = .sl 1 (v3.map int) ∧ s.T 7 = .sl 1 (v5.map bool) ∧ s.T 8 = int v10 ∧ s.T 9 = int v29 ∧ s.H 0 = some (.row 29 6 [xl a0]) ∧ s.H l8 = some (.row 36 4 (v9.map xcb)) ∧ Lq 0 s.nx ∧ Lq l8 s.nx ∧ Nq 0 l8) ∧ v29 = o1) ?_ fun J1_0 hJ1_0 => ?_
   · rintro T1 H1 x28 ⟨v29, kk1_0, rfl⟩
     dsimp only [Lq, Nq] at kk1_0
     try dsimp only at hm1
     rcases iteE hm1 with ⟨e41, hm1⟩ | ⟨e41, hm1⟩
     · obtain rfl := Option.some.inj hm1
       simp only [kk1_0, e15, e18, e20, e24, e41, xp, ↓EVd, isCall, sevalprocAttr]
       refine TI.here (hI0 _ rfl _ ⟨l8, ?_, ?_, ?_, ?_, ?_, ?_, ?_, ?_, ?_, ?_, ?_⟩)
       all_goals try simp only [kk1_0, e15, e18, e20, e24, e41, xp, ↓EVd, isCall, sevalprocAttr]
       all_goals first | omega | exact lq (by omega) | exact nq (by omega) | rfl | (congr 1; omega)
     have e42 : (.agg [int v29, int 0, int v10, int (-1)] : AV) = xcb (⟨v29, 0, v10, (-1)⟩ : Finding) := _root_.id rfl
     obtain ⟨e45, hm1⟩ := apE hm1
     try simp only [ZL] at e45
     obtain rfl := Option.some.inj hm1
     simp only [kk1_0, e15, e18, e20, e24, e41, e42, e45, xp, ↓EVd, isCall, sevalprocAttr]
     refine TI.here (hI0 _ rfl _ ⟨(x28 + 7), ?_, ?_, ?_, ?_, ?_, ?_, ?_, ?_, ?_, ?_, ?_⟩)
     all_goals try simp only [kk1_0, e15, e18, e20, e24, e41, e42, e45, xp, ↓EVd, isCall, sevalprocAttr]
     all_goals first | omega | exact lq (by omega) | exact nq (by omega) | rfl | (congr 1; omega)
   refine cwp_lp ho1 (fun (v26, v27) s => s.T 1 = .loc 0 6 0 0 ∧ s.T 3 = .msl l8 v9.length ∧ s.T 4 = .sl 3 (v1.1.map encWay) ∧ s.T 6 = .sl 1 (v3.map int) ∧ s.T 7 = .sl 1 (v5.map bool) ∧ s.T 8 = int v10 ∧ s.T 9 = int v26 ∧ s.T 10 = int v27 ∧ s.H 0 = some (.row 29 6 [xl a0]) ∧ s.H l8 = some (.row 36 4 (v9.map xcb)) ∧ Lq 0 s.nx ∧ Lq l8 s.nx ∧ Nq 0 l8) ?_ ?_
   · refine TI.here ⟨?_, ?_, ?_, ?_, ?_, ?_, ?_, ?_, ?_, ?_, ?_, ?_, ?_⟩
     all_goals try simp only [kk0, e15, e18, e20, e24, xp, ↓EVd, isCall, sevalprocAttr]
     all_goals first | omega | exact lq (by omega) | exact nq (by omega) | rfl | (congr 1; omega)
   rintro I1 ⟨v26, v27⟩ T1 H1 x25 st1 kk1 hm2 hI1 hO1
   dsimp only [Lq, Nq] at kk1
   simp only [xnd] at hm2
   rcases iteE hm2 with ⟨e31, hm2⟩ | ⟨e31, hm2⟩
   · obtain ⟨v32, e34, hm2⟩ := ixE encWay hm2
     rcases iteE hm2 with ⟨e36, hm2⟩ | ⟨e36, hm2⟩
     · obtain ⟨v37, e39, hm2⟩ := ixE int hm2
       obtain rfl := Option.some.inj hm2
       simp only [kk1, e15, e18, e20, e24, e31, e34, e36, e39, xp, ↓EVd, isCall, sevalprocAttr]
       refine TI.here (hI1 _ rfl _ ⟨?_, ?_, ?_, ?_, ?_, ?_, ?_, ?_, ?_, ?_, ?_, ?_, ?_⟩)
       all_goals try simp only [kk1, e15, e18, e20, e24, e31, e34, e36, e39, xp, ↓EVd, isCall, sevalprocAttr]
       all_goals first | omega | exact lq (by omega) | exact nq (by omega) | rfl | (congr 1; omega)
     obtain rfl := Option.some.inj hm2
     simp only [kk1, e15, e18, e20, e24, e31, e34, e36, xp, ↓EVd, isCall, sevalprocAttr]
     refine TI.here (hI1 _ rfl _ ⟨?_, ?_, ?_, ?_, ?_, ?_, ?_, ?_, ?_, ?_, ?_, ?_, ?_⟩)
     all_goals try simp only [kk1, e15, e18, e20, e24, e31, e34, e36, xp, ↓EVd, isCall, sevalprocAttr]
     all_goals first | omega | exact lq (by omega) | exact nq (by omega) | rfl | (congr 1; omega)
   obtain rfl := Option.some.inj hm2
   simp only [kk1, e15, e18, e20, e24, e31, xp, ↓EVd, isCall, sevalprocAttr]
   refine TI.here (hJ1_0 _ ⟨v26, ⟨?_, ?_, ?_, ?_, ?_, ?_, ?_, ?_, ?_, ?_, ?_, ?_⟩, hO1 _ rfl⟩)
   all_goals try simp only [kk1, e15, e18, e20, e24, e31, xp, ↓EVd, isCall, sevalprocAttr]
   all_goals first | omega | exact lq (by omega) | exact nq (by omega) | rfl | (congr 1; omega)
 obtain rfl := Option.some.inj hm1
 simp only [kk0, e15, xp, ↓EVd, isCall, sevalprocAttr]
 refine TI.here (hJ0_0 _ ⟨v9, l8, ⟨?_, ?_, ?_⟩, hO0 _ rfl⟩)
 all_goals try simp only [kk0, e15, xp, ↓EVd, isCall, sevalprocAttr]
 all_goals first | omega | exact lq (by omega) | exact nq (by omega) | rfl | (congr 1; omega)
end Go.Proofs.YtfkgckbdknpcnaaGreatDoor.AL

/- Plain laws of chapter 21: nodes, claims, loops, clauses. -/
set_option linter.all false
namespace Go.Proofs.YtfkgckbdknpcnaaGreatDoor.AL
open Go Go.Proofs
theorem x9o {α β : Type} (f : α → β) : ∀ (l : List α) (d : List β), l.foldl (fun d x => d ++ [f x]) d = d ++ l.map f
  | [], d => by simp
  | x :: l, d => by rw [List.foldl_cons, x9o f l]; simp
theorem xqw {s : Stack} (hb : PB s.upper) (W : List Way) (V : List View) {ino : Int} (h1 : 1 ≤ ino) (h2 : ino ≤ (s.upper.nodes.length : Int)) : xvc ⟨s, W, V⟩ ino = some (nodeP s.upper ino) := by
  unfold xvc
  have hn := hb.len
  simp only
  rw [xqk (by omega) (by omega) (by omega)]
  rfl
theorem xbr {n : Node} (h : NV n) : xqc n = some (redB n) := by
  unfold xqc
  rw [if_pos h.has0]
  by_cases hq : redB n = true
  · rw [if_neg (fun e => (xvu h).1 e hq), hq]
  · rw [if_pos ((xvu h).2 hq)]
    simp at hq
    rw [hq]
theorem x9l {s : Stack} (h : SV s) (hb : PB s.upper) (ino : Int) : x9c s ino = some (redB (nodeP s.upper ino)) := by
  unfold x9c
  rw [at_eq hb]
  simp only [Option.bind_some]
  rw [xl3 (x8h h.up ino)]
  rfl
def claimP (v : View) : Place := v.lower.headD ⟨0, 0⟩
theorem xz3 (l : List Place) : (if 0 < (l.length : Int) then (ix l 0).bind fun v => some v else some (⟨0, 0⟩ : Place)) = some (l.headD ⟨0, 0⟩) := by
  cases l with
  | nil => rfl
  | cons x l =>
    rw [if_pos (by simp)]
    have := ix_at (xs := x :: l) (i := 0) (by simp)
    have e0 : ((0 : Nat) : Int) = 0 := rfl
    rw [e0] at this
    rw [this]
    rfl
theorem xlw (s : Stack) (W : List Way) (V : List View) {i : Nat} (hi : i < V.length) : xpc ⟨s, W, V⟩ (i : Int) = some (claimP V[i]) := by
  unfold xpc
  simp only
  rw [ix_at hi]
  simp only [Option.bind_some]
  exact xz3 _
theorem xxh {s : Stack} (h : SV s) (hb : PB s.upper) : (treeV s).length = (walkP s.upper [1]).2.1.length := (xmy h hb).2.len
theorem xc5 {s : Stack} (h : SV s) (hb : PB s.upper) : xkd s = some ((treeV s).map claimP) := by
  unfold xkd
  have hwl := xoe hb (fr := [1]) (by simp)
  have hvl := xxh h hb
  rw [(xmy h hb).1]
  simp only [Option.bind_some]
  have := xdc (B := xee s ((walkP s.upper [1]).2.1, treeV s)) (fun i d => (d, (i : Int))) (treeV s) (fun d x => d ++ [claimP x]) (fun d => d) (fun i d => d.length = i) (by
    intro i d hi t
    refine ⟨?_, by simp [t]⟩
    simp only [xee]
    rw [if_pos (by omega), xzk, xlw s _ _ hi]
    simp only [Option.bind_some]
    rw [ap_of (by simp; omega) (by decide), wr_suc (by omega)]
    rfl) (by
    intro d t
    simp only [xee]
    rw [if_neg (by omega)]) (s0 := []) rfl (fuel := big) (by rw [big_eq]; omega)
  have e0 : ((0 : Nat) : Int) = 0 := rfl
  rw [e0] at this
  rw [this.1, x9o]
  rfl
theorem xiu {s : Stack} (h : SV s) (hb : PB s.upper) : xag s = some ((treeV s).map claimP) := by
  unfold xag
  have hwl := xoe hb (fr := [1]) (by simp)
  have hvl := xxh h hb
  rw [xmw h hb]
  simp only [Option.bind_some]
  have := xdc (B := xuf ((walkP s.upper [1]).2.1, treeV s)) (fun i d => (d, (i : Int))) (treeV s) (fun d x => d ++ [claimP x]) (fun d => d) (fun i d => d.length = i) (by
    intro i d hi t
    refine ⟨?_, by simp [t]⟩
    simp only [xuf]
    rw [if_pos (by omega), ix_at hi]
    simp only [Option.bind_some]
    have hc := xz3 (treeV s)[i].lower
    unfold claimP
    generalize (treeV s)[i].lower = l at hc
    by_cases hl : 0 < (l.length : Int)
    · rw [if_pos hl] at hc ⊢
      obtain ⟨v, e1, e2⟩ := Option.bind_eq_some_iff.1 hc
      injection e2 with e2
      rw [e1]
      simp only [Option.bind_some]
      rw [ap_of (by simp; omega) (by decide), wr_suc (by omega), e2]
      rfl
    · rw [if_neg hl] at hc ⊢
      injection hc with hc
      rw [ap_of (by simp; omega) (by decide), wr_suc (by omega), ← hc]
      rfl) (by
    intro d t
    simp only [xuf]
    rw [if_neg (by omega)]) (s0 := []) rfl (fuel := big) (by rw [big_eq]; omega)
  have e0 : ((0 : Nat) : Int) = 0 := rfl
  rw [e0] at this
  rw [this.1, x9o]
  rfl
def loopsP (own : List ByteArray) (tx : ByteArray) : Bool :=
  if (redirP tx).2.2 = true then (if (redirP tx).2.1 = true then beginP (redirP tx).1 own else decide (0 < own.length ∧ own.getLast? = (redirP tx).1.head?)) else false
theorem xrab (l : List ByteArray) (h : 0 < l.length) : l.drop (l.length - 1) = [l[l.length - 1]] := by
  rw [List.drop_eq_getElem_cons (by omega)]
  rw [List.drop_eq_nil_of_le (by omega)]
theorem xjq {own : List ByteArray} (ho : own.length ≤ 1000) (tx : ByteArray) : xad own tx = some (loopsP own tx) := by
  unfold xad loopsP
  rw [xaw]
  simp only [Option.bind_some]
  have hl := x2m tx
  by_cases h1 : (redirP tx).2.2 = true
  · rw [if_neg (by simp [h1]), if_pos h1]
    by_cases h2 : (redirP tx).2.1 = true
    · rw [if_pos h2, if_pos h2, xx5 (by omega) (by omega)]
      rfl
    · rw [if_neg h2, if_neg h2]
      obtain ⟨x, hx⟩ := x3m h1 h2
      by_cases h3 : 0 < own.length
      · rw [if_pos (by omega)]
        have e : wr ((own.length : Int) - 1) = ((own.length - 1 : Nat) : Int) := by rw [wr_in (by omega) (by omega)]; omega
        have hs : slM own (some (wr ((own.length : Int) - 1))) none = some [own[own.length - 1]] := by
          unfold slM
          rw [e]
          simp only [Option.getD_none, Option.getD_some, Int.toNat_natCast]
          rw [if_pos (by omega), xrab own h3]
          congr 1
          rw [List.take_of_length_le (by simp; omega)]
        rw [hs]
        simp only [Option.bind_some]
        rw [xvz (by simp), hx]
        simp only [Option.bind_some]
        congr 1
        rw [List.getLast?_eq_getElem?, List.getElem?_eq_getElem (by omega)]
        simp [h3]
      · rw [if_neg (by omega)]
        simp [h3]
  · rw [if_pos (by simpa using h1), if_neg h1]
theorem xlv {own : List ByteArray} (ho : own.length ≤ 1000) (tx : ByteArray) : xpf own tx = some (loopsP own tx) := by
  unfold xpf loopsP
  rw [xct]
  simp only [Option.bind_some]
  have hl := x2m tx
  by_cases h1 : (redirP tx).2.2 = true
  · rw [if_neg (by simp [h1]), if_pos h1]
    by_cases h2 : (redirP tx).2.1 = true
    · rw [if_pos h2, if_pos h2, xz2 (by omega) (by omega)]
      rfl
    · rw [if_neg h2, if_neg h2]
      obtain ⟨x, hx⟩ := x3m h1 h2
      by_cases h3 : 0 < own.length
      · rw [if_pos (by omega)]
        have e : wr ((own.length : Int) - 1) = ((own.length - 1 : Nat) : Int) := by rw [wr_in (by omega) (by omega)]; omega
        have e0 : ix [x] 0 = some x := rfl
        rw [e, ix_at (by omega), hx]
        simp only [Option.bind_some, e0]
        rw [List.getLast?_eq_getElem?, List.getElem?_eq_getElem (by omega)]
        by_cases he : own[own.length - 1] = x <;> simp [he, h3]
      · rw [if_neg (by omega)]
        simp [h3]
  · rw [if_pos (by simpa using h1), if_neg h1]
def wI (s : Stack) (i : Nat) : Way := ((walkP s.upper [1]).2.1[i]?).getD ⟨0, 0, xk⟩
def vI (s : Stack) (i : Nat) : View := ((treeV s)[i]?).getD ⟨0, []⟩
def nI (s : Stack) (i : Nat) : Node := nodeP s.upper (wI s i).ino
def clP (s : Stack) (i : Nat) : Int :=
  if (redirP (nI s i).attr.redirect).2.2 = true then
    (if (wI s i).up < 0 then 9 else if loopsP (pathP (walkP s.upper [1]).2.1 i) (nI s i).attr.redirect = true then 10
     else if (vI s i).lower.length = 0 ∧ ¬ opqV (nI s i) = true then 11 else 0)
  else 9
theorem wI_at {s : Stack} {i : Nat} (hi : i < (walkP s.upper [1]).2.1.length) : (walkP s.upper [1]).2.1[i] = wI s i := by
  unfold wI; rw [List.getElem?_eq_getElem hi]; rfl
theorem vI_at {s : Stack} {i : Nat} (hi : i < (treeV s).length) : (treeV s)[i] = vI s i := by
  unfold vI; rw [List.getElem?_eq_getElem hi]; rfl
theorem wI_in {s : Stack} (h : SV s) (hb : PB s.upper) {i : Nat} (hi : i < (walkP s.upper [1]).2.1.length) : 1 ≤ (wI s i).ino ∧ (wI s i).ino ≤ (s.upper.nodes.length : Int) := by
  have := (xww h hb hi).2.2
  rw [wI_at hi] at this
  exact xyg this
theorem xf5 {s : Stack} (h : SV s) (hb : PB s.upper) {i : Nat} (hi : i < (walkP s.upper [1]).2.1.length) : xrd ⟨s, (walkP s.upper [1]).2.1, treeV s⟩ (i : Int) = some (clP s i) := by
  unfold xrd clP
  simp only
  have hwl := xoe hb (fr := [1]) (by simp)
  have hvl := xxh h hb
  obtain ⟨i1, i2⟩ := wI_in h hb hi
  rw [ix_at hi, wI_at hi]
  simp only [Option.bind_some]
  rw [xqw hb _ _ i1 i2]
  simp only [Option.bind_some]
  have hn : NV (nI s i) := x8h h.up _
  change (xsc (nI s i).attr.redirect).bind _ = _
  rw [xaw]
  simp only [Option.bind_some]
  by_cases h1 : (redirP (nI s i).attr.redirect).2.2 = true
  · rw [if_neg (by simp [h1]), if_pos h1]
    by_cases h2 : (wI s i).up < 0
    · rw [if_pos h2, if_pos h2]
    · rw [if_neg h2, if_neg h2, xabb (by omega)]
      simp only [Option.bind_some]
      have hp := x2z (walkP s.upper [1]).2.1 i
      change (xad _ (nI s i).attr.redirect).bind _ = _
      rw [xjq (by omega)]
      simp only [Option.bind_some]
      by_cases h3 : loopsP (pathP (walkP s.upper [1]).2.1 i) (nI s i).attr.redirect = true
      · rw [if_pos h3, if_pos h3]
      · rw [if_neg h3, if_neg h3, ix_at (show i < (treeV s).length by omega), vI_at (by omega)]
        simp only [Option.bind_some]
        change (if ((vI s i).lower.length : Int) = 0 then (xtd (nI s i)).bind _ else _) = _
        rw [x7p hn]
        simp only [Option.bind_some]
        by_cases h4 : (vI s i).lower.length = 0
        · rw [if_pos (by omega)]
          by_cases h5 : opqV (nI s i) = true
          · rw [if_neg (by simp [h5]), if_neg (fun c => c.2 h5)]
          · rw [if_pos (by simpa using h5), if_pos ⟨h4, h5⟩]
        · rw [if_neg (by omega), if_neg (fun c => h4 c.1)]
  · rw [if_pos (by simpa using h1), if_neg h1]
theorem xc4 {s : Stack} (h : SV s) (hb : PB s.upper) {i : Nat} (hi : i < (walkP s.upper [1]).2.1.length) : xoh s (walkP s.upper [1]).2.1 (treeV s) (i : Int) = some (clP s i) := by
  unfold xoh clP
  have hwl := xoe hb (fr := [1]) (by simp)
  have hvl := xxh h hb
  rw [ix_at hi, wI_at hi]
  simp only [Option.bind_some]
  rw [at_eq hb]
  simp only [Option.bind_some]
  have hn : NV (nI s i) := x8h h.up _
  change (xkc (nI s i).attr.redirect).bind _ = _
  rw [xct]
  simp only [Option.bind_some]
  by_cases h1 : (redirP (nI s i).attr.redirect).2.2 = true
  · by_cases h2 : (wI s i).up < 0
    · rw [if_pos h2, if_pos h1, if_pos h2]
    · rw [if_neg h2, if_neg (by simp [h1]), if_pos h1, if_neg h2, x38 (by omega)]
      simp only [Option.bind_some]
      have hp := x2z (walkP s.upper [1]).2.1 i
      change (xpf _ (nI s i).attr.redirect).bind _ = _
      rw [xlv (by omega)]
      simp only [Option.bind_some]
      by_cases h3 : loopsP (pathP (walkP s.upper [1]).2.1 i) (nI s i).attr.redirect = true
      · rw [if_pos h3, if_pos h3]
      · rw [if_neg h3, if_neg h3, ix_at (show i < (treeV s).length by omega), vI_at (by omega)]
        simp only [Option.bind_some]
        change (if ((vI s i).lower.length : Int) = 0 then (x6d (nI s i)).bind _ else _) = _
        rw [xkn hn]
        simp only [Option.bind_some]
        by_cases h4 : (vI s i).lower.length = 0
        · rw [if_pos (by omega)]
          by_cases h5 : opqV (nI s i) = true
          · rw [if_neg (by simp [h5]), if_neg (fun c => c.2 h5)]
          · rw [if_pos (by simpa using h5), if_pos ⟨h4, h5⟩]
        · rw [if_neg (by omega), if_neg (fun c => h4 c.1)]
  · rw [if_neg h1]
    by_cases h2 : (wI s i).up < 0
    · rw [if_pos h2]
    · rw [if_neg h2, if_pos (by simpa using h1)]
end Go.Proofs.YtfkgckbdknpcnaaGreatDoor.AL

/- Plain laws of chapter 21: findings. -/
set_option linter.all false
namespace Go.Proofs.YtfkgckbdknpcnaaGreatDoor.AL
open Go Go.Proofs
def rdI (s : Stack) (i : Nat) : Bool := redB (nI s i)
def cmI (s : Stack) (i : Nat) : Place := claimP (vI s i)
def clT (s : Stack) (T : List Place) (i : Nat) : Int := if clP s i = 0 then (if cmI s i = ⟨0, 0⟩ then 0 else if cmI s i ∈ T then 12 else 0) else clP s i
def nxT (s : Stack) (T : List Place) (i : Nat) : List Place := if clP s i = 0 ∧ (cmI s i = ⟨0, 0⟩ ∨ cmI s i ∉ T) then T ++ [cmI s i] else T
def gT (s : Stack) : List Place → List Nat → List (Nat × Int)
  | _, [] => []
  | T, i :: L => (i, clT s T i) :: gT s (nxT s T i) L
def hT (s : Stack) : List Place → List Nat → List Int
  | _, [] => []
  | T, i :: L => if rdI s i = true then clT s T i :: hT s (nxT s T i) L else 0 :: hT s T L
def nW (s : Stack) : Nat := (walkP s.upper [1]).2.1.length
def laterP (s : Stack) : List Nat := (List.range (nW s)).filter (rdI s)
def takenP (s : Stack) : List Place := ((List.range (nW s)).filter (fun i => !rdI s i)).map (cmI s)
theorem hT_len (s : Stack) : ∀ (L : List Nat) (T : List Place), (hT s T L).length = L.length
  | [], T => rfl
  | i :: L, T => by
    unfold hT
    split <;> simp [hT_len s L]
def tellX (s : Stack) (ino : Int) (x : Int) (q : Nat × Int) : Int := if (wI s q.1).ino = ino then q.2 else x
def xP (s : Stack) (ino : Int) : Int := (gT s (takenP s) (laterP s)).foldl (tellX s ino) 9
theorem zip_hT {s : Stack} {ino : Int} (hr : redB (nodeP s.upper ino) = true) : ∀ (L : List Nat) (T : List Place) (x : Int), (L.zip (hT s T L)).foldl (tellX s ino) x = (gT s T (L.filter (rdI s))).foldl (tellX s ino) x
  | [], T, x => rfl
  | i :: L, T, x => by
    unfold hT
    by_cases hi : rdI s i = true
    · rw [if_pos hi, List.filter_cons_of_pos hi]
      unfold gT
      simp only [List.zip_cons_cons, List.foldl_cons]
      exact zip_hT hr L _ _
    · rw [if_neg hi, List.filter_cons_of_neg hi]
      simp only [List.zip_cons_cons, List.foldl_cons]
      have : tellX s ino x (i, 0) = x := by
        unfold tellX
        rw [if_neg]
        intro e
        refine hi ?_
        unfold rdI nI
        rw [e]; exact hr
      rw [this]
      exact zip_hT hr L T x
def valM (m : List (Int × Int)) (k : Int) : Int := if mhas m k = true then mget m k else 9
theorem x6z (k v k' : Int) : ∀ m : List (Int × Int), mhas (mset m k v) k' = (decide (k' = k) || mhas m k')
  | [] => by simp [mhas, mset]; by_cases h : k' = k <;> simp [h]
  | p :: m => by
    unfold mset
    by_cases h : k = p.1
    · rw [if_pos h]
      unfold mhas
      simp only [List.any_cons]
      by_cases h2 : k' = p.1 <;> simp [h, h2]
    · rw [if_neg h]
      have ih := x6z k v k' m
      unfold mhas at ih ⊢
      simp only [List.any_cons]
      rw [ih]
      by_cases h2 : k' = p.1 <;> by_cases h3 : k' = k <;> simp [h2, h3]
theorem xf9 (m : List (Int × Int)) (k v k' : Int) : valM (mset m k v) k' = if k = k' then v else valM m k' := by
  unfold valM
  rw [x6z, xdt]
  by_cases h : k' = k
  · subst h; simp
  · have h' : ¬ k = k' := fun e => h e.symm
    simp [h, h']
def setW (s : Stack) (o : List (Int × Int)) (q : Nat × Int) : List (Int × Int) := mset o (wI s q.1).ino q.2
theorem x10 (s : Stack) (ino : Int) : ∀ (G : List (Nat × Int)) (o : List (Int × Int)), valM (G.foldl (setW s) o) ino = G.foldl (tellX s ino) (valM o ino)
  | [], o => rfl
  | q :: G, o => by
    rw [List.foldl_cons, List.foldl_cons, x10 s ino G]
    congr 1
    unfold setW tellX
    rw [xf9]
def outM (s : Stack) : List (Int × Int) := (gT s (takenP s) (laterP s)).foldl (setW s) []
theorem x2eb (s : Stack) (ino : Int) : valM (outM s) ino = xP s ino := x10 s ino _ []
structure TK (M : MapK Place) (T : List Place) (k : Nat) : Prop where
  born : BornK M
  le : ∀ p, mgetK M p ≤ k
  iff : ∀ p, ¬ p = ⟨0, 0⟩ → (0 < mgetK M p ↔ p ∈ T)
  ge : ∀ p, 0 ≤ mgetK M p
theorem TK.put {M : MapK Place} {T : List Place} {k : Nat} (h : TK M T k) (p : Place) : TK (msetK M p (mgetK M p + 1)) (T ++ [p]) (k + 1) := by
  refine ⟨h.born.set _ _, fun q => ?_, fun q hq => ?_, fun q => ?_⟩
  · rw [xoi]
    have h1 := h.le p
    have h2 := h.le q
    split <;> omega
  · rw [xoi]
    have h1 := h.ge p
    by_cases e : q = p
    · subst e
      rw [if_pos rfl]
      simp
      omega
    · rw [if_neg e, h.iff q hq]
      simp [e]
  · rw [xoi]
    have h1 := h.ge p
    have h2 := h.ge q
    split <;> omega
theorem TK.mono {M : MapK Place} {T : List Place} {k k' : Nat} (h : TK M T k) (hk : k ≤ k') : TK M T k' := ⟨h.born, fun p => by have := h.le p; omega, h.iff, h.ge⟩
theorem TK.inc {M : MapK Place} {T : List Place} {k : Nat} (h : TK M T k) (hk : k ≤ 1000) (p : Place) : mstoK (mentM M p) ((bornK M p : Nat) : Int) (wr ((mgetK M p) + 1)) = some (msetK M p (mgetK M p + 1)) := by
  have h1 := h.le p
  have h2 := h.ge p
  rw [wr_in (by omega) (by omega)]
  exact x4z h.born p _
theorem xfq (s : Stack) (M0 : MapK Place → Nat → MapK Place) : ∀ (L : List Nat) (l : List Nat) (M : MapK Place) (T : List Place),
    (L.foldl (fun (t : List Nat × MapK Place × List Place) i => if rdI s i = true then (t.1 ++ [i], t.2.1, t.2.2) else (t.1, M0 t.2.1 i, t.2.2 ++ [cmI s i])) (l, M, T)).1 = l ++ L.filter (rdI s) ∧
    (L.foldl (fun (t : List Nat × MapK Place × List Place) i => if rdI s i = true then (t.1 ++ [i], t.2.1, t.2.2) else (t.1, M0 t.2.1 i, t.2.2 ++ [cmI s i])) (l, M, T)).2.2 = T ++ (L.filter (fun i => !rdI s i)).map (cmI s)
  | [], l, M, T => by simp
  | i :: L, l, M, T => by
    rw [List.foldl_cons]
    by_cases hi : rdI s i = true
    · simp only [hi, if_true]
      obtain ⟨h1, h2⟩ := xfq s M0 L (l ++ [i]) M T
      rw [h1, h2]
      simp [hi]
    · simp only [hi, if_false]
      obtain ⟨h1, h2⟩ := xfq s M0 L l (M0 M i) (T ++ [cmI s i])
      simp only [Bool.false_eq_true, if_false]
      rw [h1, h2]
      simp [hi]
theorem xw7 {s : Stack} (h : SV s) (hb : PB s.upper) : ∃ M, iter (x2c s ((walkP s.upper [1]).2.1, treeV s)) big ([], 0, (emptyK : MapK Place)) = some (M, (laterP s).map (fun i : Nat => (i : Int))) ∧ TK M (takenP s) 24 := by
  have hwl := xoe hb (fr := [1]) (by simp)
  have hvl := xxh h hb
  have := xdc (B := x2c s ((walkP s.upper [1]).2.1, treeV s)) (fun i (t : List Nat × MapK Place × List Place) => (t.1.map (fun i : Nat => (i : Int)), (i : Int), t.2.1)) (List.range (nW s))
    (fun t i => if rdI s i = true then (t.1 ++ [i], t.2.1, t.2.2) else (t.1, msetK t.2.1 (cmI s i) (mgetK t.2.1 (cmI s i) + 1), t.2.2 ++ [cmI s i])) (fun t => (t.2.1, t.1.map (fun i : Nat => (i : Int)))) (fun i t => t.1.length ≤ i ∧ TK t.2.1 t.2.2 i) (by
    rintro i ⟨l, M, T⟩ hi ⟨t1, t2⟩
    simp only [List.length_range] at hi
    have hi' : i < (walkP s.upper [1]).2.1.length := hi
    simp only [List.getElem_range]
    dsimp only at t1 t2
    obtain ⟨w1, w2⟩ := wI_in h hb hi'
    have hn : NV (nI s i) := x8h h.up _
    simp only [x2c]
    rw [if_pos (by omega), ix_at hi', wI_at hi', xzk]
    simp only [Option.bind_some]
    rw [xqw hb _ _ w1 w2]
    simp only [Option.bind_some]
    change (((xqc (nI s i)).bind _ = _) ∧ _)
    rw [xbr hn]
    simp only [Option.bind_some]
    by_cases hr : redB (nI s i) = true
    · have hr' : rdI s i = true := hr
      rw [if_pos hr]
      simp only [hr', if_true]
      rw [ap_of (by simp; omega) (by decide), wr_suc (by omega)]
      refine ⟨?_, by simp; omega, t2.mono (by omega)⟩
      simp
    · have hr' : ¬ rdI s i = true := hr
      rw [if_neg hr, xlw s _ _ (show i < (treeV s).length by omega), vI_at (by omega)]
      simp only [hr', if_false, Option.bind_some]
      change (((mstoK (mentM M (cmI s i)) ((bornK M (cmI s i) : Nat) : Int) (wr ((mgetK M (cmI s i)) + 1))).bind _ = _) ∧ _)
      rw [t2.inc (by omega), wr_suc (by omega)]
      refine ⟨?_, by simp; omega, t2.put _⟩
      simp) (by
    rintro ⟨l, M, T⟩ ⟨t1, t2⟩
    simp only [x2c, List.length_range]
    rw [if_neg (by unfold nW; omega)]) (s0 := ([], emptyK, [])) ⟨by simp, BornK.empty, fun p => by simp [xap], fun p hp => by simp [xap], fun p => by simp [xap]⟩ (fuel := big) (by rw [big_eq]; simp [nW]; omega)
  obtain ⟨h1, h2, h3⟩ := this
  obtain ⟨g1, g2⟩ := xfq s (fun M i => msetK M (cmI s i) (mgetK M (cmI s i) + 1)) (List.range (nW s)) [] emptyK []
  simp only [List.length_range] at h2 h3
  have e0 : ((0 : Nat) : Int) = 0 := rfl
  simp only [List.map_nil, e0] at h1
  rw [g1] at h1
  rw [g2] at h3
  exact ⟨_, h1, by simpa [takenP] using h3.mono (show nW s ≤ 24 from hwl)⟩
end Go.Proofs.YtfkgckbdknpcnaaGreatDoor.AL

/- Plain laws of chapter 21: findings, on. -/
set_option linter.all false
namespace Go.Proofs.YtfkgckbdknpcnaaGreatDoor.AL
open Go Go.Proofs
def nxM (s : Stack) (M : MapK Place) (i : Nat) : MapK Place := if clP s i = 0 then (if cmI s i = ⟨0, 0⟩ then M else if 0 < mgetK M (cmI s i) then M else msetK M (cmI s i) (mgetK M (cmI s i) + 1)) else M
structure TKd (M : MapK Place) (T : List Place) (k : Nat) : Prop where
  born : BornK M
  le : ∀ p, ¬ p = ⟨0, 0⟩ → mgetK M p ≤ k
  iff : ∀ p, ¬ p = ⟨0, 0⟩ → (0 < mgetK M p ↔ p ∈ T)
  ge : ∀ p, ¬ p = ⟨0, 0⟩ → 0 ≤ mgetK M p
theorem TKd.of {M : MapK Place} {T : List Place} {k : Nat} (h : TK M T k) : TKd (mdelK M ⟨0, 0⟩) T k :=
  ⟨h.born.del _, fun p hp => by rw [x4o M hp]; exact h.le p, fun p hp => by rw [x4o M hp]; exact h.iff p hp, fun p hp => by rw [x4o M hp]; exact h.ge p⟩
theorem TKd.mono {M : MapK Place} {T : List Place} {k k' : Nat} (h : TKd M T k) (hk : k ≤ k') : TKd M T k' := ⟨h.born, fun p hp => by have := h.le p hp; omega, h.iff, h.ge⟩
theorem TKd.put0 {M : MapK Place} {T : List Place} {k : Nat} (h : TKd M T k) : TKd M (T ++ [⟨0, 0⟩]) k :=
  ⟨h.born, h.le, fun q hq => by rw [h.iff q hq]; simp [hq], h.ge⟩
theorem TKd.put {M : MapK Place} {T : List Place} {k : Nat} (h : TKd M T k) {p : Place} (hp : ¬ p = ⟨0, 0⟩) : TKd (msetK M p (mgetK M p + 1)) (T ++ [p]) (k + 1) := by
  have h0 := h.ge p hp
  have h1 := h.le p hp
  refine ⟨h.born.set _ _, fun q hq => ?_, fun q hq => ?_, fun q hq => ?_⟩
  · rw [xoi]
    have h2 := h.le q hq
    split <;> omega
  · rw [xoi]
    by_cases e : q = p
    · subst e
      rw [if_pos rfl]
      simp
      omega
    · rw [if_neg e, h.iff q hq]
      simp [e]
  · rw [xoi]
    have h2 := h.ge q hq
    split <;> omega
theorem TKd.inc {M : MapK Place} {T : List Place} {k : Nat} (h : TKd M T k) (hk : k ≤ 1000) {p : Place} (hp : ¬ p = ⟨0, 0⟩) : mstoK (mentM M p) ((bornK M p : Nat) : Int) (wr ((mgetK M p) + 1)) = some (msetK M p (mgetK M p + 1)) := by
  have h1 := h.le p hp
  have h2 := h.ge p hp
  rw [wr_in (by omega) (by omega)]
  exact x4z h.born p _
theorem TKd.nx {s : Stack} {M : MapK Place} {T : List Place} {k : Nat} (h : TKd M T k) (i : Nat) : TKd (nxM s M i) (nxT s T i) (k + 1) := by
  unfold nxM nxT
  by_cases h1 : clP s i = 0
  · rw [if_pos h1]
    by_cases h2 : cmI s i = ⟨0, 0⟩
    · rw [if_pos h2, if_pos ⟨h1, .inl h2⟩, h2]
      exact h.put0.mono (by omega)
    · rw [if_neg h2]
      by_cases h3 : 0 < mgetK M (cmI s i)
      · rw [if_pos h3, if_neg (fun c => by
          rcases c.2 with c | c
          · exact h2 c
          · exact c ((h.iff _ h2).1 h3))]
        exact h.mono (by omega)
      · rw [if_neg h3, if_pos ⟨h1, .inr (fun c => h3 ((h.iff _ h2).2 c))⟩]
        exact h.put h2
  · rw [if_neg h1, if_neg (fun c => h1 c.1)]
    exact h.mono (by omega)
theorem xk4 (s : Stack) : ∀ (L : List Nat) (o : List (Int × Int)) (M : MapK Place) (T : List Place),
    (L.foldl (fun (t : List (Int × Int) × MapK Place × List Place) i => (mset t.1 (wI s i).ino (clT s t.2.2 i), nxM s t.2.1 i, nxT s t.2.2 i)) (o, M, T)).1 = (gT s T L).foldl (setW s) o
  | [], o, M, T => rfl
  | i :: L, o, M, T => by
    rw [List.foldl_cons]
    unfold gT
    rw [List.foldl_cons]
    exact xk4 s L _ _ _
theorem x88 {s : Stack} {i : Nat} (h : i ∈ laterP s) : i < nW s ∧ rdI s i = true := by
  unfold laterP at h
  rw [List.mem_filter, List.mem_range] at h
  exact h
theorem xjab (s : Stack) : (laterP s).length ≤ nW s := by
  unfold laterP
  exact Nat.le_trans (List.length_filter_le _ _) (by simp)
theorem xxdb {s : Stack} (h : SV s) (hb : PB s.upper) {M : MapK Place} (hM : TK M (takenP s) 24) :
    iter (x3c s ((walkP s.upper [1]).2.1, treeV s) ((laterP s).map (fun i : Nat => (i : Int)))) big (0, ([] : List (Int × Int)), (mdelK M (⟨0, 0⟩ : Place))) = some (outM s) := by
  have hwl := xoe hb (fr := [1]) (by simp)
  have hvl := xxh h hb
  have hll := xjab s
  have hnw : nW s = (walkP s.upper [1]).2.1.length := rfl
  -- what is told of the map, but for the place of nothing
  have := xdc (B := x3c s ((walkP s.upper [1]).2.1, treeV s) ((laterP s).map (fun i : Nat => (i : Int)))) (fun i (t : List (Int × Int) × MapK Place × List Place) => ((i : Int), t.1, t.2.1)) (laterP s)
    (fun t i => (mset t.1 (wI s i).ino (clT s t.2.2 i), nxM s t.2.1 i, nxT s t.2.2 i)) (fun t => t.1) (fun i t => TKd t.2.1 t.2.2 (24 + i)) (by
    rintro k ⟨o, M, T⟩ hk t
    dsimp only at t
    have hk' : k < ((laterP s).map (fun i : Nat => (i : Int))).length := by simpa using hk
    obtain ⟨hi, hr⟩ := x88 (List.getElem_mem hk)
    have hi' : (laterP s)[k] < (walkP s.upper [1]).2.1.length := hi
    simp only [x3c]
    rw [if_pos (by simp; omega), ix_at hk']
    simp only [List.getElem_map, Option.bind_some, xzk]
    generalize (laterP s)[k] = i at hi hr hi'
    rw [xf5 h hb hi']
    simp only [Option.bind_some]
    rw [xlw s _ _ (show i < (treeV s).length by omega), vI_at (by omega)]
    simp only [Option.bind_some]
    rw [ix_at hi', wI_at hi', wr_suc (by omega)]
    simp only [Option.bind_some]
    have hnx := t.nx (s := s) i
    refine ⟨?_, hnx.mono (by omega)⟩
    change (if clP s i = 0 then (if (decide (cmI s i = (⟨0, 0⟩ : Place))) = true then _ else if 0 < (mgetK M (cmI s i)) then _ else ((mstoK (mentM M (cmI s i)) ((bornK M (cmI s i) : Nat) : Int) (wr ((mgetK M (cmI s i)) + 1))).bind _)) else _) = _
    unfold nxM clT
    by_cases h1 : clP s i = 0
    · rw [if_pos h1, if_pos h1, if_pos h1]
      by_cases h2 : cmI s i = ⟨0, 0⟩
      · rw [if_pos (by simpa using h2), if_pos h2, if_pos h2, h1]
      · rw [if_neg (by simpa using h2), if_neg h2, if_neg h2]
        by_cases h3 : 0 < mgetK M (cmI s i)
        · rw [if_pos h3, if_pos h3, if_pos ((t.iff _ h2).1 h3)]
        · rw [if_neg h3, if_neg h3, if_neg (fun c => h3 ((t.iff _ h2).2 c)), t.inc (by omega) h2, h1]
          rfl
    · rw [if_neg h1, if_neg h1, if_neg h1]) (by
    rintro ⟨o, M, T⟩ t
    simp only [x3c]
    rw [if_neg (by simp)]) (s0 := ([], mdelK M ⟨0, 0⟩, takenP s)) (TKd.of hM) (fuel := big) (by rw [big_eq]; omega)
  have e0 : ((0 : Nat) : Int) = 0 := rfl
  rw [e0] at this
  rw [this.1, xk4]
  rfl
end Go.Proofs.YtfkgckbdknpcnaaGreatDoor.AL

/- Plain laws of chapter 21: findings, on. -/
set_option linter.all false
namespace Go.Proofs.YtfkgckbdknpcnaaGreatDoor.AL
open Go Go.Proofs
theorem in_eq {l : List Place} (hl : l.length ≤ 1000000) (p : Place) : xll l p = some (decide (p ∈ l)) := by
  unfold xll
  obtain ⟨r, h1, h2⟩ := x3f (B := xmk l p) (R := fun r => (r = .inl () ∧ p ∉ l) ∨ (r = .inr true ∧ p ∈ l)) (fun i t => t = (i : Int) ∧ i ≤ l.length ∧ ∀ q (h : q < l.length), q < i → ¬ l[q] = p) l.length (by
    rintro i t ⟨rfl, hi, hq⟩
    refine ⟨hi, ?_⟩
    simp only [xmk]
    by_cases hlt : i < l.length
    · rw [if_pos (by omega), ix_at hlt]
      simp only [Option.bind_some]
      by_cases he : l[i] = p
      · rw [if_pos (by simpa using he)]
        exact .inr ⟨_, rfl, .inr ⟨rfl, by rw [← he]; exact List.getElem_mem hlt⟩⟩
      · rw [if_neg (by simpa using he), wr_suc (by omega)]
        refine .inl ⟨_, rfl, rfl, by omega, fun q h hqi => ?_⟩
        by_cases e : q = i
        · subst e; exact he
        · exact hq q h (by omega)
    · rw [if_neg (by omega)]
      refine .inr ⟨_, rfl, .inl ⟨rfl, fun hm => ?_⟩⟩
      obtain ⟨q, hql, rfl⟩ := List.getElem_of_mem hm
      exact hq q hql (by omega) rfl) big 0 0 ⟨rfl, by omega, fun q h hq => by omega⟩ (by rw [big_eq]; omega)
  rw [h1]
  simp only [Option.bind_some]
  rcases h2 with ⟨rfl, h2⟩ | ⟨rfl, h2⟩ <;> simp [h2]
theorem xsv (s : Stack) : ∀ (L : List Nat) (T : List Place), L.foldl (fun T i => if rdI s i = true then T else T ++ [cmI s i]) T = T ++ (L.filter (fun i => !rdI s i)).map (cmI s)
  | [], T => by simp
  | i :: L, T => by
    rw [List.foldl_cons, xsv s L]
    by_cases hi : rdI s i = true <;> simp [hi]
theorem xiy (s : Stack) : ∀ (L : List Nat) (T : List Place) (o : List Int), (L.foldl (fun (t : List Place × List Int) i => if rdI s i = true then (nxT s t.1 i, t.2 ++ [clT s t.1 i]) else (t.1, t.2 ++ [0])) (T, o)).2 = o ++ hT s T L
  | [], T, o => by simp [hT]
  | i :: L, T, o => by
    rw [List.foldl_cons]
    unfold hT
    by_cases hi : rdI s i = true
    · simp only [hi, if_true]
      rw [xiy s L]
      simp
    · simp only [hi, if_false, Bool.false_eq_true]
      rw [xiy s L]
      simp
theorem cm_at {s : Stack} (h : SV s) (hb : PB s.upper) {i : Nat} (hi : i < nW s) : ix ((treeV s).map claimP) (i : Int) = some (cmI s i) := by
  have hvl := xxh h hb
  have hi' : i < (treeV s).length := by rw [hvl]; exact hi
  rw [ix_at (by simpa using hi'), List.getElem_map, vI_at hi']
  rfl
theorem xc6 {s : Stack} (h : SV s) (hb : PB s.upper) : iter (x3d s ((walkP s.upper [1]).2.1, treeV s) ((treeV s).map claimP)) big (([] : List Place), 0) = some (takenP s) ∧ (takenP s).length ≤ nW s := by
  have hwl := xoe hb (fr := [1]) (by simp)
  have hnw : nW s = (walkP s.upper [1]).2.1.length := rfl
  have := xdc (B := x3d s ((walkP s.upper [1]).2.1, treeV s) ((treeV s).map claimP)) (fun i t => (t, (i : Int))) (List.range (nW s)) (fun T i => if rdI s i = true then T else T ++ [cmI s i]) (fun t => t) (fun i t => t.length ≤ i) (by
    intro i T hi t
    simp only [List.length_range] at hi
    have hi' : i < (walkP s.upper [1]).2.1.length := hi
    simp only [List.getElem_range]
    simp only [x3d]
    rw [if_pos (by omega), ix_at hi', wI_at hi']
    simp only [Option.bind_some]
    rw [x9l h hb, cm_at h hb hi, wr_suc (by omega)]
    simp only [Option.bind_some]
    change ((if (!rdI s i) = true then _ else _) = _ ∧ _)
    by_cases hr : rdI s i = true
    · rw [if_neg (by simp [hr]), if_pos hr]
      exact ⟨rfl, by omega⟩
    · rw [if_pos (by simpa using hr), if_neg hr, ap_of (by simp; omega) (by decide)]
      exact ⟨rfl, by simp; omega⟩) (by
    intro d t
    simp only [x3d, List.length_range]
    rw [if_neg (by omega)]) (s0 := []) (by simp) (fuel := big) (by rw [big_eq]; simp; omega)
  obtain ⟨h1, h2⟩ := this
  rw [xsv] at h1 h2
  simp only [List.nil_append, List.length_range] at h1 h2
  exact ⟨h1, h2⟩
theorem xcgb (s : Stack) (T : List Place) (i : Nat) : (nxT s T i).length ≤ T.length + 1 := by
  unfold nxT; split <;> simp
theorem xx1 {s : Stack} (h : SV s) (hb : PB s.upper) : xug s = some (hT s (takenP s) (List.range (nW s))) := by
  unfold xug
  have hwl := xoe hb (fr := [1]) (by simp)
  have hnw : nW s = (walkP s.upper [1]).2.1.length := rfl
  obtain ⟨ht, htl⟩ := xc6 h hb
  rw [xmw h hb]
  simp only [Option.bind_some]
  rw [xiu h hb]
  simp only [Option.bind_some]
  rw [ht]
  simp only [Option.bind_some]
  have := xdc (B := x7e s ((walkP s.upper [1]).2.1, treeV s) ((treeV s).map claimP)) (fun i (t : List Place × List Int) => (t.1, t.2, (i : Int))) (List.range (nW s)) (fun t i => if rdI s i = true then (nxT s t.1 i, t.2 ++ [clT s t.1 i]) else (t.1, t.2 ++ [0])) (fun t => t.2) (fun i t => t.1.length ≤ 24 + i ∧ t.2.length = i) (by
    rintro i ⟨T, o⟩ hi ⟨t1, t2⟩
    dsimp only at t1 t2
    simp only [List.length_range] at hi
    have hi' : i < (walkP s.upper [1]).2.1.length := hi
    simp only [List.getElem_range]
    simp only [x7e]
    rw [if_pos (by omega), ix_at hi', wI_at hi']
    simp only [Option.bind_some]
    rw [x9l h hb, cm_at h hb hi, wr_suc (by omega)]
    simp only [Option.bind_some]
    have hx := xcgb s T i
    change ((if rdI s i = true then _ else _) = _ ∧ _)
    by_cases hr : rdI s i = true
    · simp only [hr, if_true]
      rw [xc4 h hb hi']
      simp only [Option.bind_some]
      refine ⟨?_, by omega, by simp; omega⟩
      unfold nxT clT
      by_cases h1 : clP s i = 0
      · rw [if_pos h1, if_pos h1]
        by_cases h2 : cmI s i = ⟨0, 0⟩
        · rw [if_pos (by simpa using h2), if_pos ⟨h1, .inl h2⟩, if_pos h2, ap_of (by simp; omega) (by decide), ap_of (by simp; omega) (by decide), h1]
          rfl
        · rw [if_neg (by simpa using h2), if_neg h2, in_eq (by omega)]
          simp only [Option.bind_some]
          by_cases h3 : cmI s i ∈ T
          · rw [if_pos (by simpa using h3), if_pos h3, if_neg (fun c => by
              rcases c.2 with c | c
              · exact h2 c
              · exact c h3), ap_of (by simp; omega) (by decide)]
            rfl
          · rw [if_neg (by simpa using h3), if_neg h3, if_pos ⟨h1, .inr h3⟩, ap_of (by simp; omega) (by decide), ap_of (by simp; omega) (by decide), h1]
            rfl
      · rw [if_neg h1, if_neg h1, if_neg (fun c => h1 c.1), ap_of (by simp; omega) (by decide)]
        rfl
    · simp only [hr, if_false, Bool.false_eq_true]
      rw [ap_of (by simp; omega) (by decide)]
      exact ⟨rfl, by omega, by simp; omega⟩) (by
    rintro ⟨T, o⟩ t
    simp only [x7e, List.length_range]
    rw [if_neg (by omega)]) (s0 := (takenP s, [])) ⟨by simp only; omega, rfl⟩ (fuel := big) (by rw [big_eq]; simp; omega)
  have e0 : ((0 : Nat) : Int) = 0 := rfl
  simp only [e0] at this
  rw [this.1, xiy]
  rfl
def fdP (s : Stack) (j : Nat) : List Finding := if ((reachP s.upper [1])[j]?).getD false = true ∧ redB (nodeP s.upper ((j : Int) + 1)) = true ∧ ¬ xP s ((j : Int) + 1) = 0 then [⟨xP s ((j : Int) + 1), 0, (j : Int) + 1, -1⟩] else []
def findP (s : Stack) : List Finding := (List.range s.upper.nodes.length).flatMap (fdP s)
theorem xts (s : Stack) : ∀ (L : List Nat) (d : List Finding), L.foldl (fun d j => d ++ fdP s j) d = d ++ L.flatMap (fdP s)
  | [], d => by simp
  | j :: L, d => by rw [List.foldl_cons, xts s L]; simp
theorem xpy (s : Stack) (j : Nat) : (fdP s j).length ≤ 1 := by unfold fdP; split <;> simp
theorem xx2 (s : Stack) {j : Nat} (hj : j < s.upper.nodes.length) : ix (reachP s.upper [1]) (j : Int) = some (((reachP s.upper [1])[j]?).getD false) := by
  have hl := x2p s.upper [1]
  rw [ix_at (by omega), List.getElem?_eq_getElem (by omega)]
  rfl
theorem xqdb (s : Stack) (ino : Int) : xP s ino = if mhas (outM s) ino = true then mget (outM s) ino else 9 := (x2eb s ino).symm
theorem xar {s : Stack} (h : SV s) (hb : PB s.upper) : xod s = some (findP s) := by
  unfold xod
  have hn := hb.len
  have hrl := x2p s.upper [1]
  obtain ⟨M, hM1, hM2⟩ := xw7 h hb
  rw [(xmy h hb).1]
  simp only [Option.bind_some]
  rw [hM1]
  simp only [Option.bind_some]
  rw [xxdb h hb hM2]
  simp only [Option.bind_some]
  rw [x54 hb (by simp)]
  simp only [Option.bind_some]
  have := xdc (B := xsd s ((walkP s.upper [1]).2.1, treeV s) (outM s) (reachP s.upper [1])) (fun i d => (d, (i : Int))) (List.range s.upper.nodes.length) (fun d j => d ++ fdP s j) (fun d => d) (fun i d => d.length ≤ i) (by
    intro i d hi t
    simp only [List.length_range] at hi
    simp only [List.getElem_range]
    have hfl := xpy s i
    refine ⟨?_, by simp; omega⟩
    simp only [xsd]
    rw [if_pos (by omega), xx2 s hi, xzk, wr_suc (by omega)]
    simp only [Option.bind_some]
    have e1 : ((i + 1 : Nat) : Int) = (i : Int) + 1 := by omega
    rw [e1]
    unfold fdP
    by_cases h1 : ((reachP s.upper [1])[i]?).getD false = true
    · rw [if_neg (by simp [h1]), xqw hb _ _ (by omega) (by omega)]
      simp only [Option.bind_some]
      rw [xbr (x8h h.up _)]
      simp only [Option.bind_some]
      by_cases h2 : redB (nodeP s.upper ((i : Int) + 1)) = true
      · rw [if_neg (by simp [h2])]
        have hv := xqdb s ((i : Int) + 1)
        by_cases h3 : mhas (outM s) ((i : Int) + 1) = true
        · rw [if_pos h3] at hv
          rw [if_neg (by simp [h3])]
          by_cases h4 : mget (outM s) ((i : Int) + 1) = 0
          · rw [if_pos h4, if_neg (fun c => c.2.2 (by rw [hv]; exact h4))]
            simp
          · rw [if_neg h4, if_pos ⟨h1, h2, by rw [hv]; exact h4⟩, ap_of (by simp; omega) (by decide), hv]
            rfl
        · rw [if_neg h3] at hv
          rw [if_pos (by simpa using h3), if_pos ⟨h1, h2, by rw [hv]; decide⟩, ap_of (by simp; omega) (by decide), hv]
          rfl
      · rw [if_pos (by simpa using h2), if_neg (fun c => h2 c.2.1)]
        simp
    · rw [if_pos (by simpa using h1), if_neg (fun c => h1 c.1)]
      simp) (by
    intro d t
    simp only [xsd, List.length_range]
    rw [if_neg (by omega)]) (s0 := []) (by simp) (fuel := big) (by rw [big_eq]; simp; omega)
  have e0 : ((0 : Nat) : Int) = 0 := rfl
  rw [e0] at this
  rw [this.1, xts]
  rfl
theorem xs7 {s : Stack} (h : SV s) (hb : PB s.upper) {ino : Int} (hr : redB (nodeP s.upper ino) = true) :
    iter (xnd ((walkP s.upper [1]).2.1, treeV s) (hT s (takenP s) (List.range (nW s))) ino) big (9, 0) = some (xP s ino) := by
  have hwl := xoe hb (fr := [1]) (by simp)
  have hnw : nW s = (walkP s.upper [1]).2.1.length := rfl
  have hhl := hT_len s (List.range (nW s)) (takenP s)
  simp only [List.length_range] at hhl
  have hz := zip_hT hr (List.range (nW s)) (takenP s) 9
  generalize hT s (takenP s) (List.range (nW s)) = O at hhl hz ⊢
  have := xdc (B := xnd ((walkP s.upper [1]).2.1, treeV s) O ino) (fun i x => (x, (i : Int))) ((List.range (nW s)).zip O) (tellX s ino) (fun x => x) (fun i x => True) (by
    intro i x hi _
    simp only [List.length_zip, List.length_range] at hi
    have hi' : i < (walkP s.upper [1]).2.1.length := by omega
    refine ⟨?_, trivial⟩
    simp only [List.getElem_zip, List.getElem_range]
    simp only [xnd]
    rw [if_pos (by omega), ix_at hi', wI_at hi', ix_at (show i < O.length by omega), wr_suc (by omega)]
    simp only [Option.bind_some]
    unfold tellX
    by_cases he : (wI s i).ino = ino
    · rw [if_pos he, if_pos he]
    · rw [if_neg he, if_neg he]) (by
    intro x _
    simp only [xnd, List.length_zip, List.length_range]
    rw [if_neg (by omega)]) (s0 := 9) trivial (fuel := big) (by rw [big_eq]; simp; omega)
  have e0 : ((0 : Nat) : Int) = 0 := rfl
  rw [e0] at this
  rw [this.1, hz]
  rfl
theorem xxy {s : Stack} (h : SV s) (hb : PB s.upper) : xog s = some (findP s) := by
  unfold xog
  have hn := hb.len
  have hrl := x2p s.upper [1]
  rw [xmw h hb]
  simp only [Option.bind_some]
  rw [xx1 h hb]
  simp only [Option.bind_some]
  rw [x95 hb (by simp)]
  simp only [Option.bind_some]
  have := xdc (B := xpe s ((walkP s.upper [1]).2.1, treeV s) (hT s (takenP s) (List.range (nW s))) (reachP s.upper [1])) (fun i d => (d, ((i + 1 : Nat) : Int))) (List.range s.upper.nodes.length) (fun d j => d ++ fdP s j) (fun d => d) (fun i d => d.length ≤ i) (by
    intro i d hi t
    simp only [List.length_range] at hi
    simp only [List.getElem_range]
    have hfl := xpy s i
    refine ⟨?_, by simp; omega⟩
    simp only [xpe]
    have e2 : wr (((i + 1 : Nat) : Int) - 1) = (i : Int) := by rw [wr_in (by omega) (by omega)]; omega
    rw [if_pos (by omega), e2, xx2 s hi, wr_suc (by omega)]
    simp only [Option.bind_some]
    rw [x9l h hb]
    simp only [Option.bind_some]
    have e1 : ((i + 1 : Nat) : Int) = (i : Int) + 1 := by omega
    rw [e1]
    unfold fdP
    by_cases h1 : ((reachP s.upper [1])[i]?).getD false = true
    · rw [if_neg (by simp [h1])]
      by_cases h2 : redB (nodeP s.upper ((i : Int) + 1)) = true
      · rw [if_neg (by simp [h2]), xs7 h hb h2]
        simp only [Option.bind_some]
        by_cases h4 : xP s ((i : Int) + 1) = 0
        · rw [if_pos h4, if_neg (fun c => c.2.2 h4)]
          simp
        · rw [if_neg h4, if_pos ⟨h1, h2, h4⟩, ap_of (by simp; omega) (by decide)]
          rfl
      · rw [if_pos (by simpa using h2), if_neg (fun c => h2 c.2.1)]
        simp
    · rw [if_pos (by simpa using h1), if_neg (fun c => h1 c.1)]
      simp) (by
    intro d t
    simp only [xpe, List.length_range]
    rw [if_neg (by omega)]) (s0 := []) (by simp) (fuel := big) (by rw [big_eq]; simp; omega)
  have e0 : ((0 + 1 : Nat) : Int) = 1 := rfl
  rw [e0] at this
  rw [this.1, xts]
  rfl
theorem xuab {s : Stack} (hb : PB s.upper) : (findP s).length ≤ 24 := by
  unfold findP
  have key : ∀ L : List Nat, (L.flatMap (fdP s)).length ≤ L.length := by
    intro L
    induction L with
    | nil => simp
    | cons j L ih =>
      have := xpy s j
      simp only [List.flatMap_cons, List.length_append, List.length_cons]
      omega
  have := key (List.range s.upper.nodes.length)
  have hn := hb.len
  simp at this
  simp
  omega
end Go.Proofs.YtfkgckbdknpcnaaGreatDoor.AL

/- Plain laws: places compared. -/
set_option linter.all false
namespace Go.Proofs.YtfkgckbdknpcnaaGreatDoor.AL
open Go Go.Proofs
theorem xav {a b : List Place} (h : a.length ≤ 1000000000) : xyb a b = some (decide (a = b)) := by
  unfold xyb
  by_cases hl : a.length = b.length
  · rw [if_pos (by omega), eqLoop hl h]
    · by_cases he : a = b <;> simp [he]
    · intro i h1 h2
      simp only [xfc]
      rw [if_pos (by omega), ix_at h1, ix_at h2]
      simp only [Option.bind_some, decide_eq_true_eq]
      rw [wr_suc (by omega)]
    · simp only [xfc]
      rw [if_neg (by omega)]
  · rw [if_neg (by omega)]
    have : ¬ a = b := by rintro rfl; exact hl rfl
    simp [this]
end Go.Proofs.YtfkgckbdknpcnaaGreatDoor.AL

/- Plain laws: findings compared. -/
set_option linter.all false
namespace Go.Proofs.YtfkgckbdknpcnaaGreatDoor.AL
open Go Go.Proofs
theorem x3q {a b : List Finding} (h : a.length ≤ 1000000000) : xpb a b = some (decide (a = b)) := by
  unfold xpb
  by_cases hl : a.length = b.length
  · rw [if_pos (by omega), eqLoop hl h]
    · by_cases he : a = b <;> simp [he]
    · intro i h1 h2
      simp only [x6b]
      rw [if_pos (by omega), ix_at h1, ix_at h2]
      simp only [Option.bind_some, decide_eq_true_eq]
      rw [wr_suc (by omega)]
    · simp only [x6b]
      rw [if_neg (by omega)]
  · rw [if_neg (by omega)]
    have : ¬ a = b := by rintro rfl; exact hl rfl
    simp [this]
end Go.Proofs.YtfkgckbdknpcnaaGreatDoor.AL

