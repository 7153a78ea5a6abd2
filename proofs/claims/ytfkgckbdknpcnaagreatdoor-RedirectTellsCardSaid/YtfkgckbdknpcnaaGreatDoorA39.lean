/- A law of the given program is proved: part 39 of 51. -/
import Derived.Test.YtfkgckbdknpcnaaGreatDoorA38
set_option linter.all false
/- Models of functions, and that the functions are as their models: written by gen.py. -/
set_option linter.all false
set_option maxRecDepth 100000
namespace Go.Proofs.YtfkgckbdknpcnaaGreatDoor.AL
open Go Go.Proofs
def xle (a0 : Stack) (a1 : Place) : Option (Node) := if a1.layer < 1 then some (⟨0, 0, 0, 0, [], [], (⟨0, 0, xk, (⟨0, 0, 0⟩ : Origin), 0⟩ : Attr)⟩ : Node)
 else if (a0.lowers.length : Int) < a1.layer then some (⟨0, 0, 0, 0, [], [], (⟨0, 0, xk, (⟨0, 0, 0⟩ : Origin), 0⟩ : Attr)⟩ : Node)
 else (ix a0.lowers (wr (a1.layer - 1))).bind fun v5 => (xwc v5 a1.ino).bind fun v8 => some v8
def xkk := aI (aI (aI (@EV) (aI (@R3) (@R26))) (aI (aI (@R27) (@R29)) (aI (@R41) (@R68)))) (aI (aI (@DBranch) (aI (@DStack) (@DPlace))) (aI (aI (@DAttr) (@DNode)) (aI (@DEntry) (@mixed))))
set_option maxHeartbeats 2000000 in
theorem xvj (a0 : Stack) (a1 : Place) (r : Node) (hm0 : xle a0 a1 = some r) : Ok Tryz.prog 92 [xl a0, xc a1] (xf r) := by
 unfold xle at hm0
 refine okG xgz ?_
 unfold x9q
 rcases iteE hm0 with ⟨e2, hm0⟩ | ⟨e2, hm0⟩
 · obtain rfl := Option.some.inj hm0
   simp only [e2, xkk, ↓EVd, isCall, sevalprocAttr]
   all_goals first | done | rfl | exact xd (by simp only [CLO]) | exact xn (by simp only [CLO]) (Sub.agg (Subs.cons (Sub.refl _) (Subs.cons (Sub.refl _) (Subs.cons (Sub.refl _) (Subs.cons (Sub.refl _) (Subs.cons (Sub.nilS _) (Subs.cons (Sub.nilS _) (Subs.cons (Sub.refl _) (Subs.cons (Sub.refl _) (Subs.cons (Sub.refl _) (Subs.cons (Sub.refl _) (Subs.cons (Sub.refl _) (Subs.cons (Sub.refl _) (Subs.cons (Sub.refl _) (Subs.nil)))))))))))))))
 rcases iteE hm0 with ⟨e4, hm0⟩ | ⟨e4, hm0⟩
 · obtain rfl := Option.some.inj hm0
   simp only [e2, e4, xkk, ↓EVd, isCall, sevalprocAttr]
   all_goals first | done | rfl | exact xd (by simp only [CLO]) | exact xn (by simp only [CLO]) (Sub.agg (Subs.cons (Sub.refl _) (Subs.cons (Sub.refl _) (Subs.cons (Sub.refl _) (Subs.cons (Sub.refl _) (Subs.cons (Sub.nilS _) (Subs.cons (Sub.nilS _) (Subs.cons (Sub.refl _) (Subs.cons (Sub.refl _) (Subs.cons (Sub.refl _) (Subs.cons (Sub.refl _) (Subs.cons (Sub.refl _) (Subs.cons (Sub.refl _) (Subs.cons (Sub.refl _) (Subs.nil)))))))))))))))
 obtain ⟨v5, e7, hm0⟩ := ixE xi hm0
 obtain ⟨v8, h9, hm0⟩ := bsE hm0
 simp only [e2, e4, e7, xkk, ↓EVd, isCall, sevalprocAttr]
 refine qd (x4e _ _ _ h9) rfl ?_
 obtain rfl := Option.some.inj hm0
 simp only [e2, e4, e7, xkk, ↓EVd, isCall, sevalprocAttr]
 all_goals first | done | rfl | exact xd (by simp only [CLO])
def xfk (a0 : Int) (a1 : Int) : Option (Bool) := (ck (¬ a1 = 0)).bind fun _ => if ((wr (a0.tdiv a1)).tmod 2) = 1 then some true
 else some false
def xvv := aI (@EV) (@R3)
set_option maxHeartbeats 2000000 in
theorem xs2 (a0 : Int) (a1 : Int) (r : Bool) (hm0 : xfk a0 a1 = some r) : Ok Tryz.prog 75 [int a0, int a1] (bool r) := by
 unfold xfk at hm0
 refine okG xm4 ?_
 unfold xpv
 obtain ⟨e2, hm0⟩ := ckE hm0
 have e3 : ((2 : Int) = 0) = False := by decide
 rcases iteE hm0 with ⟨e5, hm0⟩ | ⟨e5, hm0⟩
 · obtain rfl := Option.some.inj hm0
   simp only [e2, e3, e5, xvv, ↓EVd, isCall, sevalprocAttr]
   all_goals first | done | rfl
 obtain rfl := Option.some.inj hm0
 simp only [e2, e3, e5, xvv, ↓EVd, isCall, sevalprocAttr]
 all_goals first | done | rfl
def x0f (a0 : Attr) (a1 : Int) : Option (Bool) := if 0 ≤ a0.has then (xfk a0.has a1).bind fun v3 => some v3
 else some false
def x5o := aI (aI (@EV) (@R3)) (aI (@R66) (@DAttr))
set_option maxHeartbeats 2000000 in
theorem xpn (a0 : Attr) (a1 : Int) (r : Bool) (hm0 : x0f a0 a1 = some r) : Ok Tryz.prog 50 [xpi a0, int a1] (bool r) := by
 unfold x0f at hm0
 refine okG xr4 ?_
 unfold xjv
 rcases iteE hm0 with ⟨e2, hm0⟩ | ⟨e2, hm0⟩
 · obtain ⟨v3, h4, hm0⟩ := bsE hm0
   simp only [e2, x5o, ↓EVd, isCall, sevalprocAttr]
   refine qc (xs2 _ _ _ h4) rfl ?_
   obtain rfl := Option.some.inj hm0
   simp only [e2, x5o, ↓EVd, isCall, sevalprocAttr]
   all_goals first | done | rfl
 obtain rfl := Option.some.inj hm0
 simp only [e2, x5o, ↓EVd, isCall, sevalprocAttr]
 all_goals first | done | rfl
def x2d (a0 : Node) : Option (Bool) := (x0f a0.attr 1).bind fun v1 => if v1 = true then if a0.attr.opaque0 = 121 then some true
 else some false
 else some false
def xlj := aI (aI (@EV) (aI (@R3) (@R66))) (aI (aI (@R68) (@DAttr)) (aI (@DNode) (@DEntry)))
set_option maxHeartbeats 2000000 in
theorem xjl (a0 : Node) (r : Bool) (hm0 : x2d a0 = some r) : Ok Tryz.prog 93 [xf a0] (bool r) := by
 unfold x2d at hm0
 refine okG xvx ?_
 unfold xfp
 obtain ⟨v1, h2, hm0⟩ := bsE hm0
 simp only [xlj, ↓EVd, isCall, sevalprocAttr]
 refine qc (xpn _ _ _ h2) rfl ?_
 rcases itbE hm0 with ⟨e4, hm0⟩ | ⟨e4, hm0⟩
 · rcases iteE hm0 with ⟨e6, hm0⟩ | ⟨e6, hm0⟩
   · obtain rfl := Option.some.inj hm0
     simp only [e4, e6, xlj, ↓EVd, isCall, sevalprocAttr]
     all_goals first | done | rfl
   obtain rfl := Option.some.inj hm0
   simp only [e4, e6, xlj, ↓EVd, isCall, sevalprocAttr]
   all_goals first | done | rfl
 obtain rfl := Option.some.inj hm0
 simp only [e4, xlj, ↓EVd, isCall, sevalprocAttr]
 all_goals first | done | rfl
def x4h (a0 : Stack) (a1 : Place) (a2 : ByteArray) (v1 : Node) : Int → Option (St (Int) ((Unit) ⊕ (Place × Bool)))
 | v6 => if v6 < (v1.entries.length : Int) then (ix v1.entries v6).bind fun v10 => if v10.name = a2 then (xle a0 (⟨a1.layer, v10.ino⟩ : Place)).bind fun v16 => if v16.kind = 0 then some (.nx (wr (v6 + 1)))
 else some (.out (.inr ((⟨a1.layer, v10.ino⟩ : Place), true)))
 else some (.nx (wr (v6 + 1)))
 else some (.out (.inl ()))
def xdi (a0 : Stack) (a1 : Place) (a2 : ByteArray) : Option (Place × Bool) := (xle a0 a1).bind fun v1 => if v1.kind = 1 then (iter (x4h a0 a1 a2 v1) big 0).bind fun o => (match o with
 | (.inl _) => some ((⟨0, 0⟩ : Place), false)
 | (.inr r) => some r)
 else some ((⟨0, 0⟩ : Place), false)
def xgc := aI (aI (aI (@EV) (aI (@R3) (@R9))) (aI (aI (@R29) (@R41)) (aI (@R62) (@R68)))) (aI (aI (aI (@R87) (@DBranch)) (aI (@DStack) (@DPlace))) (aI (aI (@DAttr) (@DNode)) (aI (@DEntry) (@mixed))))
set_option maxHeartbeats 2000000 in
theorem xcz (a0 : Stack) (a1 : Place) (a2 : ByteArray) (r : Place × Bool) (hm0 : xdi a0 a1 a2 = some r) : Ok Tryz.prog 94 [xl a0, xc a1, str a2] (.tup [xc r.1, bool r.2]) := by
 unfold xdi at hm0
 refine okG x4y ?_
 unfold xhr
 obtain ⟨v1, h2, hm0⟩ := bsE hm0
 simp only [xgc, ↓EVd, isCall, sevalprocAttr]
 refine qc (xvj _ _ _ h2) rfl ?_
 rcases iteE hm0 with ⟨e4, hm0⟩ | ⟨e4, hm0⟩
 · obtain ⟨o0, ho0, hm0⟩ := bsE hm0
   simp only [e4, xgc, ↓EVd, isCall, sevalprocAttr]
   refine cwp_cx 0 (fun s => (s.T 6 = .loc 2 2 0 0 ∧ s.H 2 = some (.row 41 2 [.agg [int 0, int 0]]) ∧ Lq 2 s.nx) ∧ (.inl ()) = o0) ?_ fun J0_0 hJ0_0 => ?_
   · rintro T0 H0 x7 ⟨kk0_0, rfl⟩
     dsimp only [Lq, Nq] at kk0_0
     try dsimp only at hm0
     have e20 : (.agg [int 0, int 0] : AV) = xc (⟨0, 0⟩ : Place) := _root_.id rfl
     obtain rfl := Option.some.inj hm0
     simp only [kk0_0, e4, e20, xgc, ↓EVd, isCall, sevalprocAttr]
     all_goals first | done | rfl | exact xd (by simp only [CLO]) | exact xn (by simp only [CLO]) (Sub.tup (Subs.cons (Sub.refl _) (Subs.cons (Sub.refl _) (Subs.nil))))
   refine cwp_lp ho0 (fun v6 s => s.T 2 = str a2 ∧ s.T 3 = .loc 0 6 0 0 ∧ s.T 4 = .loc 1 2 0 0 ∧ s.T 6 = .loc 2 2 0 0 ∧ s.T 8 = .loc 7 13 0 0 ∧ s.T 9 = int v6 ∧ s.H 0 = some (.row 29 6 [xl a0]) ∧ s.H 1 = some (.row 41 2 [xc a1]) ∧ s.H 2 = some (.row 41 2 [.agg [int 0, int 0]]) ∧ s.H 7 = some (.row 68 13 [xf v1]) ∧ Lq 0 s.nx ∧ Lq 1 s.nx ∧ Lq 2 s.nx ∧ Lq 7 s.nx) ?_ ?_
   · refine TI.here ⟨?_, ?_, ?_, ?_, ?_, ?_, ?_, ?_, ?_, ?_, ?_, ?_, ?_, ?_⟩
     all_goals try simp only [e4, xgc, ↓EVd, isCall, sevalprocAttr]
     all_goals first | omega | exact lq (by omega) | exact nq (by omega) | rfl | (congr 1; omega)
   rintro I0 v6 T0 H0 x5 st0 kk0 hm1 hI0 hO0
   dsimp only [Lq, Nq] at kk0
   simp only [x4h] at hm1
   rcases iteE hm1 with ⟨e9, hm1⟩ | ⟨e9, hm1⟩
   · obtain ⟨v10, e12, hm1⟩ := ixE xt hm1
     have e13 : (.agg [int a1.layer, int v10.ino] : AV) = xc (⟨a1.layer, v10.ino⟩ : Place) := _root_.id rfl
     rcases iteE hm1 with ⟨e15, hm1⟩ | ⟨e15, hm1⟩
     · obtain ⟨v16, h17, hm1⟩ := bsE hm1
       simp only [kk0, e4, e9, e12, e13, e15, xgc, ↓EVd, isCall, sevalprocAttr]
       refine qc (xvj _ _ _ h17) rfl ?_
       rcases iteE hm1 with ⟨e19, hm1⟩ | ⟨e19, hm1⟩
       · obtain rfl := Option.some.inj hm1
         simp only [kk0, e4, e9, e12, e13, e15, e19, xgc, ↓EVd, isCall, sevalprocAttr]
         refine TI.here (hI0 _ rfl _ ⟨?_, ?_, ?_, ?_, ?_, ?_, ?_, ?_, ?_, ?_, ?_, ?_, ?_, ?_⟩)
         all_goals try simp only [kk0, e4, e9, e12, e13, e15, e19, xgc, ↓EVd, isCall, sevalprocAttr]
         all_goals first | omega | exact lq (by omega) | exact nq (by omega) | rfl | (congr 1; omega)
       obtain rfl := Option.some.inj hm1
       obtain rfl := hO0 _ rfl
       try dsimp only at hm0
       obtain rfl := Option.some.inj hm0
       simp only [kk0, e4, e9, e12, e13, e15, e19, xgc, ↓EVd, isCall, sevalprocAttr]
       all_goals first | done | rfl | exact xd (by simp only [CLO]) | exact xn (by simp only [CLO]) (Sub.tup (Subs.cons (Sub.refl _) (Subs.cons (Sub.refl _) (Subs.nil))))
     obtain rfl := Option.some.inj hm1
     simp only [kk0, e4, e9, e12, e13, e15, xgc, ↓EVd, isCall, sevalprocAttr]
     refine TI.here (hI0 _ rfl _ ⟨?_, ?_, ?_, ?_, ?_, ?_, ?_, ?_, ?_, ?_, ?_, ?_, ?_, ?_⟩)
     all_goals try simp only [kk0, e4, e9, e12, e13, e15, xgc, ↓EVd, isCall, sevalprocAttr]
     all_goals first | omega | exact lq (by omega) | exact nq (by omega) | rfl | (congr 1; omega)
   obtain rfl := Option.some.inj hm1
   simp only [kk0, e4, e9, xgc, ↓EVd, isCall, sevalprocAttr]
   refine TI.here (hJ0_0 _ ⟨⟨?_, ?_, ?_⟩, hO0 _ rfl⟩)
   all_goals try simp only [kk0, e4, e9, xgc, ↓EVd, isCall, sevalprocAttr]
   all_goals first | omega | exact lq (by omega) | exact nq (by omega) | rfl | (congr 1; omega)
 have e21 : (.agg [int 0, int 0] : AV) = xc (⟨0, 0⟩ : Place) := _root_.id rfl
 obtain rfl := Option.some.inj hm0
 simp only [e4, e21, xgc, ↓EVd, isCall, sevalprocAttr]
 all_goals first | done | rfl | exact xd (by simp only [CLO]) | exact xn (by simp only [CLO]) (Sub.tup (Subs.cons (Sub.refl _) (Subs.cons (Sub.refl _) (Subs.nil))))
def xgf (a0 : Stack) (a1 : List Place) (a2 : ByteArray) : (List Place × Int) → Option (St (List Place × Int) ((List Place) ⊕ (Int × List Place)))
 | (v3, v4) => if v4 < (a1.length : Int) then (ix a1 v4).bind fun v10 => (xdi a0 v10 a2).bind fun v13 => if (!v13.2) = true then some (.nx (v3, (wr (v4 + 1))))
 else (xle a0 v13.1).bind fun v17 => if v17.kind = 1 then (ap 16 v3 ([v13.1] : List Place)).bind fun _ => (x2d v17).bind fun v25 => if v25 = true then some (.out (.inr (1, (v3 ++ ([v13.1] : List Place)))))
 else some (.nx ((v3 ++ ([v13.1] : List Place)), (wr (v4 + 1))))
 else if 0 < (v3.length : Int) then some (.out (.inr (1, v3)))
 else if v17.kind = 2 then some (.out (.inr (v17.kind, ([v13.1] : List Place))))
 else if v17.kind = 3 then some (.out (.inr (v17.kind, ([v13.1] : List Place))))
 else some (.out (.inr (0, [])))
 else some (.out (.inl v3))
def xmg (a0 : Stack) (a1 : List Place) (a2 : ByteArray) : Option (Int × List Place) := (iter (xgf a0 a1 a2) big (([] : List Place), 0)).bind fun o => (match o with
 | (.inl v7) => if 0 < (v7.length : Int) then some (1, v7)
 else some (0, [])
 | (.inr r) => some r)
def xlb := aI (aI (aI (@EV) (aI (@R3) (@R9))) (aI (aI (@R29) (@R39)) (aI (@R41) (@R68)))) (aI (aI (@DBranch) (aI (@DStack) (@DPlace))) (aI (aI (@DAttr) (@DNode)) (aI (@DEntry) (@mixed))))
set_option maxHeartbeats 2000000 in
theorem xom (a0 : Stack) (a1 : List Place) (a2 : ByteArray) (r : Int × List Place) (hm0 : xmg a0 a1 a2 = some r) : Ok Tryz.prog 73 [xl a0, .sl 2 (a1.map xc), str a2] (.tup [int r.1, .sl 2 (r.2.map xc)]) := by
 unfold xmg at hm0
 refine okG xd1 ?_
 unfold x0t
 obtain ⟨o0, ho0, hm0⟩ := bsE hm0
 simp only [xlb, ↓EVd, isCall, sevalprocAttr]
 refine cwp_cx 0 (fun s => ∃ v7 : List Place, ∃ l6 : Nat, (s.T 8 = .msl l6 v7.length ∧ s.H l6 = some (.row 41 2 (v7.map xc)) ∧ Lq l6 s.nx) ∧ (.inl v7) = o0) ?_ fun J0_0 hJ0_0 => ?_
 · rintro T0 H0 x5 ⟨v7, l6, kk0_0, rfl⟩
   dsimp only [Lq, Nq] at kk0_0
   try dsimp only at hm0
   rcases iteE hm0 with ⟨e36, hm0⟩ | ⟨e36, hm0⟩
   · obtain rfl := Option.some.inj hm0
     simp only [kk0_0, e36, xlb, ↓EVd, isCall, sevalprocAttr]
     all_goals first | done | rfl | exact xve 9 (by simp only [kk0_0, e36, FZ, CLO, xlb, ↓EVd, isCall, sevalprocAttr]) (Sub.tup (Subs.cons (Sub.refl _) (Subs.cons (Sub.refl _) (Subs.nil))))
   obtain rfl := Option.some.inj hm0
   simp only [kk0_0, e36, xlb, ↓EVd, isCall, sevalprocAttr]
   all_goals first | done | rfl | exact xd (by simp only [CLO]) | exact xn (by simp only [CLO]) (Sub.tup (Subs.cons (Sub.refl _) (Subs.cons (Sub.nilS _) (Subs.nil))))
 refine cwp_lp ho0 (fun (v3, v4) s => ∃ l2 : Nat, s.T 1 = .sl 2 (a1.map xc) ∧ s.T 2 = str a2 ∧ s.T 3 = .loc 0 6 0 0 ∧ s.T 8 = .msl l2 v3.length ∧ s.T 9 = int v4 ∧ s.H 0 = some (.row 29 6 [xl a0]) ∧ s.H l2 = some (.row 41 2 (v3.map xc)) ∧ Lq 0 s.nx ∧ Lq l2 s.nx ∧ Nq 0 l2) ?_ ?_
 · refine TI.here ⟨3, ?_, ?_, ?_, ?_, ?_, ?_, ?_, ?_, ?_, ?_⟩
   all_goals try simp only [xlb, ↓EVd, isCall, sevalprocAttr]
   all_goals first | omega | exact lq (by omega) | exact nq (by omega) | rfl | (congr 1; omega)
 rintro I0 ⟨v3, v4⟩ T0 H0 x1 st0 ⟨l2, kk0⟩ hm1 hI0 hO0
 dsimp only [Lq, Nq] at kk0
 simp only [xgf] at hm1
 rcases iteE hm1 with ⟨e9, hm1⟩ | ⟨e9, hm1⟩
 · obtain ⟨v10, e12, hm1⟩ := ixE xc hm1
   obtain ⟨v13, h14, hm1⟩ := bsE hm1
   simp only [kk0, e9, e12, xlb, ↓EVd, isCall, sevalprocAttr]
   refine qd (xcz _ _ _ _ h14) rfl ?_
   rcases itbE hm1 with ⟨e16, hm1⟩ | ⟨e16, hm1⟩
   · obtain rfl := Option.some.inj hm1
     simp only [kk0, e9, e12, e16, xlb, ↓EVd, isCall, sevalprocAttr]
     refine TI.here (hI0 _ rfl _ ⟨l2, ?_, ?_, ?_, ?_, ?_, ?_, ?_, ?_, ?_, ?_⟩)
     all_goals try simp only [kk0, e9, e12, e16, xlb, ↓EVd, isCall, sevalprocAttr]
     all_goals first | omega | exact lq (by omega) | exact nq (by omega) | rfl | (congr 1; omega)
   obtain ⟨v17, h18, hm1⟩ := bsE hm1
   simp only [kk0, e9, e12, e16, xlb, ↓EVd, isCall, sevalprocAttr]
   refine qc (xvj _ _ _ h18) rfl ?_
   rcases iteE hm1 with ⟨e20, hm1⟩ | ⟨e20, hm1⟩
   · obtain ⟨e23, hm1⟩ := apE hm1
     try simp only [ZL] at e23
     obtain ⟨v25, h26, hm1⟩ := bsE hm1
     simp only [kk0, e9, e12, e16, e20, e23, xlb, ↓EVd, isCall, sevalprocAttr]
     refine qc (xjl _ _ h26) rfl ?_
     rcases itbE hm1 with ⟨e28, hm1⟩ | ⟨e28, hm1⟩
     · obtain rfl := Option.some.inj hm1
       obtain rfl := hO0 _ rfl
       try dsimp only at hm0
       obtain rfl := Option.some.inj hm0
       simp only [kk0, e9, e12, e16, e20, e23, e28, xlb, ↓EVd, isCall, sevalprocAttr]
       all_goals first | done | rfl | exact xve 9 (by simp only [kk0, e9, e12, e16, e20, e23, e28, FZ, CLO, xlb, ↓EVd, isCall, sevalprocAttr]) (Sub.tup (Subs.cons (Sub.refl _) (Subs.cons (Sub.refl _) (Subs.nil))))
     obtain rfl := Option.some.inj hm1
     simp only [kk0, e9, e12, e16, e20, e23, e28, xlb, ↓EVd, isCall, sevalprocAttr]
     refine TI.here (hI0 _ rfl _ ⟨(x1 + 30), ?_, ?_, ?_, ?_, ?_, ?_, ?_, ?_, ?_, ?_⟩)
     all_goals try simp only [kk0, e9, e12, e16, e20, e23, e28, xlb, ↓EVd, isCall, sevalprocAttr]
     all_goals first | omega | exact lq (by omega) | exact nq (by omega) | rfl | (congr 1; omega)
   rcases iteE hm1 with ⟨e30, hm1⟩ | ⟨e30, hm1⟩
   · obtain rfl := Option.some.inj hm1
     obtain rfl := hO0 _ rfl
     try dsimp only at hm0
     obtain rfl := Option.some.inj hm0
     simp only [kk0, e9, e12, e16, e20, e30, xlb, ↓EVd, isCall, sevalprocAttr]
     all_goals first | done | rfl | exact xve 9 (by simp only [kk0, e9, e12, e16, e20, e30, FZ, CLO, xlb, ↓EVd, isCall, sevalprocAttr]) (Sub.tup (Subs.cons (Sub.refl _) (Subs.cons (Sub.refl _) (Subs.nil))))
   rcases iteE hm1 with ⟨e32, hm1⟩ | ⟨e32, hm1⟩
   · obtain rfl := Option.some.inj hm1
     obtain rfl := hO0 _ rfl
     try dsimp only at hm0
     obtain rfl := Option.some.inj hm0
     simp only [kk0, e9, e12, e16, e20, e30, e32, xlb, ↓EVd, isCall, sevalprocAttr]
     all_goals first | done | rfl | exact xve 9 (by simp only [kk0, e9, e12, e16, e20, e30, e32, FZ, CLO, xlb, ↓EVd, isCall, sevalprocAttr]) (Sub.tup (Subs.cons (Sub.refl _) (Subs.cons (Sub.refl _) (Subs.nil))))
   rcases iteE hm1 with ⟨e34, hm1⟩ | ⟨e34, hm1⟩
   · obtain rfl := Option.some.inj hm1
     obtain rfl := hO0 _ rfl
     try dsimp only at hm0
     obtain rfl := Option.some.inj hm0
     simp only [kk0, e9, e12, e16, e20, e30, e32, e34, xlb, ↓EVd, isCall, sevalprocAttr]
     all_goals first | done | rfl | exact xve 9 (by simp only [kk0, e9, e12, e16, e20, e30, e32, e34, FZ, CLO, xlb, ↓EVd, isCall, sevalprocAttr]) (Sub.tup (Subs.cons (Sub.refl _) (Subs.cons (Sub.refl _) (Subs.nil))))
   obtain rfl := Option.some.inj hm1
   obtain rfl := hO0 _ rfl
   try dsimp only at hm0
   obtain rfl := Option.some.inj hm0
   simp only [kk0, e9, e12, e16, e20, e30, e32, e34, xlb, ↓EVd, isCall, sevalprocAttr]
   all_goals first | done | rfl | exact xd (by simp only [CLO]) | exact xn (by simp only [CLO]) (Sub.tup (Subs.cons (Sub.refl _) (Subs.cons (Sub.nilS _) (Subs.nil))))
 obtain rfl := Option.some.inj hm1
 simp only [kk0, e9, xlb, ↓EVd, isCall, sevalprocAttr]
 refine TI.here (hJ0_0 _ ⟨v3, l2, ⟨?_, ?_, ?_⟩, hO0 _ rfl⟩)
 all_goals try simp only [kk0, e9, xlb, ↓EVd, isCall, sevalprocAttr]
 all_goals first | omega | exact lq (by omega) | exact nq (by omega) | rfl | (congr 1; omega)
def xkf (a0 : Stack) (a2 : List ByteArray) : (List Place × Int) → Option (St (List Place × Int) ((List Place) ⊕ (List Place × Bool)))
 | (v2, v3) => if v3 < (a2.length : Int) then (ix a2 v3).bind fun v8 => (xmg a0 v2 v8).bind fun v11 => if v11.1 = 1 then some (.nx (v11.2, (wr (v3 + 1))))
 else some (.out (.inr ([], false)))
 else some (.out (.inl v2))
def x9i (a0 : Stack) (a1 : List Place) (a2 : List ByteArray) : Option (List Place × Bool) := (iter (xkf a0 a2) big (a1, 0)).bind fun o => (match o with
 | (.inl v5) => some (v5, true)
 | (.inr r) => some r)
def xde := aI (aI (aI (@EV) (aI (@R3) (@R9))) (aI (aI (@R29) (@R30)) (aI (@R39) (@R41)))) (aI (aI (@DBranch) (aI (@DStack) (@DPlace))) (aI (aI (@DAttr) (@DNode)) (aI (@DEntry) (@mixed))))
set_option maxHeartbeats 2000000 in
theorem xg2 (a0 : Stack) (a1 : List Place) (a2 : List ByteArray) (r : List Place × Bool) (hm0 : x9i a0 a1 a2 = some r) : Ok Tryz.prog 72 [xl a0, .sl 2 (a1.map xc), .sl 1 (a2.map str)] (.tup [.sl 2 (r.1.map xc), bool r.2]) := by
 unfold x9i at hm0
 refine okG xz1 ?_
 unfold x9s
 obtain ⟨o0, ho0, hm0⟩ := bsE hm0
 simp only [xde, ↓EVd, isCall, sevalprocAttr]
 refine cwp_cx 0 (fun s => ∃ v5 : List Place, (s.T 8 = .sl 2 (v5.map xc)) ∧ (.inl v5) = o0) ?_ fun J0_0 hJ0_0 => ?_
 · rintro T0 H0 x4 ⟨v5, kk0_0, rfl⟩
   dsimp only [Lq, Nq] at kk0_0
   try dsimp only at hm0
   obtain rfl := Option.some.inj hm0
   simp only [kk0_0, xde, ↓EVd, isCall, sevalprocAttr]
   all_goals first | done | rfl | exact xd (by simp only [CLO]) | exact xn (by simp only [CLO]) (Sub.tup (Subs.cons (Sub.refl _) (Subs.cons (Sub.refl _) (Subs.nil))))
 refine cwp_lp ho0 (fun (v2, v3) s => s.T 2 = .sl 1 (a2.map str) ∧ s.T 3 = .loc 0 6 0 0 ∧ s.T 8 = .sl 2 (v2.map xc) ∧ s.T 9 = int v3 ∧ s.H 0 = some (.row 29 6 [xl a0]) ∧ Lq 0 s.nx) ?_ ?_
 · refine TI.here ⟨?_, ?_, ?_, ?_, ?_, ?_⟩
   all_goals try simp only [xde, ↓EVd, isCall, sevalprocAttr]
   all_goals first | omega | exact lq (by omega) | exact nq (by omega) | rfl | (congr 1; omega)
 rintro I0 ⟨v2, v3⟩ T0 H0 x1 st0 kk0 hm1 hI0 hO0
 dsimp only [Lq, Nq] at kk0
 simp only [xkf] at hm1
 rcases iteE hm1 with ⟨e7, hm1⟩ | ⟨e7, hm1⟩
 · obtain ⟨v8, e10, hm1⟩ := ixE str hm1
   obtain ⟨v11, h12, hm1⟩ := bsE hm1
   simp only [kk0, e7, e10, xde, ↓EVd, isCall, sevalprocAttr]
   refine qd (xom _ _ _ _ h12) rfl ?_
   rcases iteE hm1 with ⟨e14, hm1⟩ | ⟨e14, hm1⟩
   · obtain rfl := Option.some.inj hm1
     simp only [kk0, e7, e10, e14, xde, ↓EVd, isCall, sevalprocAttr]
     refine TI.here (hI0 _ rfl _ ⟨?_, ?_, ?_, ?_, ?_, ?_⟩)
     all_goals try simp only [kk0, e7, e10, e14, xde, ↓EVd, isCall, sevalprocAttr]
     all_goals first | omega | exact lq (by omega) | exact nq (by omega) | rfl | (congr 1; omega)
   obtain rfl := Option.some.inj hm1
   obtain rfl := hO0 _ rfl
   try dsimp only at hm0
   obtain rfl := Option.some.inj hm0
   simp only [kk0, e7, e10, e14, xde, ↓EVd, isCall, sevalprocAttr]
   all_goals first | done | rfl | exact xd (by simp only [CLO]) | exact xn (by simp only [CLO]) (Sub.tup (Subs.cons (Sub.nilS _) (Subs.cons (Sub.refl _) (Subs.nil))))
 obtain rfl := Option.some.inj hm1
 simp only [kk0, e7, xde, ↓EVd, isCall, sevalprocAttr]
 refine TI.here (hJ0_0 _ ⟨v2, ?_, hO0 _ rfl⟩)
 all_goals try simp only [kk0, e7, xde, ↓EVd, isCall, sevalprocAttr]
 all_goals first | omega | exact lq (by omega) | exact nq (by omega) | rfl | (congr 1; omega)
def xse (a0 : Stack) : (List Place × Int) → Option (St (List Place × Int) ((List Place) ⊕ (List Place)))
 | (v3, v4) => if v4 ≤ (a0.lowers.length : Int) then (xle a0 (⟨v4, 1⟩ : Place)).bind fun v11 => if v11.kind = 1 then (ap 16 v3 ([(⟨v4, 1⟩ : Place)] : List Place)).bind fun _ => (x2d v11).bind fun v19 => if v19 = true then some (.out (.inr (v3 ++ ([(⟨v4, 1⟩ : Place)] : List Place))))
 else some (.nx ((v3 ++ ([(⟨v4, 1⟩ : Place)] : List Place)), (wr (v4 + 1))))
 else some (.nx (v3, (wr (v4 + 1))))
 else some (.out (.inl v3))
def xqf (a0 : Stack) : Option (List Place) := (iter (xse a0) big (([] : List Place), 1)).bind fun o => (match o with
 | (.inl v7) => some v7
 | (.inr r) => some r)
def xac := aI (aI (aI (@EV) (aI (@R3) (@R26))) (aI (aI (@R27) (@R29)) (aI (@R39) (@R41)))) (aI (aI (@R68) (aI (@DBranch) (@DStack))) (aI (aI (@DPlace) (@DAttr)) (aI (@DNode) (@DEntry))))
set_option maxHeartbeats 2000000 in
theorem x5l (a0 : Stack) (r : List Place) (hm0 : xqf a0 = some r) : Ok Tryz.prog 70 [xl a0] (.sl 2 (r.map xc)) := by
 unfold xqf at hm0
 refine okG xmz ?_
 unfold x6q
 obtain ⟨o0, ho0, hm0⟩ := bsE hm0
 simp only [xac, ↓EVd, isCall, sevalprocAttr]
 refine cwp_cx 0 (fun s => ∃ v7 : List Place, ∃ l6 : Nat, (s.T 3 = .msl l6 v7.length ∧ s.H l6 = some (.row 41 2 (v7.map xc)) ∧ Lq l6 s.nx) ∧ (.inl v7) = o0) ?_ fun J0_0 hJ0_0 => ?_
 · rintro T0 H0 x5 ⟨v7, l6, kk0_0, rfl⟩
   dsimp only [Lq, Nq] at kk0_0
   try dsimp only at hm0
   obtain rfl := Option.some.inj hm0
   simp only [kk0_0, xac, ↓EVd, isCall, sevalprocAttr]
   all_goals first | done | rfl | exact frzR_e (by simp only [kk0_0, FZ, CLO, xac, ↓EVd, isCall, sevalprocAttr])
 refine cwp_lp ho0 (fun (v3, v4) s => ∃ l2 : Nat, s.T 1 = .loc 0 6 0 0 ∧ s.T 3 = .msl l2 v3.length ∧ s.T 4 = int v4 ∧ s.H 0 = some (.row 29 6 [xl a0]) ∧ s.H l2 = some (.row 41 2 (v3.map xc)) ∧ Lq 0 s.nx ∧ Lq l2 s.nx ∧ Nq 0 l2) ?_ ?_
 · refine TI.here ⟨2, ?_, ?_, ?_, ?_, ?_, ?_, ?_, ?_⟩
   all_goals try simp only [xac, ↓EVd, isCall, sevalprocAttr]
   all_goals first | omega | exact lq (by omega) | exact nq (by omega) | rfl | (congr 1; omega)
 rintro I0 ⟨v3, v4⟩ T0 H0 x1 st0 ⟨l2, kk0⟩ hm1 hI0 hO0
 dsimp only [Lq, Nq] at kk0
 simp only [xse] at hm1
 rcases iteE hm1 with ⟨e9, hm1⟩ | ⟨e9, hm1⟩
 · have e10 : (.agg [int v4, int 1] : AV) = xc (⟨v4, 1⟩ : Place) := _root_.id rfl
   obtain ⟨v11, h12, hm1⟩ := bsE hm1
   simp only [kk0, e9, e10, xac, ↓EVd, isCall, sevalprocAttr]
   refine qc (xvj _ _ _ h12) rfl ?_
   rcases iteE hm1 with ⟨e14, hm1⟩ | ⟨e14, hm1⟩
   · obtain ⟨e17, hm1⟩ := apE hm1
     try simp only [ZL] at e17
     obtain ⟨v19, h20, hm1⟩ := bsE hm1
     simp only [kk0, e9, e10, e14, e17, xac, ↓EVd, isCall, sevalprocAttr]
     refine qc (xjl _ _ h20) rfl ?_
     rcases itbE hm1 with ⟨e22, hm1⟩ | ⟨e22, hm1⟩
     · obtain rfl := Option.some.inj hm1
       obtain rfl := hO0 _ rfl
       try dsimp only at hm0
       obtain rfl := Option.some.inj hm0
       simp only [kk0, e9, e10, e14, e17, e22, xac, ↓EVd, isCall, sevalprocAttr]
       all_goals first | done | rfl | exact frzR_e (by simp only [kk0, e9, e10, e14, e17, e22, FZ, CLO, xac, ↓EVd, isCall, sevalprocAttr])
     obtain rfl := Option.some.inj hm1
     simp only [kk0, e9, e10, e14, e17, e22, xac, ↓EVd, isCall, sevalprocAttr]
     refine TI.here (hI0 _ rfl _ ⟨(x1 + 20), ?_, ?_, ?_, ?_, ?_, ?_, ?_, ?_⟩)
     all_goals try simp only [kk0, e9, e10, e14, e17, e22, xac, ↓EVd, isCall, sevalprocAttr]
     all_goals first | omega | exact lq (by omega) | exact nq (by omega) | rfl | (congr 1; omega)
   obtain rfl := Option.some.inj hm1
   simp only [kk0, e9, e10, e14, xac, ↓EVd, isCall, sevalprocAttr]
   refine TI.here (hI0 _ rfl _ ⟨l2, ?_, ?_, ?_, ?_, ?_, ?_, ?_, ?_⟩)
   all_goals try simp only [kk0, e9, e10, e14, xac, ↓EVd, isCall, sevalprocAttr]
   all_goals first | omega | exact lq (by omega) | exact nq (by omega) | rfl | (congr 1; omega)
 obtain rfl := Option.some.inj hm1
 simp only [kk0, e9, xac, ↓EVd, isCall, sevalprocAttr]
 refine TI.here (hJ0_0 _ ⟨v3, l2, ⟨?_, ?_, ?_⟩, hO0 _ rfl⟩)
 all_goals try simp only [kk0, e9, xac, ↓EVd, isCall, sevalprocAttr]
 all_goals first | omega | exact lq (by omega) | exact nq (by omega) | rfl | (congr 1; omega)
end Go.Proofs.YtfkgckbdknpcnaaGreatDoor.AL

/- Loops of models, in plain words. -/
set_option linter.all false
namespace Go.Proofs.YtfkgckbdknpcnaaGreatDoor.AL
open Go Go.Proofs
theorem x3f {S ρ : Type} {B : S → Option (St S ρ)} {R : ρ → Prop} (I : Nat → S → Prop) (N : Nat) (hs : ∀ i s, I i s → i ≤ N ∧ ((∃ s', B s = some (.nx s') ∧ I (i + 1) s') ∨ ∃ r, B s = some (.out r) ∧ R r)) :
    ∀ (fuel i : Nat) (s : S), I i s → N < fuel + i → ∃ r, iter B fuel s = some r ∧ R r
  | 0, i, s, h, hf => by have := (hs i s h).1; omega
  | fuel + 1, i, s, h, hf => by
    rw [xuh]
    rcases (hs i s h).2 with ⟨s', h1, h2⟩ | ⟨r, h1, h2⟩
    · rw [h1]
      exact x3f I N hs fuel (i + 1) s' h2 (by omega)
    · rw [h1]
      exact ⟨r, rfl, h2⟩
theorem big_eq : big = 1000000000000000000 := rfl
theorem ix_at {α : Type} {xs : List α} {i : Nat} (h : i < xs.length) : ix xs (i : Int) = some xs[i] := by
  unfold ix
  rw [if_pos (by omega)]
  simp [h]
theorem ix_of {α : Type} {xs : List α} {n : Int} (h0 : 0 ≤ n) (h : n < xs.length) : ix xs n = some (xs[n.toNat]'(by omega)) := by
  unfold ix
  rw [if_pos h0]
  simp
theorem wr_suc {i : Nat} (h : i < 4611686018427387904) : wr ((i : Int) + 1) = ((i + 1 : Nat) : Int) := by rw [wr_in (by omega) (by omega)]; omega
theorem ap_of {α : Type} {k : Nat} {xs ys : List α} (h : (xs.length + ys.length) * k ≤ 140737488355328) (hk : 0 < k) : ap k xs ys = some (xs ++ ys) := by
  unfold ap
  have : xs.length + ys.length ≤ (xs.length + ys.length) * k := Nat.le_mul_of_pos_right _ hk
  have h2 : xs.length + ys.length ≤ 9223372036854775807 := by omega
  rw [if_pos ⟨h, h2⟩]
theorem xdc {α σ S ρ : Type} {B : S → Option (St S ρ)} (mk : Nat → σ → S) (xs : List α) (step : σ → α → σ) (fin : σ → ρ) (I : Nat → σ → Prop) (hs : ∀ i s (h : i < xs.length), I i s → B (mk i s) = some (.nx (mk (i + 1) (step s xs[i]))) ∧ I (i + 1) (step s xs[i]))
    (he : ∀ s, I xs.length s → B (mk xs.length s) = some (.out (fin s))) {s0 : σ} (h0 : I 0 s0) {fuel : Nat} (hf : xs.length < fuel) : iter B fuel (mk 0 s0) = some (fin (xs.foldl step s0)) ∧ I xs.length (xs.foldl step s0) := by
  have key : ∀ (d i : Nat) (s : σ) (fuel : Nat), d + i = xs.length → I i s → d < fuel → iter B fuel (mk i s) = some (fin ((xs.drop i).foldl step s)) ∧ I xs.length ((xs.drop i).foldl step s) := by
    intro d
    induction d with
    | zero =>
      intro i s fuel hd hi hf
      obtain rfl : i = xs.length := by omega
      cases fuel with
      | zero => omega
      | succ fuel =>
        rw [xuh, he s hi]
        simp [hi]
    | succ d ih =>
      intro i s fuel hd hi hf
      cases fuel with
      | zero => omega
      | succ fuel =>
        have hlt : i < xs.length := by omega
        obtain ⟨h1, h2⟩ := hs i s hlt hi
        rw [xuh, h1]
        have := ih (i + 1) _ fuel (by omega) h2 (by omega)
        rw [List.drop_eq_getElem_cons hlt]
        exact this
  have := key xs.length 0 s0 fuel (by omega) h0 hf
  simpa using this
def wl {σ : Type} (step : Nat → σ → σ) (len : σ → Nat) : Nat → Nat → σ → Nat × σ
  | 0, k, s => (k, s)
  | f + 1, k, s => if k < len s then wl step len f (k + 1) (step k s) else (k, s)
theorem xju {σ S ρ : Type} {B : S → Option (St S ρ)} (mk : Nat → σ → S) (step : Nat → σ → σ) (len : σ → Nat) (fin : Nat → σ → ρ) (I : Nat → σ → Prop) (N : Nat) (hN : ∀ k s, I k s → k ≤ len s ∧ len s ≤ N)
    (hs : ∀ k s, I k s → k < len s → B (mk k s) = some (.nx (mk (k + 1) (step k s))) ∧ I (k + 1) (step k s)) (he : ∀ k s, I k s → ¬ k < len s → B (mk k s) = some (.out (fin k s))) :
    ∀ (f k : Nat) (s : σ) (fuel : Nat), I k s → N < f + k → N < fuel + k → iter B fuel (mk k s) = some (fin (wl step len f k s).1 (wl step len f k s).2) ∧ I (wl step len f k s).1 (wl step len f k s).2 ∧ (wl step len f k s).1 = len (wl step len f k s).2
  | 0, k, s, fuel, hi, hf, hg => by have := hN k s hi; omega
  | f + 1, k, s, fuel, hi, hf, hg => by
    obtain ⟨n1, n2⟩ := hN k s hi
    cases fuel with
    | zero => omega
    | succ fuel =>
      rw [xuh]
      unfold wl
      by_cases h : k < len s
      · obtain ⟨h1, h2⟩ := hs k s hi h
        rw [if_pos h, h1]
        exact xju mk step len fin I N hN hs he f (k + 1) _ fuel h2 (by omega) (by omega)
      · rw [if_neg h, he k s hi h]
        exact ⟨rfl, hi, by show k = len s; omega⟩
theorem eqLoop {α : Type} [DecidableEq α] {a b : List α} {B : Int → Option (St Int (Unit ⊕ Bool))} (hl : a.length = b.length) (hlen : a.length ≤ 1000000000)
    (hB : ∀ (i : Nat) (h : i < a.length) (h' : i < b.length), B (i : Int) = if a[i] = b[i] then some (.nx ((i + 1 : Nat) : Int)) else some (.out (.inr false))) (hE : B (a.length : Int) = some (.out (.inl ()))) :
    iter B big 0 = some (if a = b then .inl () else .inr false) := by
  obtain ⟨r, h1, h2⟩ := x3f (B := B) (R := fun r => r = if a = b then .inl () else .inr false) (fun i t => t = (i : Int) ∧ i ≤ a.length ∧ ∀ j (h : j < a.length) (h' : j < b.length), j < i → a[j] = b[j]) a.length (by
    rintro i t ⟨rfl, hi, hj⟩
    refine ⟨hi, ?_⟩
    by_cases hlt : i < a.length
    · rw [hB i hlt (by omega)]
      by_cases he : a[i] = b[i]
      · rw [if_pos he]
        refine .inl ⟨_, rfl, rfl, by omega, fun j h h' hji => ?_⟩
        by_cases e : j = i
        · subst e; exact he
        · exact hj j h h' (by omega)
      · rw [if_neg he]
        refine .inr ⟨_, rfl, ?_⟩
        rw [if_neg]
        rintro rfl
        exact he rfl
    · obtain rfl : i = a.length := by omega
      rw [hE]
      refine .inr ⟨_, rfl, ?_⟩
      rw [if_pos (List.ext_getElem hl fun j h h' => hj j h h' h)]) big 0 0 ⟨rfl, by omega, fun j _ _ h => by omega⟩ (by rw [big_eq]; omega)
  rw [h1, h2]
theorem xsl {α : Type} {p : α → Option Bool} {f : α → Bool} : ∀ (l : List α), (∀ x ∈ l, p x = some (f x)) → l.length < 1000000000000 → x0h p l = some (l.any f) := by
  have key : ∀ (l : List α) (i : Nat), (∀ x ∈ l, p x = some (f x)) → ∃ r, idxM p l i = some r ∧ (0 ≤ r ↔ l.any f = true) := by
    intro l
    induction l with
    | nil => intro i _; exact ⟨-1, rfl, by simp⟩
    | cons x l ih =>
      intro i h
      unfold idxM
      rw [h x (by simp)]
      simp only [Option.bind_some]
      by_cases hx : f x = true
      · rw [if_pos hx]; exact ⟨_, rfl, by simp [hx]⟩
      · rw [if_neg hx]
        obtain ⟨r, h1, h2⟩ := ih (i + 1) (fun y hy => h y (by simp [hy]))
        exact ⟨r, h1, by rw [h2]; simp [hx]⟩
  intro l h hl
  obtain ⟨r, h1, h2⟩ := key l 0 h
  unfold x0h indexM ck
  rw [if_pos (by omega)]
  simp only [Option.bind_some]
  rw [h1]
  simp only [Option.bind_some]
  congr 1
  cases ha : l.any f with
  | true => simp [h2.2 ha]
  | false =>
    have : ¬ 0 ≤ r := fun h => by have := h2.1 h; rw [ha] at this; cases this
    simp [this]
theorem xgy {α : Type} {p : α → Option Bool} (h : ∀ x, ∃ r, p x = some r) : ∃ f : α → Bool, ∀ x, p x = some (f x) := ⟨fun x => Classical.choose (h x), fun x => Classical.choose_spec (h x)⟩
end Go.Proofs.YtfkgckbdknpcnaaGreatDoor.AL

/- Plain laws: the guard of chapter 16's statements. -/
set_option linter.all false
namespace Go.Proofs.YtfkgckbdknpcnaaGreatDoor.AL
open Go Go.Proofs
theorem xr7 (n : Int) : ∃ r, xue n = some r := by
  unfold xue
  repeat' split
  all_goals exact ⟨_, rfl⟩
theorem xwab (s : ByteArray) : ∃ r, x0c s = some r := by
  unfold x0c
  by_cases h1 : (s.size : Int) < 1
  · rw [if_pos h1]; exact ⟨_, rfl⟩
  rw [if_neg h1]
  by_cases h2 : 12 < (s.size : Int)
  · rw [if_pos h2]; exact ⟨_, rfl⟩
  rw [if_neg h2]
  split
  · exact ⟨_, rfl⟩
  split
  · exact ⟨_, rfl⟩
  obtain ⟨r, h3, _⟩ := x3f (B := xte s) (R := fun _ => True) (fun i t => t = (i : Int) ∧ i ≤ s.size) s.size (by
    rintro i t ⟨rfl, hi⟩
    refine ⟨hi, ?_⟩
    simp only [xte]
    by_cases hlt : i < s.size
    · rw [if_pos (by omega)]
      have hx : ixB s (i : Int) = some s[i] := by
        unfold ixB
        rw [if_pos (by omega)]
        simp [hlt]
      rw [hx]
      simp only [Option.bind_some]
      obtain ⟨r, hr⟩ := xr7 (s[i].toNat : Int)
      rw [hr]
      simp only [Option.bind_some]
      split
      · exact .inr ⟨_, rfl, trivial⟩
      · rw [wr_suc (by omega)]
        exact .inl ⟨_, rfl, rfl, by omega⟩
    · rw [if_neg (by omega)]
      exact .inr ⟨_, rfl, trivial⟩) big 0 0 ⟨rfl, by omega⟩ (by rw [big_eq]; omega)
  rw [h3]
  cases r with
  | inl u => exact ⟨_, rfl⟩
  | inr r => exact ⟨_, rfl⟩
theorem xbgb (e : Entry) : ∃ r, xni e = some r := by
  unfold xni
  obtain ⟨r, hr⟩ := xwab e.name
  rw [hr]
  exact ⟨_, rfl⟩
structure NB (x : Node) : Prop where
  ents : x.entries.length ≤ 16
  has0 : 0 ≤ x.attr.has
  has1 : x.attr.has ≤ 31
theorem xz0 (x : Node) : ∃ r, xah x = some r ∧ (r = true → NB x ∧ x.data.length ≤ 300) := by
  unfold xah
  obtain ⟨r, h3, h4⟩ := x3f (B := xui x) (R := fun r => match r with | .inl _ => True | .inr r => r = false) (fun i t => t = (i : Int) ∧ i ≤ x.entries.length ∧ ∀ (h : 0 < i) (h' : i - 1 < x.entries.length), (i : Int) - 1 ≤ x.entries[i - 1].slot ∧ x.entries[i - 1].slot < 16) 16 (by
    rintro i t ⟨rfl, hi, hp⟩
    refine ⟨?_, ?_⟩
    · by_cases h0 : 0 < i
      · have := hp h0 (by omega); omega
      · omega
    simp only [xui]
    by_cases hlt : i < x.entries.length
    · have hi16 : i ≤ 16 := by
        by_cases h0 : 0 < i
        · have := hp h0 (by omega); omega
        · omega
      rw [if_pos (by omega), ix_at hlt]
      simp only [Option.bind_some]
      by_cases c1 : x.entries[i].slot < 0
      · rw [if_pos c1]; exact .inr ⟨_, rfl, rfl⟩
      rw [if_neg c1]
      by_cases c2 : 16 ≤ x.entries[i].slot
      · rw [if_pos c2]; exact .inr ⟨_, rfl, rfl⟩
      rw [if_neg c2]
      by_cases c3 : 0 < i
      · have hw : wr ((i : Int) - 1) = ((i - 1 : Nat) : Int) := by rw [wr_in (by omega) (by omega)]; omega
        have hlt' : i - 1 < x.entries.length := by omega
        rw [if_pos (by omega), hw, ix_at hlt']
        simp only [Option.bind_some]
        by_cases c4 : x.entries[i].slot ≤ x.entries[i - 1].slot
        · rw [if_pos c4]; exact .inr ⟨_, rfl, rfl⟩
        · rw [if_neg c4, wr_suc (by omega)]
          refine .inl ⟨_, rfl, rfl, by omega, fun h h' => ?_⟩
          have := hp c3 hlt'
          simp only [Nat.add_sub_cancel]
          omega
      · rw [if_neg (by omega), wr_suc (by omega)]
        refine .inl ⟨_, rfl, rfl, by omega, fun h h' => ?_⟩
        simp only [Nat.add_sub_cancel]
        omega
    · rw [if_neg (by omega)]
      exact .inr ⟨_, rfl, trivial⟩) big 0 0 ⟨rfl, by omega, fun h => by omega⟩ (by rw [big_eq]; omega)
  rw [h3]
  cases r with
  | inr r => simp only at h4; subst h4; exact ⟨_, rfl, fun h => by cases h⟩
  | inl u =>
    simp only [Option.bind_some]
    repeat' (first
      | exact ⟨_, rfl, fun h => by cases h⟩
      | split)
    rename_i c1 c2 c3 c4 c5 c6 c7 c8 c9
    obtain ⟨f, hf⟩ := xgy xbgb
    rw [xsl (f := f) x.entries (fun y _ => hf y) (by omega)]
    exact ⟨_, rfl, fun _ => ⟨⟨by omega, c5, c6⟩, by omega⟩⟩
theorem xncb (x : Node) : ∃ r, xah x = some r ∧ (r = true → NB x) := by
  obtain ⟨r, h1, h2⟩ := xz0 x
  exact ⟨r, h1, fun h => (h2 h).1⟩
theorem x2o (b : Branch) (k : Int) (hk : k ≤ 1000) : ∃ r, x6f b k = some r ∧ (r = true → (b.nodes.length : Int) ≤ k ∧ ∀ x ∈ b.nodes, NB x ∧ x.data.length ≤ 300) := by
  unfold x6f
  by_cases h : (b.nodes.length : Int) ≤ k
  · rw [if_pos h]
    have ht : ∀ x, ∃ r, xxd x = some r := fun x => by
      obtain ⟨r, h1, _⟩ := xncb x
      unfold xxd
      rw [h1]
      exact ⟨_, rfl⟩
    obtain ⟨f, hf⟩ := xgy ht
    rw [xsl (f := f) b.nodes (fun y _ => hf y) (by omega)]
    refine ⟨_, rfl, fun hr => ⟨by omega, fun x hx => ?_⟩⟩
    have hx' : f x = false := by
      simp only [Bool.not_eq_true', List.any_eq_false] at hr
      simpa using hr x hx
    obtain ⟨r, h1, h2⟩ := xz0 x
    have := hf x
    unfold xxd at this
    rw [h1, hx'] at this
    simp only [Option.bind_some, Option.some.injEq, Bool.not_eq_false'] at this
    exact h2 this
  · rw [if_neg h]
    exact ⟨_, rfl, fun h => by cases h⟩
structure SB (s : Stack) : Prop where
  low : s.lowers.length ≤ 3
  up : s.upper.nodes.length ≤ 24 ∧ ∀ x ∈ s.upper.nodes, NB x
  lows : ∀ b ∈ s.lowers, b.nodes.length ≤ 24 ∧ ∀ x ∈ b.nodes, NB x
structure SD (s : Stack) (k : Int) : Prop where
  few : (s.upper.nodes.length : Int) ≤ k
  data : ∀ x ∈ s.upper.nodes, x.data.length ≤ 300
  datas : ∀ b ∈ s.lowers, (b.nodes.length : Int) ≤ k ∧ ∀ x ∈ b.nodes, x.data.length ≤ 300
theorem xk8 (s : Stack) (k : Int) (hk : k ≤ 24) : ∃ r, xme s k = some r ∧ (r = true → SB s ∧ SD s k) := by
  unfold xme
  by_cases h : (s.lowers.length : Int) ≤ 3
  · rw [if_pos h]
    obtain ⟨r, h1, h2⟩ := x2o s.upper k (by omega)
    rw [h1]
    simp only [Option.bind_some]
    cases r with
    | false => exact ⟨false, by simp, fun h => by cases h⟩
    | true =>
      rw [if_pos rfl]
      have ht : ∀ x, ∃ r, xce x k = some r := fun x => by
        obtain ⟨r, h1, _⟩ := x2o x k (by omega)
        unfold xce
        rw [h1]
        exact ⟨_, rfl⟩
      obtain ⟨f, hf⟩ := xgy ht
      rw [xsl (f := f) s.lowers (fun y _ => hf y) (by omega)]
      refine ⟨_, rfl, fun hr => ?_⟩
      have hu := h2 rfl
      have hl : ∀ x ∈ s.lowers, (x.nodes.length : Int) ≤ k ∧ ∀ y ∈ x.nodes, NB y ∧ y.data.length ≤ 300 := fun x hx => by
        have hx' : f x = false := by
          simp only [Bool.not_eq_true', List.any_eq_false] at hr
          simpa using hr x hx
        obtain ⟨r, h1, h2⟩ := x2o x k (by omega)
        have := hf x
        unfold xce at this
        rw [h1, hx'] at this
        simp only [Option.bind_some, Option.some.injEq, Bool.not_eq_false'] at this
        exact h2 this
      exact ⟨⟨by omega, ⟨by omega, fun x hx => (hu.2 x hx).1⟩, fun b hb => ⟨by have := (hl b hb).1; omega, fun x hx => ((hl b hb).2 x hx).1⟩⟩, ⟨hu.1, fun x hx => (hu.2 x hx).2, fun b hb => ⟨(hl b hb).1, fun x hx => ((hl b hb).2 x hx).2⟩⟩⟩
  · rw [if_neg h]
    exact ⟨_, rfl, fun h => by cases h⟩
theorem xf0 (s : Stack) : ∃ r, xme s 24 = some r ∧ (r = true → SB s) := by
  obtain ⟨r, h1, h2⟩ := xk8 s 24 (by omega)
  exact ⟨r, h1, fun h => (h2 h).1⟩
end Go.Proofs.YtfkgckbdknpcnaaGreatDoor.AL

