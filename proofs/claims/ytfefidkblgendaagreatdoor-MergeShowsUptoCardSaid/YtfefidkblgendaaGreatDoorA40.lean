/- What any node of any stack should say of copies, and which say otherwise, is what the document says: part 40 of 51. -/
import Derived.Test.YtfefidkblgendaaGreatDoorA39
set_option linter.all false
/- Models of functions, and that the functions are as their models: written by gen.py. -/
set_option linter.all false
set_option maxRecDepth 100000
namespace Go.Proofs.YtfefidkblgendaaGreatDoor.AL
open Go Go.Proofs
def xgc (a0 : Stack) (a1 : Place) : Option (Node) := if a1.layer < 1 then some (⟨0, 0, 0, 0, [], [], (⟨0, 0, xl, (⟨0, 0, 0⟩ : Origin), 0⟩ : Attr)⟩ : Node)
 else if (a0.lowers.length : Int) < a1.layer then some (⟨0, 0, 0, 0, [], [], (⟨0, 0, xl, (⟨0, 0, 0⟩ : Origin), 0⟩ : Attr)⟩ : Node)
 else (ix a0.lowers (wr (a1.layer - 1))).bind fun v5 => (x3c v5 a1.ino).bind fun v8 => some v8
def x8j := aI (aI (aI (@EV) (aI (@R3) (@R26))) (aI (aI (@R27) (@R29)) (aI (@R44) (@R71)))) (aI (aI (aI (@DBranch) (@DStack)) (aI (@DPlace) (@DOrigin))) (aI (aI (@DAttr) (@DNode)) (aI (@DEntry) (@mixed))))
set_option maxHeartbeats 2000000 in
theorem x1d (a0 : Stack) (a1 : Place) (r : Node) (hm0 : xgc a0 a1 = some r) : Ok Tryz.prog 75 [xf a0, xc a1] (xo r) := by
 unfold xgc at hm0
 refine okG xh1 ?_
 unfold xps
 rcases iteE hm0 with ⟨e2, hm0⟩ | ⟨e2, hm0⟩
 · obtain rfl := Option.some.inj hm0
   simp only [e2, x8j, ↓EVd, isCall, sevalprocAttr]
   all_goals first | done | rfl | exact xb (by simp only [CLO]) | exact xe (by simp only [CLO]) (Sub.agg (Subs.cons (Sub.refl _) (Subs.cons (Sub.refl _) (Subs.cons (Sub.refl _) (Subs.cons (Sub.refl _) (Subs.cons (Sub.nilS _) (Subs.cons (Sub.nilS _) (Subs.cons (Sub.refl _) (Subs.cons (Sub.refl _) (Subs.cons (Sub.refl _) (Subs.cons (Sub.refl _) (Subs.cons (Sub.refl _) (Subs.cons (Sub.refl _) (Subs.cons (Sub.refl _) (Subs.nil)))))))))))))))
 rcases iteE hm0 with ⟨e4, hm0⟩ | ⟨e4, hm0⟩
 · obtain rfl := Option.some.inj hm0
   simp only [e2, e4, x8j, ↓EVd, isCall, sevalprocAttr]
   all_goals first | done | rfl | exact xb (by simp only [CLO]) | exact xe (by simp only [CLO]) (Sub.agg (Subs.cons (Sub.refl _) (Subs.cons (Sub.refl _) (Subs.cons (Sub.refl _) (Subs.cons (Sub.refl _) (Subs.cons (Sub.nilS _) (Subs.cons (Sub.nilS _) (Subs.cons (Sub.refl _) (Subs.cons (Sub.refl _) (Subs.cons (Sub.refl _) (Subs.cons (Sub.refl _) (Subs.cons (Sub.refl _) (Subs.cons (Sub.refl _) (Subs.cons (Sub.refl _) (Subs.nil)))))))))))))))
 obtain ⟨v5, e7, hm0⟩ := ixE xcb hm0
 obtain ⟨v8, h9, hm0⟩ := bsE hm0
 simp only [e2, e4, e7, x8j, ↓EVd, isCall, sevalprocAttr]
 refine qd (x5e _ _ _ h9) rfl ?_
 obtain rfl := Option.some.inj hm0
 simp only [e2, e4, e7, x8j, ↓EVd, isCall, sevalprocAttr]
 all_goals first | done | rfl | exact xb (by simp only [CLO])
def xmh (a0 : Int) (a1 : Int) : Option (Bool) := (ck (¬ a1 = 0)).bind fun _ => if ((wr (a0.tdiv a1)).tmod 2) = 1 then some true
 else some false
def x6w := aI (@EV) (@R3)
set_option maxHeartbeats 2000000 in
theorem xx3 (a0 : Int) (a1 : Int) (r : Bool) (hm0 : xmh a0 a1 = some r) : Ok Tryz.prog 76 [int a0, int a1] (bool r) := by
 unfold xmh at hm0
 refine okG xw4 ?_
 unfold xmw
 obtain ⟨e2, hm0⟩ := ckE hm0
 have e3 : ((2 : Int) = 0) = False := by decide
 rcases iteE hm0 with ⟨e5, hm0⟩ | ⟨e5, hm0⟩
 · obtain rfl := Option.some.inj hm0
   simp only [e2, e3, e5, x6w, ↓EVd, isCall, sevalprocAttr]
   all_goals first | done | rfl
 obtain rfl := Option.some.inj hm0
 simp only [e2, e3, e5, x6w, ↓EVd, isCall, sevalprocAttr]
 all_goals first | done | rfl
def x9c (a0 : Attr) (a1 : Int) : Option (Bool) := if 0 ≤ a0.has then (xmh a0.has a1).bind fun v3 => some v3
 else some false
def xtq := aI (aI (@EV) (@R3)) (aI (@R69) (aI (@DOrigin) (@DAttr)))
set_option maxHeartbeats 2000000 in
theorem xwl (a0 : Attr) (a1 : Int) (r : Bool) (hm0 : x9c a0 a1 = some r) : Ok Tryz.prog 42 [xwi a0, int a1] (bool r) := by
 unfold x9c at hm0
 refine okG xc5 ?_
 unfold xex
 rcases iteE hm0 with ⟨e2, hm0⟩ | ⟨e2, hm0⟩
 · obtain ⟨v3, h4, hm0⟩ := bsE hm0
   simp only [e2, xtq, ↓EVd, isCall, sevalprocAttr]
   refine qc (xx3 _ _ _ h4) rfl ?_
   obtain rfl := Option.some.inj hm0
   simp only [e2, xtq, ↓EVd, isCall, sevalprocAttr]
   all_goals first | done | rfl
 obtain rfl := Option.some.inj hm0
 simp only [e2, xtq, ↓EVd, isCall, sevalprocAttr]
 all_goals first | done | rfl
def xid (a0 : Node) : Option (Bool) := (x9c a0.attr 1).bind fun v1 => if v1 = true then if a0.attr.opaque0 = 121 then some true
 else some false
 else some false
def xjj := aI (aI (aI (@EV) (@R3)) (aI (@R69) (@R71))) (aI (aI (@DOrigin) (@DAttr)) (aI (@DNode) (@DEntry)))
set_option maxHeartbeats 2000000 in
theorem xbl (a0 : Node) (r : Bool) (hm0 : xid a0 = some r) : Ok Tryz.prog 100 [xo a0] (bool r) := by
 unfold xid at hm0
 refine okG x6y ?_
 unfold x0q
 obtain ⟨v1, h2, hm0⟩ := bsE hm0
 simp only [xjj, ↓EVd, isCall, sevalprocAttr]
 refine qc (xwl _ _ _ h2) rfl ?_
 rcases itbE hm0 with ⟨e4, hm0⟩ | ⟨e4, hm0⟩
 · rcases iteE hm0 with ⟨e6, hm0⟩ | ⟨e6, hm0⟩
   · obtain rfl := Option.some.inj hm0
     simp only [e4, e6, xjj, ↓EVd, isCall, sevalprocAttr]
     all_goals first | done | rfl
   obtain rfl := Option.some.inj hm0
   simp only [e4, e6, xjj, ↓EVd, isCall, sevalprocAttr]
   all_goals first | done | rfl
 obtain rfl := Option.some.inj hm0
 simp only [e4, xjj, ↓EVd, isCall, sevalprocAttr]
 all_goals first | done | rfl
def x7g (a0 : Stack) (a1 : Place) (a2 : ByteArray) (v1 : Node) : Int → Option (St (Int) ((Unit) ⊕ (Place × Bool)))
 | v6 => if v6 < (v1.entries.length : Int) then (ix v1.entries v6).bind fun v10 => if v10.name = a2 then (xgc a0 (⟨a1.layer, v10.ino⟩ : Place)).bind fun v16 => if v16.kind = 0 then some (.nx (wr (v6 + 1)))
 else some (.out (.inr ((⟨a1.layer, v10.ino⟩ : Place), true)))
 else some (.nx (wr (v6 + 1)))
 else some (.out (.inl ()))
def xdh (a0 : Stack) (a1 : Place) (a2 : ByteArray) : Option (Place × Bool) := (xgc a0 a1).bind fun v1 => if v1.kind = 1 then (iter (x7g a0 a1 a2 v1) big 0).bind fun o => (match o with
 | (.inl _) => some ((⟨0, 0⟩ : Place), false)
 | (.inr r) => some r)
 else some ((⟨0, 0⟩ : Place), false)
def x8b := aI (aI (aI (aI (@EV) (@R3)) (aI (@R9) (@R29))) (aI (aI (@R44) (@R65)) (aI (@R71) (@R76)))) (aI (aI (aI (@DBranch) (@DStack)) (aI (@DPlace) (@DOrigin))) (aI (aI (@DAttr) (@DNode)) (aI (@DEntry) (@mixed))))
set_option maxHeartbeats 2000000 in
theorem x8z (a0 : Stack) (a1 : Place) (a2 : ByteArray) (r : Place × Bool) (hm0 : xdh a0 a1 a2 = some r) : Ok Tryz.prog 103 [xf a0, xc a1, str a2] (.tup [xc r.1, bool r.2]) := by
 unfold xdh at hm0
 refine okG x60 ?_
 unfold x5s
 obtain ⟨v1, h2, hm0⟩ := bsE hm0
 simp only [x8b, ↓EVd, isCall, sevalprocAttr]
 refine qc (x1d _ _ _ h2) rfl ?_
 rcases iteE hm0 with ⟨e4, hm0⟩ | ⟨e4, hm0⟩
 · obtain ⟨o0, ho0, hm0⟩ := bsE hm0
   simp only [e4, x8b, ↓EVd, isCall, sevalprocAttr]
   refine cwp_cx 0 (fun s => (s.T 6 = .loc 2 2 0 0 ∧ s.H 2 = some (.row 44 2 [.agg [int 0, int 0]]) ∧ Lq 2 s.nx) ∧ (.inl ()) = o0) ?_ fun J0_0 hJ0_0 => ?_
   · rintro T0 H0 x7 ⟨kk0_0, rfl⟩
     dsimp only [Lq, Nq] at kk0_0
     try dsimp only at hm0
     have e20 : (.agg [int 0, int 0] : AV) = xc (⟨0, 0⟩ : Place) := _root_.id rfl
     obtain rfl := Option.some.inj hm0
     simp only [kk0_0, e4, e20, x8b, ↓EVd, isCall, sevalprocAttr]
     all_goals first | done | rfl | exact xb (by simp only [CLO]) | exact xe (by simp only [CLO]) (Sub.tup (Subs.cons (Sub.refl _) (Subs.cons (Sub.refl _) (Subs.nil))))
   refine cwp_lp ho0 (fun v6 s => s.T 2 = str a2 ∧ s.T 3 = .loc 0 6 0 0 ∧ s.T 4 = .loc 1 2 0 0 ∧ s.T 6 = .loc 2 2 0 0 ∧ s.T 8 = .loc 7 13 0 0 ∧ s.T 9 = int v6 ∧ s.H 0 = some (.row 29 6 [xf a0]) ∧ s.H 1 = some (.row 44 2 [xc a1]) ∧ s.H 2 = some (.row 44 2 [.agg [int 0, int 0]]) ∧ s.H 7 = some (.row 71 13 [xo v1]) ∧ Lq 0 s.nx ∧ Lq 1 s.nx ∧ Lq 2 s.nx ∧ Lq 7 s.nx) ?_ ?_
   · refine TI.here ⟨?_, ?_, ?_, ?_, ?_, ?_, ?_, ?_, ?_, ?_, ?_, ?_, ?_, ?_⟩
     all_goals try simp only [e4, x8b, ↓EVd, isCall, sevalprocAttr]
     all_goals first | omega | exact lq (by omega) | exact nq (by omega) | rfl | (congr 1; omega)
   rintro I0 v6 T0 H0 x5 st0 kk0 hm1 hI0 hO0
   dsimp only [Lq, Nq] at kk0
   simp only [x7g] at hm1
   rcases iteE hm1 with ⟨e9, hm1⟩ | ⟨e9, hm1⟩
   · obtain ⟨v10, e12, hm1⟩ := ixE xab hm1
     have e13 : (.agg [int a1.layer, int v10.ino] : AV) = xc (⟨a1.layer, v10.ino⟩ : Place) := _root_.id rfl
     rcases iteE hm1 with ⟨e15, hm1⟩ | ⟨e15, hm1⟩
     · obtain ⟨v16, h17, hm1⟩ := bsE hm1
       simp only [kk0, e4, e9, e12, e13, e15, x8b, ↓EVd, isCall, sevalprocAttr]
       refine qc (x1d _ _ _ h17) rfl ?_
       rcases iteE hm1 with ⟨e19, hm1⟩ | ⟨e19, hm1⟩
       · obtain rfl := Option.some.inj hm1
         simp only [kk0, e4, e9, e12, e13, e15, e19, x8b, ↓EVd, isCall, sevalprocAttr]
         refine TI.here (hI0 _ rfl _ ⟨?_, ?_, ?_, ?_, ?_, ?_, ?_, ?_, ?_, ?_, ?_, ?_, ?_, ?_⟩)
         all_goals try simp only [kk0, e4, e9, e12, e13, e15, e19, x8b, ↓EVd, isCall, sevalprocAttr]
         all_goals first | omega | exact lq (by omega) | exact nq (by omega) | rfl | (congr 1; omega)
       obtain rfl := Option.some.inj hm1
       obtain rfl := hO0 _ rfl
       try dsimp only at hm0
       obtain rfl := Option.some.inj hm0
       simp only [kk0, e4, e9, e12, e13, e15, e19, x8b, ↓EVd, isCall, sevalprocAttr]
       all_goals first | done | rfl | exact xb (by simp only [CLO]) | exact xe (by simp only [CLO]) (Sub.tup (Subs.cons (Sub.refl _) (Subs.cons (Sub.refl _) (Subs.nil))))
     obtain rfl := Option.some.inj hm1
     simp only [kk0, e4, e9, e12, e13, e15, x8b, ↓EVd, isCall, sevalprocAttr]
     refine TI.here (hI0 _ rfl _ ⟨?_, ?_, ?_, ?_, ?_, ?_, ?_, ?_, ?_, ?_, ?_, ?_, ?_, ?_⟩)
     all_goals try simp only [kk0, e4, e9, e12, e13, e15, x8b, ↓EVd, isCall, sevalprocAttr]
     all_goals first | omega | exact lq (by omega) | exact nq (by omega) | rfl | (congr 1; omega)
   obtain rfl := Option.some.inj hm1
   simp only [kk0, e4, e9, x8b, ↓EVd, isCall, sevalprocAttr]
   refine TI.here (hJ0_0 _ ⟨⟨?_, ?_, ?_⟩, hO0 _ rfl⟩)
   all_goals try simp only [kk0, e4, e9, x8b, ↓EVd, isCall, sevalprocAttr]
   all_goals first | omega | exact lq (by omega) | exact nq (by omega) | rfl | (congr 1; omega)
 have e21 : (.agg [int 0, int 0] : AV) = xc (⟨0, 0⟩ : Place) := _root_.id rfl
 obtain rfl := Option.some.inj hm0
 simp only [e4, e21, x8b, ↓EVd, isCall, sevalprocAttr]
 all_goals first | done | rfl | exact xb (by simp only [CLO]) | exact xe (by simp only [CLO]) (Sub.tup (Subs.cons (Sub.refl _) (Subs.cons (Sub.refl _) (Subs.nil))))
def xue (a0 : Stack) (a1 : List Place) (a2 : ByteArray) : (List Place × Int) → Option (St (List Place × Int) ((List Place) ⊕ (Int × List Place)))
 | (v3, v4) => if v4 < (a1.length : Int) then (ix a1 v4).bind fun v10 => (xdh a0 v10 a2).bind fun v13 => if (!v13.2) = true then some (.nx (v3, (wr (v4 + 1))))
 else (xgc a0 v13.1).bind fun v17 => if v17.kind = 1 then (ap 16 v3 ([v13.1] : List Place)).bind fun _ => (xid v17).bind fun v25 => if v25 = true then some (.out (.inr (1, (v3 ++ ([v13.1] : List Place)))))
 else some (.nx ((v3 ++ ([v13.1] : List Place)), (wr (v4 + 1))))
 else if 0 < (v3.length : Int) then some (.out (.inr (1, v3)))
 else if v17.kind = 2 then some (.out (.inr (v17.kind, ([v13.1] : List Place))))
 else if v17.kind = 3 then some (.out (.inr (v17.kind, ([v13.1] : List Place))))
 else some (.out (.inr (0, [])))
 else some (.out (.inl v3))
def xcd (a0 : Stack) (a1 : List Place) (a2 : ByteArray) : Option (Int × List Place) := (iter (xue a0 a1 a2) big (([] : List Place), 0)).bind fun o => (match o with
 | (.inl v7) => if 0 < (v7.length : Int) then some (1, v7)
 else some (0, [])
 | (.inr r) => some r)
def xgb := aI (aI (aI (@EV) (aI (@R3) (@R9))) (aI (aI (@R29) (@R40)) (aI (@R44) (@R71)))) (aI (aI (aI (@DBranch) (@DStack)) (aI (@DPlace) (@DOrigin))) (aI (aI (@DAttr) (@DNode)) (aI (@DEntry) (@mixed))))
set_option maxHeartbeats 2000000 in
theorem xch (a0 : Stack) (a1 : List Place) (a2 : ByteArray) (r : Int × List Place) (hm0 : xcd a0 a1 a2 = some r) : Ok Tryz.prog 74 [xf a0, .sl 2 (a1.map xc), str a2] (.tup [int r.1, .sl 2 (r.2.map xc)]) := by
 unfold xcd at hm0
 refine okG xq3 ?_
 unfold xtv
 obtain ⟨o0, ho0, hm0⟩ := bsE hm0
 simp only [xgb, ↓EVd, isCall, sevalprocAttr]
 refine cwp_cx 0 (fun s => ∃ v7 : List Place, ∃ l6 : Nat, (s.T 8 = .msl l6 v7.length ∧ s.H l6 = some (.row 44 2 (v7.map xc)) ∧ Lq l6 s.nx) ∧ (.inl v7) = o0) ?_ fun J0_0 hJ0_0 => ?_
 · rintro T0 H0 x5 ⟨v7, l6, kk0_0, rfl⟩
   dsimp only [Lq, Nq] at kk0_0
   try dsimp only at hm0
   rcases iteE hm0 with ⟨e36, hm0⟩ | ⟨e36, hm0⟩
   · obtain rfl := Option.some.inj hm0
     simp only [kk0_0, e36, xgb, ↓EVd, isCall, sevalprocAttr]
     all_goals first | done | rfl | exact xuf 9 (by simp only [kk0_0, e36, FZ, CLO, xgb, ↓EVd, isCall, sevalprocAttr]) (Sub.tup (Subs.cons (Sub.refl _) (Subs.cons (Sub.refl _) (Subs.nil))))
   obtain rfl := Option.some.inj hm0
   simp only [kk0_0, e36, xgb, ↓EVd, isCall, sevalprocAttr]
   all_goals first | done | rfl | exact xb (by simp only [CLO]) | exact xe (by simp only [CLO]) (Sub.tup (Subs.cons (Sub.refl _) (Subs.cons (Sub.nilS _) (Subs.nil))))
 refine cwp_lp ho0 (fun (v3, v4) s => ∃ l2 : Nat, s.T 1 = .sl 2 (a1.map xc) ∧ s.T 2 = str a2 ∧ s.T 3 = .loc 0 6 0 0 ∧ s.T 8 = .msl l2 v3.length ∧ s.T 9 = int v4 ∧ s.H 0 = some (.row 29 6 [xf a0]) ∧ s.H l2 = some (.row 44 2 (v3.map xc)) ∧ Lq 0 s.nx ∧ Lq l2 s.nx ∧ Nq 0 l2) ?_ ?_
 · refine TI.here ⟨3, ?_, ?_, ?_, ?_, ?_, ?_, ?_, ?_, ?_, ?_⟩
   all_goals try simp only [xgb, ↓EVd, isCall, sevalprocAttr]
   all_goals first | omega | exact lq (by omega) | exact nq (by omega) | rfl | (congr 1; omega)
 rintro I0 ⟨v3, v4⟩ T0 H0 x1 st0 ⟨l2, kk0⟩ hm1 hI0 hO0
 dsimp only [Lq, Nq] at kk0
 simp only [xue] at hm1
 rcases iteE hm1 with ⟨e9, hm1⟩ | ⟨e9, hm1⟩
 · obtain ⟨v10, e12, hm1⟩ := ixE xc hm1
   obtain ⟨v13, h14, hm1⟩ := bsE hm1
   simp only [kk0, e9, e12, xgb, ↓EVd, isCall, sevalprocAttr]
   refine qd (x8z _ _ _ _ h14) rfl ?_
   rcases itbE hm1 with ⟨e16, hm1⟩ | ⟨e16, hm1⟩
   · obtain rfl := Option.some.inj hm1
     simp only [kk0, e9, e12, e16, xgb, ↓EVd, isCall, sevalprocAttr]
     refine TI.here (hI0 _ rfl _ ⟨l2, ?_, ?_, ?_, ?_, ?_, ?_, ?_, ?_, ?_, ?_⟩)
     all_goals try simp only [kk0, e9, e12, e16, xgb, ↓EVd, isCall, sevalprocAttr]
     all_goals first | omega | exact lq (by omega) | exact nq (by omega) | rfl | (congr 1; omega)
   obtain ⟨v17, h18, hm1⟩ := bsE hm1
   simp only [kk0, e9, e12, e16, xgb, ↓EVd, isCall, sevalprocAttr]
   refine qc (x1d _ _ _ h18) rfl ?_
   rcases iteE hm1 with ⟨e20, hm1⟩ | ⟨e20, hm1⟩
   · obtain ⟨e23, hm1⟩ := apE hm1
     try simp only [ZL] at e23
     obtain ⟨v25, h26, hm1⟩ := bsE hm1
     simp only [kk0, e9, e12, e16, e20, e23, xgb, ↓EVd, isCall, sevalprocAttr]
     refine qc (xbl _ _ h26) rfl ?_
     rcases itbE hm1 with ⟨e28, hm1⟩ | ⟨e28, hm1⟩
     · obtain rfl := Option.some.inj hm1
       obtain rfl := hO0 _ rfl
       try dsimp only at hm0
       obtain rfl := Option.some.inj hm0
       simp only [kk0, e9, e12, e16, e20, e23, e28, xgb, ↓EVd, isCall, sevalprocAttr]
       all_goals first | done | rfl | exact xuf 9 (by simp only [kk0, e9, e12, e16, e20, e23, e28, FZ, CLO, xgb, ↓EVd, isCall, sevalprocAttr]) (Sub.tup (Subs.cons (Sub.refl _) (Subs.cons (Sub.refl _) (Subs.nil))))
     obtain rfl := Option.some.inj hm1
     simp only [kk0, e9, e12, e16, e20, e23, e28, xgb, ↓EVd, isCall, sevalprocAttr]
     refine TI.here (hI0 _ rfl _ ⟨(x1 + 30), ?_, ?_, ?_, ?_, ?_, ?_, ?_, ?_, ?_, ?_⟩)
     all_goals try simp only [kk0, e9, e12, e16, e20, e23, e28, xgb, ↓EVd, isCall, sevalprocAttr]
     all_goals first | omega | exact lq (by omega) | exact nq (by omega) | rfl | (congr 1; omega)
   rcases iteE hm1 with ⟨e30, hm1⟩ | ⟨e30, hm1⟩
   · obtain rfl := Option.some.inj hm1
     obtain rfl := hO0 _ rfl
     try dsimp only at hm0
     obtain rfl := Option.some.inj hm0
     simp only [kk0, e9, e12, e16, e20, e30, xgb, ↓EVd, isCall, sevalprocAttr]
     all_goals first | done | rfl | exact xuf 9 (by simp only [kk0, e9, e12, e16, e20, e30, FZ, CLO, xgb, ↓EVd, isCall, sevalprocAttr]) (Sub.tup (Subs.cons (Sub.refl _) (Subs.cons (Sub.refl _) (Subs.nil))))
   rcases iteE hm1 with ⟨e32, hm1⟩ | ⟨e32, hm1⟩
   · obtain rfl := Option.some.inj hm1
     obtain rfl := hO0 _ rfl
     try dsimp only at hm0
     obtain rfl := Option.some.inj hm0
     simp only [kk0, e9, e12, e16, e20, e30, e32, xgb, ↓EVd, isCall, sevalprocAttr]
     all_goals first | done | rfl | exact xuf 9 (by simp only [kk0, e9, e12, e16, e20, e30, e32, FZ, CLO, xgb, ↓EVd, isCall, sevalprocAttr]) (Sub.tup (Subs.cons (Sub.refl _) (Subs.cons (Sub.refl _) (Subs.nil))))
   rcases iteE hm1 with ⟨e34, hm1⟩ | ⟨e34, hm1⟩
   · obtain rfl := Option.some.inj hm1
     obtain rfl := hO0 _ rfl
     try dsimp only at hm0
     obtain rfl := Option.some.inj hm0
     simp only [kk0, e9, e12, e16, e20, e30, e32, e34, xgb, ↓EVd, isCall, sevalprocAttr]
     all_goals first | done | rfl | exact xuf 9 (by simp only [kk0, e9, e12, e16, e20, e30, e32, e34, FZ, CLO, xgb, ↓EVd, isCall, sevalprocAttr]) (Sub.tup (Subs.cons (Sub.refl _) (Subs.cons (Sub.refl _) (Subs.nil))))
   obtain rfl := Option.some.inj hm1
   obtain rfl := hO0 _ rfl
   try dsimp only at hm0
   obtain rfl := Option.some.inj hm0
   simp only [kk0, e9, e12, e16, e20, e30, e32, e34, xgb, ↓EVd, isCall, sevalprocAttr]
   all_goals first | done | rfl | exact xb (by simp only [CLO]) | exact xe (by simp only [CLO]) (Sub.tup (Subs.cons (Sub.refl _) (Subs.cons (Sub.nilS _) (Subs.nil))))
 obtain rfl := Option.some.inj hm1
 simp only [kk0, e9, xgb, ↓EVd, isCall, sevalprocAttr]
 refine TI.here (hJ0_0 _ ⟨v3, l2, ⟨?_, ?_, ?_⟩, hO0 _ rfl⟩)
 all_goals try simp only [kk0, e9, xgb, ↓EVd, isCall, sevalprocAttr]
 all_goals first | omega | exact lq (by omega) | exact nq (by omega) | rfl | (congr 1; omega)
def xpe (a0 : Stack) (a2 : List ByteArray) : (List Place × Int) → Option (St (List Place × Int) ((List Place) ⊕ (List Place × Bool)))
 | (v2, v3) => if v3 < (a2.length : Int) then (ix a2 v3).bind fun v8 => (xcd a0 v2 v8).bind fun v11 => if v11.1 = 1 then some (.nx (v11.2, (wr (v3 + 1))))
 else some (.out (.inr ([], false)))
 else some (.out (.inl v2))
def x8h (a0 : Stack) (a1 : List Place) (a2 : List ByteArray) : Option (List Place × Bool) := (iter (xpe a0 a2) big (a1, 0)).bind fun o => (match o with
 | (.inl v5) => some (v5, true)
 | (.inr r) => some r)
def xtd := aI (aI (aI (@EV) (aI (@R3) (@R9))) (aI (aI (@R29) (@R31)) (aI (@R40) (@R44)))) (aI (aI (aI (@DBranch) (@DStack)) (aI (@DPlace) (@DOrigin))) (aI (aI (@DAttr) (@DNode)) (aI (@DEntry) (@mixed))))
set_option maxHeartbeats 2000000 in
theorem x32 (a0 : Stack) (a1 : List Place) (a2 : List ByteArray) (r : List Place × Bool) (hm0 : x8h a0 a1 a2 = some r) : Ok Tryz.prog 102 [xf a0, .sl 2 (a1.map xc), .sl 1 (a2.map str)] (.tup [.sl 2 (r.1.map xc), bool r.2]) := by
 unfold x8h at hm0
 refine okG xl2 ?_
 unfold xhu
 obtain ⟨o0, ho0, hm0⟩ := bsE hm0
 simp only [xtd, ↓EVd, isCall, sevalprocAttr]
 refine cwp_cx 0 (fun s => ∃ v5 : List Place, (s.T 8 = .sl 2 (v5.map xc)) ∧ (.inl v5) = o0) ?_ fun J0_0 hJ0_0 => ?_
 · rintro T0 H0 x4 ⟨v5, kk0_0, rfl⟩
   dsimp only [Lq, Nq] at kk0_0
   try dsimp only at hm0
   obtain rfl := Option.some.inj hm0
   simp only [kk0_0, xtd, ↓EVd, isCall, sevalprocAttr]
   all_goals first | done | rfl | exact xb (by simp only [CLO]) | exact xe (by simp only [CLO]) (Sub.tup (Subs.cons (Sub.refl _) (Subs.cons (Sub.refl _) (Subs.nil))))
 refine cwp_lp ho0 (fun (v2, v3) s => s.T 2 = .sl 1 (a2.map str) ∧ s.T 3 = .loc 0 6 0 0 ∧ s.T 8 = .sl 2 (v2.map xc) ∧ s.T 9 = int v3 ∧ s.H 0 = some (.row 29 6 [xf a0]) ∧ Lq 0 s.nx) ?_ ?_
 · refine TI.here ⟨?_, ?_, ?_, ?_, ?_, ?_⟩
   all_goals try simp only [xtd, ↓EVd, isCall, sevalprocAttr]
   all_goals first | omega | exact lq (by omega) | exact nq (by omega) | rfl | (congr 1; omega)
 rintro I0 ⟨v2, v3⟩ T0 H0 x1 st0 kk0 hm1 hI0 hO0
 dsimp only [Lq, Nq] at kk0
 simp only [xpe] at hm1
 rcases iteE hm1 with ⟨e7, hm1⟩ | ⟨e7, hm1⟩
 · obtain ⟨v8, e10, hm1⟩ := ixE str hm1
   obtain ⟨v11, h12, hm1⟩ := bsE hm1
   simp only [kk0, e7, e10, xtd, ↓EVd, isCall, sevalprocAttr]
   refine qd (xch _ _ _ _ h12) rfl ?_
   rcases iteE hm1 with ⟨e14, hm1⟩ | ⟨e14, hm1⟩
   · obtain rfl := Option.some.inj hm1
     simp only [kk0, e7, e10, e14, xtd, ↓EVd, isCall, sevalprocAttr]
     refine TI.here (hI0 _ rfl _ ⟨?_, ?_, ?_, ?_, ?_, ?_⟩)
     all_goals try simp only [kk0, e7, e10, e14, xtd, ↓EVd, isCall, sevalprocAttr]
     all_goals first | omega | exact lq (by omega) | exact nq (by omega) | rfl | (congr 1; omega)
   obtain rfl := Option.some.inj hm1
   obtain rfl := hO0 _ rfl
   try dsimp only at hm0
   obtain rfl := Option.some.inj hm0
   simp only [kk0, e7, e10, e14, xtd, ↓EVd, isCall, sevalprocAttr]
   all_goals first | done | rfl | exact xb (by simp only [CLO]) | exact xe (by simp only [CLO]) (Sub.tup (Subs.cons (Sub.nilS _) (Subs.cons (Sub.refl _) (Subs.nil))))
 obtain rfl := Option.some.inj hm1
 simp only [kk0, e7, xtd, ↓EVd, isCall, sevalprocAttr]
 refine TI.here (hJ0_0 _ ⟨v2, ?_, hO0 _ rfl⟩)
 all_goals try simp only [kk0, e7, xtd, ↓EVd, isCall, sevalprocAttr]
 all_goals first | omega | exact lq (by omega) | exact nq (by omega) | rfl | (congr 1; omega)
def x3d (a0 : Stack) : (List Place × Int) → Option (St (List Place × Int) ((List Place) ⊕ (List Place)))
 | (v3, v4) => if v4 ≤ (a0.lowers.length : Int) then (xgc a0 (⟨v4, 1⟩ : Place)).bind fun v11 => if v11.kind = 1 then (ap 16 v3 ([(⟨v4, 1⟩ : Place)] : List Place)).bind fun _ => (xid v11).bind fun v19 => if v19 = true then some (.out (.inr (v3 ++ ([(⟨v4, 1⟩ : Place)] : List Place))))
 else some (.nx ((v3 ++ ([(⟨v4, 1⟩ : Place)] : List Place)), (wr (v4 + 1))))
 else some (.nx (v3, (wr (v4 + 1))))
 else some (.out (.inl v3))
def xye (a0 : Stack) : Option (List Place) := (iter (x3d a0) big (([] : List Place), 1)).bind fun o => (match o with
 | (.inl v7) => some v7
 | (.inr r) => some r)
def x3b := aI (aI (aI (@EV) (aI (@R3) (@R26))) (aI (aI (@R27) (@R29)) (aI (@R40) (@R44)))) (aI (aI (aI (@R71) (@DBranch)) (aI (@DStack) (@DPlace))) (aI (aI (@DOrigin) (@DAttr)) (aI (@DNode) (@DEntry))))
set_option maxHeartbeats 2000000 in
theorem x9l (a0 : Stack) (r : List Place) (hm0 : xye a0 = some r) : Ok Tryz.prog 70 [xf a0] (.sl 2 (r.map xc)) := by
 unfold xye at hm0
 refine okG xs0 ?_
 unfold xks
 obtain ⟨o0, ho0, hm0⟩ := bsE hm0
 simp only [x3b, ↓EVd, isCall, sevalprocAttr]
 refine cwp_cx 0 (fun s => ∃ v7 : List Place, ∃ l6 : Nat, (s.T 3 = .msl l6 v7.length ∧ s.H l6 = some (.row 44 2 (v7.map xc)) ∧ Lq l6 s.nx) ∧ (.inl v7) = o0) ?_ fun J0_0 hJ0_0 => ?_
 · rintro T0 H0 x5 ⟨v7, l6, kk0_0, rfl⟩
   dsimp only [Lq, Nq] at kk0_0
   try dsimp only at hm0
   obtain rfl := Option.some.inj hm0
   simp only [kk0_0, x3b, ↓EVd, isCall, sevalprocAttr]
   all_goals first | done | rfl | exact frzR_e (by simp only [kk0_0, FZ, CLO, x3b, ↓EVd, isCall, sevalprocAttr])
 refine cwp_lp ho0 (fun (v3, v4) s => ∃ l2 : Nat, s.T 1 = .loc 0 6 0 0 ∧ s.T 3 = .msl l2 v3.length ∧ s.T 4 = int v4 ∧ s.H 0 = some (.row 29 6 [xf a0]) ∧ s.H l2 = some (.row 44 2 (v3.map xc)) ∧ Lq 0 s.nx ∧ Lq l2 s.nx ∧ Nq 0 l2) ?_ ?_
 · refine TI.here ⟨2, ?_, ?_, ?_, ?_, ?_, ?_, ?_, ?_⟩
   all_goals try simp only [x3b, ↓EVd, isCall, sevalprocAttr]
   all_goals first | omega | exact lq (by omega) | exact nq (by omega) | rfl | (congr 1; omega)
 rintro I0 ⟨v3, v4⟩ T0 H0 x1 st0 ⟨l2, kk0⟩ hm1 hI0 hO0
 dsimp only [Lq, Nq] at kk0
 simp only [x3d] at hm1
 rcases iteE hm1 with ⟨e9, hm1⟩ | ⟨e9, hm1⟩
 · have e10 : (.agg [int v4, int 1] : AV) = xc (⟨v4, 1⟩ : Place) := _root_.id rfl
   obtain ⟨v11, h12, hm1⟩ := bsE hm1
   simp only [kk0, e9, e10, x3b, ↓EVd, isCall, sevalprocAttr]
   refine qc (x1d _ _ _ h12) rfl ?_
   rcases iteE hm1 with ⟨e14, hm1⟩ | ⟨e14, hm1⟩
   · obtain ⟨e17, hm1⟩ := apE hm1
     try simp only [ZL] at e17
     obtain ⟨v19, h20, hm1⟩ := bsE hm1
     simp only [kk0, e9, e10, e14, e17, x3b, ↓EVd, isCall, sevalprocAttr]
     refine qc (xbl _ _ h20) rfl ?_
     rcases itbE hm1 with ⟨e22, hm1⟩ | ⟨e22, hm1⟩
     · obtain rfl := Option.some.inj hm1
       obtain rfl := hO0 _ rfl
       try dsimp only at hm0
       obtain rfl := Option.some.inj hm0
       simp only [kk0, e9, e10, e14, e17, e22, x3b, ↓EVd, isCall, sevalprocAttr]
       all_goals first | done | rfl | exact frzR_e (by simp only [kk0, e9, e10, e14, e17, e22, FZ, CLO, x3b, ↓EVd, isCall, sevalprocAttr])
     obtain rfl := Option.some.inj hm1
     simp only [kk0, e9, e10, e14, e17, e22, x3b, ↓EVd, isCall, sevalprocAttr]
     refine TI.here (hI0 _ rfl _ ⟨(x1 + 20), ?_, ?_, ?_, ?_, ?_, ?_, ?_, ?_⟩)
     all_goals try simp only [kk0, e9, e10, e14, e17, e22, x3b, ↓EVd, isCall, sevalprocAttr]
     all_goals first | omega | exact lq (by omega) | exact nq (by omega) | rfl | (congr 1; omega)
   obtain rfl := Option.some.inj hm1
   simp only [kk0, e9, e10, e14, x3b, ↓EVd, isCall, sevalprocAttr]
   refine TI.here (hI0 _ rfl _ ⟨l2, ?_, ?_, ?_, ?_, ?_, ?_, ?_, ?_⟩)
   all_goals try simp only [kk0, e9, e10, e14, x3b, ↓EVd, isCall, sevalprocAttr]
   all_goals first | omega | exact lq (by omega) | exact nq (by omega) | rfl | (congr 1; omega)
 obtain rfl := Option.some.inj hm1
 simp only [kk0, e9, x3b, ↓EVd, isCall, sevalprocAttr]
 refine TI.here (hJ0_0 _ ⟨v3, l2, ⟨?_, ?_, ?_⟩, hO0 _ rfl⟩)
 all_goals try simp only [kk0, e9, x3b, ↓EVd, isCall, sevalprocAttr]
 all_goals first | omega | exact lq (by omega) | exact nq (by omega) | rfl | (congr 1; omega)
def x2f (a0 : List ByteArray) (v3 : List ByteArray) (v4 : Int) : Int → Option (St (Int) (Int))
 | v11 => if v11 < (v3.length : Int) then (ix v3 v11).bind fun v16 => (ix a0 v4).bind fun v19 => if (Op.bytesLess v16.toList v19.toList) = true then some (.nx (wr (v11 + 1)))
 else some (.out v11)
 else some (.out v11)
def xfl (v13 : Int) : (Int × List ByteArray) → Option (St (Int × List ByteArray) (List ByteArray))
 | (v39, v40) => if v13 < v39 then (ix v40 (wr (v39 - 1))).bind fun v45 => (ix v40 v39).bind fun v48 => some (.nx ((wr (v39 - 1)), (v40.set (v39).toNat v45)))
 else some (.out v40)
def xel (v13 : Int) : (Int × List ByteArray) → Option (St (Int × List ByteArray) (List ByteArray))
 | (v59, v60) => if v13 < v59 then (ix v60 (wr (v59 - 1))).bind fun v65 => (ix v60 v59).bind fun v68 => some (.nx ((wr (v59 - 1)), (v60.set (v59).toNat v65)))
 else some (.out v60)
def xve (a0 : List ByteArray) : (List ByteArray × Int) → Option (St (List ByteArray × Int) (List ByteArray))
 | (v3, v4) => if v4 < (a0.length : Int) then (iter (x2f a0 v3 v4) big 0).bind fun o => (match o with
 | v13 => if v13 < (v3.length : Int) then (ix v3 v13).bind fun v26 => (ix a0 v4).bind fun v29 => if v26 = v29 then some (.nx (v3, (wr (v4 + 1))))
 else (ap 16 v3 ([xl] : List ByteArray)).bind fun _ => (iter (xfl v13) big ((wr (((v3 ++ ([xl] : List ByteArray)).length : Int) - 1)), (v3 ++ ([xl] : List ByteArray)))).bind fun o => (match o with
 | v42 => (ix v42 v13).bind fun v51 => some (.nx ((v42.set (v13).toNat v29), (wr (v4 + 1)))))
 else (ap 16 v3 ([xl] : List ByteArray)).bind fun _ => (iter (xel v13) big ((wr (((v3 ++ ([xl] : List ByteArray)).length : Int) - 1)), (v3 ++ ([xl] : List ByteArray)))).bind fun o => (match o with
 | v62 => (ix a0 v4).bind fun v71 => (ix v62 v13).bind fun v74 => some (.nx ((v62.set (v13).toNat v71), (wr (v4 + 1))))))
 else some (.out v3)
def xrd (a0 : List ByteArray) : Option (List ByteArray) := (iter (xve a0) big (([] : List ByteArray), 0)).bind fun o => (match o with
 | v7 => some v7)
def xq := aI (aI (@EV) (@R3)) (aI (@R9) (aI (@R31) (@mixed)))
set_option maxHeartbeats 2000000 in
theorem x82 (a0 : List ByteArray) (r : List ByteArray) (hm0 : xrd a0 = some r) : Ok Tryz.prog 59 [.sl 1 (a0.map str)] (.sl 1 (r.map str)) := by
 unfold xrd at hm0
 refine okG xzs ?_
 unfold x1p
 obtain ⟨o0, ho0, hm0⟩ := bsE hm0
 simp only [xq, ↓EVd, isCall, sevalprocAttr]
 refine cwp_cx 0 (fun s => ∃ v7 : List ByteArray, ∃ l6 : Nat, (s.T 3 = .msl l6 v7.length ∧ s.H l6 = some (.row 9 1 (v7.map str)) ∧ Lq l6 s.nx) ∧ v7 = o0) ?_ fun J0_0 hJ0_0 => ?_
 · rintro T0 H0 x5 ⟨v7, l6, kk0_0, rfl⟩
   dsimp only [Lq, Nq] at kk0_0
   try dsimp only at hm0
   obtain rfl := Option.some.inj hm0
   simp only [kk0_0, xq, ↓EVd, isCall, sevalprocAttr]
   all_goals first | done | rfl | exact frzR_e (by simp only [kk0_0, FZ, CLO, xq, ↓EVd, isCall, sevalprocAttr])
 refine cwp_lp ho0 (fun (v3, v4) s => ∃ l2 : Nat, s.T 0 = .sl 1 (a0.map str) ∧ s.T 3 = .msl l2 v3.length ∧ s.T 4 = int v4 ∧ s.H l2 = some (.row 9 1 (v3.map str)) ∧ Lq l2 s.nx) ?_ ?_
 · refine TI.here ⟨1, ?_, ?_, ?_, ?_, ?_⟩
   all_goals try simp only [xq, ↓EVd, isCall, sevalprocAttr]
   all_goals first | omega | exact lq (by omega) | exact nq (by omega) | rfl | (congr 1; omega)
 rintro I0 ⟨v3, v4⟩ T0 H0 x1 st0 ⟨l2, kk0⟩ hm1 hI0 hO0
 dsimp only [Lq, Nq] at kk0
 simp only [xve] at hm1
 rcases iteE hm1 with ⟨e9, hm1⟩ | ⟨e9, hm1⟩
 · obtain ⟨o1, ho1, hm1⟩ := bsE hm1
   simp only [kk0, e9, xq, ↓EVd, isCall, sevalprocAttr]
   refine cwp_cx 2 (fun s => ∃ v13 : Int, (s.T 0 = .sl 1 (a0.map str) ∧ s.T 3 = .msl l2 v3.length ∧ s.T 4 = int v4 ∧ s.T 5 = int v13 ∧ s.H l2 = some (.row 9 1 (v3.map str)) ∧ Lq l2 s.nx) ∧ v13 = o1) ?_ fun J1_0 hJ1_0 => ?_
   · rintro T1 H1 x12 ⟨v13, kk1_0, rfl⟩
     dsimp only [Lq, Nq] at kk1_0
     try dsimp only at hm1
     rcases iteE hm1 with ⟨e25, hm1⟩ | ⟨e25, hm1⟩
     · obtain ⟨v26, e28, hm1⟩ := ixE str hm1
       obtain ⟨v29, e31, hm1⟩ := ixE str hm1
       rcases iteE hm1 with ⟨e33, hm1⟩ | ⟨e33, hm1⟩
       · obtain rfl := Option.some.inj hm1
         simp only [kk1_0, e9, e25, e28, e31, e33, xq, ↓EVd, isCall, sevalprocAttr]
         refine TI.here (hI0 _ rfl _ ⟨l2, ?_, ?_, ?_, ?_, ?_⟩)
         all_goals try simp only [kk1_0, e9, e25, e28, e31, e33, xq, ↓EVd, isCall, sevalprocAttr]
         all_goals first | omega | exact lq (by omega) | exact nq (by omega) | rfl | (congr 1; omega)
       obtain ⟨e36, hm1⟩ := apE hm1
       try simp only [ZL] at e36
       obtain ⟨o2, ho2, hm1⟩ := bsE hm1
       simp only [kk1_0, e9, e25, e28, e31, e33, e36, xq, ↓EVd, isCall, sevalprocAttr]
       refine cwp_cx 4 (fun s => ∃ v42 : List ByteArray, (s.T 0 = .sl 1 (a0.map str) ∧ s.T 3 = .msl (x12 + 17) v42.length ∧ s.T 4 = int v4 ∧ s.T 5 = int v13 ∧ s.H (x12 + 17) = some (.row 9 1 (v42.map str)) ∧ Lq (x12 + 17) s.nx) ∧ v42 = o2) ?_ fun J2_0 hJ2_0 => ?_
       · rintro T2 H2 x41 ⟨v42, kk2_0, rfl⟩
         dsimp only [Lq, Nq] at kk2_0
         try dsimp only at hm1
         obtain ⟨v51, e53, hm1⟩ := ixE str hm1
         obtain rfl := Option.some.inj hm1
         simp only [kk2_0, e9, e25, e28, e31, e33, e36, e53, xq, ↓EVd, isCall, sevalprocAttr]
         refine TI.here (hI0 _ rfl _ ⟨(x12 + 17), ?_, ?_, ?_, ?_, ?_⟩)
         all_goals try simp only [kk2_0, e9, e25, e28, e31, e33, e36, e53, xq, ↓EVd, isCall, sevalprocAttr]
         all_goals first | omega | exact lq (by omega) | exact nq (by omega) | rfl | (congr 1; omega)
       refine cwp_lp ho2 (fun (v39, v40) s => s.T 0 = .sl 1 (a0.map str) ∧ s.T 3 = .msl (x12 + 17) v40.length ∧ s.T 4 = int v4 ∧ s.T 5 = int v13 ∧ s.T 6 = int v39 ∧ s.H (x12 + 17) = some (.row 9 1 (v40.map str)) ∧ Lq (x12 + 17) s.nx) ?_ ?_
       · refine TI.here ⟨?_, ?_, ?_, ?_, ?_, ?_, ?_⟩
         all_goals try simp only [kk1_0, e9, e25, e28, e31, e33, e36, xq, ↓EVd, isCall, sevalprocAttr]
         all_goals first | omega | exact lq (by omega) | exact nq (by omega) | rfl | (congr 1; omega)
       rintro I2 ⟨v39, v40⟩ T2 H2 x38 st2 kk2 hm2 hI2 hO2
       dsimp only [Lq, Nq] at kk2
       simp only [xfl] at hm2
       rcases iteE hm2 with ⟨e44, hm2⟩ | ⟨e44, hm2⟩
       · obtain ⟨v45, e47, hm2⟩ := ixE str hm2
         obtain ⟨v48, e50, hm2⟩ := ixE str hm2
         obtain rfl := Option.some.inj hm2
         simp only [kk2, e9, e25, e28, e31, e33, e36, e44, e47, e50, xq, ↓EVd, isCall, sevalprocAttr]
         refine TI.here (hI2 _ rfl _ ⟨?_, ?_, ?_, ?_, ?_, ?_, ?_⟩)
         all_goals try simp only [kk2, e9, e25, e28, e31, e33, e36, e44, e47, e50, xq, ↓EVd, isCall, sevalprocAttr]
         all_goals first | omega | exact lq (by omega) | exact nq (by omega) | rfl | (congr 1; omega)
       obtain rfl := Option.some.inj hm2
       simp only [kk2, e9, e25, e28, e31, e33, e36, e44, xq, ↓EVd, isCall, sevalprocAttr]
       refine TI.here (hJ2_0 _ ⟨v40, ⟨?_, ?_, ?_, ?_, ?_, ?_⟩, hO2 _ rfl⟩)
       all_goals try simp only [kk2, e9, e25, e28, e31, e33, e36, e44, xq, ↓EVd, isCall, sevalprocAttr]
       all_goals first | omega | exact lq (by omega) | exact nq (by omega) | rfl | (congr 1; omega)
     obtain ⟨e56, hm1⟩ := apE hm1
     try simp only [ZL] at e56
     obtain ⟨o3, ho3, hm1⟩ := bsE hm1
     simp only [kk1_0, e9, e25, e56, xq, ↓EVd, isCall, sevalprocAttr]
     refine cwp_cx 4 (fun s => ∃ v62 : List ByteArray, (s.T 0 = .sl 1 (a0.map str) ∧ s.T 3 = .msl (x12 + 17) v62.length ∧ s.T 4 = int v4 ∧ s.T 5 = int v13 ∧ s.H (x12 + 17) = some (.row 9 1 (v62.map str)) ∧ Lq (x12 + 17) s.nx) ∧ v62 = o3) ?_ fun J3_0 hJ3_0 => ?_
     · rintro T3 H3 x61 ⟨v62, kk3_0, rfl⟩
       dsimp only [Lq, Nq] at kk3_0
       try dsimp only at hm1
       obtain ⟨v71, e73, hm1⟩ := ixE str hm1
       obtain ⟨v74, e76, hm1⟩ := ixE str hm1
       obtain rfl := Option.some.inj hm1
       simp only [kk3_0, e9, e25, e56, e73, e76, xq, ↓EVd, isCall, sevalprocAttr]
       refine TI.here (hI0 _ rfl _ ⟨(x12 + 17), ?_, ?_, ?_, ?_, ?_⟩)
       all_goals try simp only [kk3_0, e9, e25, e56, e73, e76, xq, ↓EVd, isCall, sevalprocAttr]
       all_goals first | omega | exact lq (by omega) | exact nq (by omega) | rfl | (congr 1; omega)
     refine cwp_lp ho3 (fun (v59, v60) s => s.T 0 = .sl 1 (a0.map str) ∧ s.T 3 = .msl (x12 + 17) v60.length ∧ s.T 4 = int v4 ∧ s.T 5 = int v13 ∧ s.T 6 = int v59 ∧ s.H (x12 + 17) = some (.row 9 1 (v60.map str)) ∧ Lq (x12 + 17) s.nx) ?_ ?_
     · refine TI.here ⟨?_, ?_, ?_, ?_, ?_, ?_, ?_⟩
       all_goals try simp only [kk1_0, e9, e25, e56, xq, ↓EVd, isCall, sevalprocAttr]
       all_goals first | omega | exact lq (by omega) | exact nq (by omega) | rfl | (congr 1; omega)
     rintro I3 ⟨v59, v60⟩ T3 H3 x58 st3 kk3 hm2 hI3 hO3
     dsimp only [Lq, Nq] at kk3
     simp only [xel] at hm2
     rcases iteE hm2 with ⟨e64, hm2⟩ | ⟨e64, hm2⟩
     · obtain ⟨v65, e67, hm2⟩ := ixE str hm2
       obtain ⟨v68, e70, hm2⟩ := ixE str hm2
       obtain rfl := Option.some.inj hm2
       simp only [kk3, e9, e25, e56, e64, e67, e70, xq, ↓EVd, isCall, sevalprocAttr]
       refine TI.here (hI3 _ rfl _ ⟨?_, ?_, ?_, ?_, ?_, ?_, ?_⟩)
       all_goals try simp only [kk3, e9, e25, e56, e64, e67, e70, xq, ↓EVd, isCall, sevalprocAttr]
       all_goals first | omega | exact lq (by omega) | exact nq (by omega) | rfl | (congr 1; omega)
     obtain rfl := Option.some.inj hm2
     simp only [kk3, e9, e25, e56, e64, xq, ↓EVd, isCall, sevalprocAttr]
     refine TI.here (hJ3_0 _ ⟨v60, ⟨?_, ?_, ?_, ?_, ?_, ?_⟩, hO3 _ rfl⟩)
     all_goals try simp only [kk3, e9, e25, e56, e64, xq, ↓EVd, isCall, sevalprocAttr]
     all_goals first | omega | exact lq (by omega) | exact nq (by omega) | rfl | (congr 1; omega)
   refine cwp_lp ho1 (fun v11 s => s.T 0 = .sl 1 (a0.map str) ∧ s.T 3 = .msl l2 v3.length ∧ s.T 4 = int v4 ∧ s.T 5 = int v11 ∧ s.H l2 = some (.row 9 1 (v3.map str)) ∧ Lq l2 s.nx) ?_ ?_
   · refine TI.here ⟨?_, ?_, ?_, ?_, ?_, ?_⟩
     all_goals try simp only [kk0, e9, xq, ↓EVd, isCall, sevalprocAttr]
     all_goals first | omega | exact lq (by omega) | exact nq (by omega) | rfl | (congr 1; omega)
   rintro I1 v11 T1 H1 x10 st1 kk1 hm2 hI1 hO1
   dsimp only [Lq, Nq] at kk1
   simp only [x2f] at hm2
   rcases iteE hm2 with ⟨e15, hm2⟩ | ⟨e15, hm2⟩
   · obtain ⟨v16, e18, hm2⟩ := ixE str hm2
     obtain ⟨v19, e21, hm2⟩ := ixE str hm2
     rcases itbE hm2 with ⟨e23, hm2⟩ | ⟨e23, hm2⟩
     · obtain rfl := Option.some.inj hm2
       simp only [kk1, e9, e15, e18, e21, e23, xq, ↓EVd, isCall, sevalprocAttr]
       refine TI.here (hI1 _ rfl _ ⟨?_, ?_, ?_, ?_, ?_, ?_⟩)
       all_goals try simp only [kk1, e9, e15, e18, e21, e23, xq, ↓EVd, isCall, sevalprocAttr]
       all_goals first | omega | exact lq (by omega) | exact nq (by omega) | rfl | (congr 1; omega)
     obtain rfl := Option.some.inj hm2
     simp only [kk1, e9, e15, e18, e21, e23, xq, ↓EVd, isCall, sevalprocAttr]
     refine TI.here (hJ1_0 _ ⟨v11, ⟨?_, ?_, ?_, ?_, ?_, ?_⟩, hO1 _ rfl⟩)
     all_goals try simp only [kk1, e9, e15, e18, e21, e23, xq, ↓EVd, isCall, sevalprocAttr]
     all_goals first | omega | exact lq (by omega) | exact nq (by omega) | rfl | (congr 1; omega)
   obtain rfl := Option.some.inj hm2
   simp only [kk1, e9, e15, xq, ↓EVd, isCall, sevalprocAttr]
   refine TI.here (hJ1_0 _ ⟨v11, ⟨?_, ?_, ?_, ?_, ?_, ?_⟩, hO1 _ rfl⟩)
   all_goals try simp only [kk1, e9, e15, xq, ↓EVd, isCall, sevalprocAttr]
   all_goals first | omega | exact lq (by omega) | exact nq (by omega) | rfl | (congr 1; omega)
 obtain rfl := Option.some.inj hm1
 simp only [kk0, e9, xq, ↓EVd, isCall, sevalprocAttr]
 refine TI.here (hJ0_0 _ ⟨v3, l2, ⟨?_, ?_, ?_⟩, hO0 _ rfl⟩)
 all_goals try simp only [kk0, e9, xq, ↓EVd, isCall, sevalprocAttr]
 all_goals first | omega | exact lq (by omega) | exact nq (by omega) | rfl | (congr 1; omega)
def x5d (a0 : Stack) (a1 : List Place) (v13 : Node) : (List ByteArray × Int) → Option (St (List ByteArray × Int) (List ByteArray))
 | (v17, v18) => if v18 < (v13.entries.length : Int) then if v13.kind = 1 then (ix v13.entries v18).bind fun v26 => (xcd a0 a1 v26.name).bind fun v29 => if v29.1 = 0 then some (.nx (v17, (wr (v18 + 1))))
 else (ap 16 v17 ([v26.name] : List ByteArray)).bind fun _ => some (.nx ((v17 ++ ([v26.name] : List ByteArray)), (wr (v18 + 1))))
 else some (.out v17)
 else some (.out v17)
def xif (a0 : Stack) (a1 : List Place) : (List ByteArray × Int) → Option (St (List ByteArray × Int) (List ByteArray))
 | (v3, v4) => if v4 < (a1.length : Int) then (ix a1 v4).bind fun v10 => (xgc a0 v10).bind fun v13 => (iter (x5d a0 a1 v13) big (v3, 0)).bind fun o => (match o with
 | v21 => some (.nx (v21, (wr (v4 + 1)))))
 else some (.out v3)
def x9j (a0 : Stack) (a1 : List Place) : Option (List ByteArray) := (iter (xif a0 a1) big (([] : List ByteArray), 0)).bind fun o => (match o with
 | v7 => (xrd v7).bind fun v37 => some v37)
end Go.Proofs.YtfefidkblgendaaGreatDoor.AL

/- Loops of models, in plain words. -/
set_option linter.all false
namespace Go.Proofs.YtfefidkblgendaaGreatDoor.AL
open Go Go.Proofs
theorem xxf {S ρ : Type} {B : S → Option (St S ρ)} {R : ρ → Prop} (I : Nat → S → Prop) (N : Nat) (hs : ∀ i s, I i s → i ≤ N ∧ ((∃ s', B s = some (.nx s') ∧ I (i + 1) s') ∨ ∃ r, B s = some (.out r) ∧ R r)) :
    ∀ (fuel i : Nat) (s : S), I i s → N < fuel + i → ∃ r, iter B fuel s = some r ∧ R r
  | 0, i, s, h, hf => by have := (hs i s h).1; omega
  | fuel + 1, i, s, h, hf => by
    rw [xyf]
    rcases (hs i s h).2 with ⟨s', h1, h2⟩ | ⟨r, h1, h2⟩
    · rw [h1]
      exact xxf I N hs fuel (i + 1) s' h2 (by omega)
    · rw [h1]
      exact ⟨r, rfl, h2⟩
theorem big_eq : big = 1000000000000000000 := rfl
theorem ix_at {α : Type} {xs : List α} {i : Nat} (h : i < xs.length) : ix xs (i : Int) = some xs[i] := by
  unfold ix
  rw [if_pos (by omega)]
  simp [h]
theorem ix_of {α : Type} {xs : List α} {n : Int} (h0 : 0 ≤ n) (h : n < xs.length) : ix xs n = some (xs[n.toNat]'(by omega)) := by
  unfold ix
  rw [if_pos h0]
  simp
theorem wr_suc {i : Nat} (h : i < 4611686018427387904) : wr ((i : Int) + 1) = ((i + 1 : Nat) : Int) := by rw [wr_in (by omega) (by omega)]; omega
theorem ap_of {α : Type} {k : Nat} {xs ys : List α} (h : (xs.length + ys.length) * k ≤ 140737488355328) (hk : 0 < k) : ap k xs ys = some (xs ++ ys) := by
  unfold ap
  have : xs.length + ys.length ≤ (xs.length + ys.length) * k := Nat.le_mul_of_pos_right _ hk
  have h2 : xs.length + ys.length ≤ 9223372036854775807 := by omega
  rw [if_pos ⟨h, h2⟩]
theorem xfi {α σ S ρ : Type} {B : S → Option (St S ρ)} (mk : Nat → σ → S) (xs : List α) (step : σ → α → σ) (fin : σ → ρ) (I : Nat → σ → Prop) (hs : ∀ i s (h : i < xs.length), I i s → B (mk i s) = some (.nx (mk (i + 1) (step s xs[i]))) ∧ I (i + 1) (step s xs[i]))
    (he : ∀ s, I xs.length s → B (mk xs.length s) = some (.out (fin s))) {s0 : σ} (h0 : I 0 s0) {fuel : Nat} (hf : xs.length < fuel) : iter B fuel (mk 0 s0) = some (fin (xs.foldl step s0)) ∧ I xs.length (xs.foldl step s0) := by
  have key : ∀ (d i : Nat) (s : σ) (fuel : Nat), d + i = xs.length → I i s → d < fuel → iter B fuel (mk i s) = some (fin ((xs.drop i).foldl step s)) ∧ I xs.length ((xs.drop i).foldl step s) := by
    intro d
    induction d with
    | zero =>
      intro i s fuel hd hi hf
      obtain rfl : i = xs.length := by omega
      cases fuel with
      | zero => omega
      | succ fuel =>
        rw [xyf, he s hi]
        simp [hi]
    | succ d ih =>
      intro i s fuel hd hi hf
      cases fuel with
      | zero => omega
      | succ fuel =>
        have hlt : i < xs.length := by omega
        obtain ⟨h1, h2⟩ := hs i s hlt hi
        rw [xyf, h1]
        have := ih (i + 1) _ fuel (by omega) h2 (by omega)
        rw [List.drop_eq_getElem_cons hlt]
        exact this
  have := key xs.length 0 s0 fuel (by omega) h0 hf
  simpa using this
theorem eqLoop {α : Type} [DecidableEq α] {a b : List α} {B : Int → Option (St Int (Unit ⊕ Bool))} (hl : a.length = b.length) (hlen : a.length ≤ 1000000000)
    (hB : ∀ (i : Nat) (h : i < a.length) (h' : i < b.length), B (i : Int) = if a[i] = b[i] then some (.nx ((i + 1 : Nat) : Int)) else some (.out (.inr false))) (hE : B (a.length : Int) = some (.out (.inl ()))) :
    iter B big 0 = some (if a = b then .inl () else .inr false) := by
  obtain ⟨r, h1, h2⟩ := xxf (B := B) (R := fun r => r = if a = b then .inl () else .inr false) (fun i t => t = (i : Int) ∧ i ≤ a.length ∧ ∀ j (h : j < a.length) (h' : j < b.length), j < i → a[j] = b[j]) a.length (by
    rintro i t ⟨rfl, hi, hj⟩
    refine ⟨hi, ?_⟩
    by_cases hlt : i < a.length
    · rw [hB i hlt (by omega)]
      by_cases he : a[i] = b[i]
      · rw [if_pos he]
        refine .inl ⟨_, rfl, rfl, by omega, fun j h h' hji => ?_⟩
        by_cases e : j = i
        · subst e; exact he
        · exact hj j h h' (by omega)
      · rw [if_neg he]
        refine .inr ⟨_, rfl, ?_⟩
        rw [if_neg]
        rintro rfl
        exact he rfl
    · obtain rfl : i = a.length := by omega
      rw [hE]
      refine .inr ⟨_, rfl, ?_⟩
      rw [if_pos (List.ext_getElem hl fun j h h' => hj j h h' h)]) big 0 0 ⟨rfl, by omega, fun j _ _ h => by omega⟩ (by rw [big_eq]; omega)
  rw [h1, h2]
theorem xtl {α : Type} {p : α → Option Bool} {f : α → Bool} : ∀ (l : List α), (∀ x ∈ l, p x = some (f x)) → l.length < 1000000000000 → xzg p l = some (l.any f) := by
  have key : ∀ (l : List α) (i : Nat), (∀ x ∈ l, p x = some (f x)) → ∃ r, idxM p l i = some r ∧ (0 ≤ r ↔ l.any f = true) := by
    intro l
    induction l with
    | nil => intro i _; exact ⟨-1, rfl, by simp⟩
    | cons x l ih =>
      intro i h
      unfold idxM
      rw [h x (by simp)]
      simp only [Option.bind_some]
      by_cases hx : f x = true
      · rw [if_pos hx]; exact ⟨_, rfl, by simp [hx]⟩
      · rw [if_neg hx]
        obtain ⟨r, h1, h2⟩ := ih (i + 1) (fun y hy => h y (by simp [hy]))
        exact ⟨r, h1, by rw [h2]; simp [hx]⟩
  intro l h hl
  obtain ⟨r, h1, h2⟩ := key l 0 h
  unfold xzg indexM ck
  rw [if_pos (by omega)]
  simp only [Option.bind_some]
  rw [h1]
  simp only [Option.bind_some]
  congr 1
  cases ha : l.any f with
  | true => simp [h2.2 ha]
  | false =>
    have : ¬ 0 ≤ r := fun h => by have := h2.1 h; rw [ha] at this; cases this
    simp [this]
theorem x6z {α : Type} {p : α → Option Bool} (h : ∀ x, ∃ r, p x = some r) : ∃ f : α → Bool, ∀ x, p x = some (f x) := ⟨fun x => Classical.choose (h x), fun x => Classical.choose_spec (h x)⟩
end Go.Proofs.YtfefidkblgendaaGreatDoor.AL

/- Plain laws: the guard of chapter 16's statements. -/
set_option linter.all false
namespace Go.Proofs.YtfefidkblgendaaGreatDoor.AL
open Go Go.Proofs
theorem xf8 (n : Int) : ∃ r, x0d n = some r := by
  unfold x0d
  repeat' split
  all_goals exact ⟨_, rfl⟩
theorem xxab (s : ByteArray) : ∃ r, xoc s = some r := by
  unfold xoc
  by_cases h1 : (s.size : Int) < 1
  · rw [if_pos h1]; exact ⟨_, rfl⟩
  rw [if_neg h1]
  by_cases h2 : 12 < (s.size : Int)
  · rw [if_pos h2]; exact ⟨_, rfl⟩
  rw [if_neg h2]
  split
  · exact ⟨_, rfl⟩
  split
  · exact ⟨_, rfl⟩
  obtain ⟨r, h3, _⟩ := xxf (B := x8d s) (R := fun _ => True) (fun i t => t = (i : Int) ∧ i ≤ s.size) s.size (by
    rintro i t ⟨rfl, hi⟩
    refine ⟨hi, ?_⟩
    simp only [x8d]
    by_cases hlt : i < s.size
    · rw [if_pos (by omega)]
      have hx : ixB s (i : Int) = some s[i] := by
        unfold ixB
        rw [if_pos (by omega)]
        simp [hlt]
      rw [hx]
      simp only [Option.bind_some]
      obtain ⟨r, hr⟩ := xf8 (s[i].toNat : Int)
      rw [hr]
      simp only [Option.bind_some]
      split
      · exact .inr ⟨_, rfl, trivial⟩
      · rw [wr_suc (by omega)]
        exact .inl ⟨_, rfl, rfl, by omega⟩
    · rw [if_neg (by omega)]
      exact .inr ⟨_, rfl, trivial⟩) big 0 0 ⟨rfl, by omega⟩ (by rw [big_eq]; omega)
  rw [h3]
  cases r with
  | inl u => exact ⟨_, rfl⟩
  | inr r => exact ⟨_, rfl⟩
theorem xefb (e : Entry) : ∃ r, xwh e = some r := by
  unfold xwh
  obtain ⟨r, hr⟩ := xxab e.name
  rw [hr]
  exact ⟨_, rfl⟩
structure NB (x : Node) : Prop where
  ents : x.entries.length ≤ 16
  has0 : 0 ≤ x.attr.has
  has1 : x.attr.has ≤ 31
theorem xh2 (x : Node) : ∃ r, xjg x = some r ∧ (r = true → NB x ∧ x.data.length ≤ 300) := by
  unfold xjg
  obtain ⟨r, h3, h4⟩ := xxf (B := x3h x) (R := fun r => match r with | .inl _ => True | .inr r => r = false) (fun i t => t = (i : Int) ∧ i ≤ x.entries.length ∧ ∀ (h : 0 < i) (h' : i - 1 < x.entries.length), (i : Int) - 1 ≤ x.entries[i - 1].slot ∧ x.entries[i - 1].slot < 16) 16 (by
    rintro i t ⟨rfl, hi, hp⟩
    refine ⟨?_, ?_⟩
    · by_cases h0 : 0 < i
      · have := hp h0 (by omega); omega
      · omega
    simp only [x3h]
    by_cases hlt : i < x.entries.length
    · have hi16 : i ≤ 16 := by
        by_cases h0 : 0 < i
        · have := hp h0 (by omega); omega
        · omega
      rw [if_pos (by omega), ix_at hlt]
      simp only [Option.bind_some]
      by_cases c1 : x.entries[i].slot < 0
      · rw [if_pos c1]; exact .inr ⟨_, rfl, rfl⟩
      rw [if_neg c1]
      by_cases c2 : 16 ≤ x.entries[i].slot
      · rw [if_pos c2]; exact .inr ⟨_, rfl, rfl⟩
      rw [if_neg c2]
      by_cases c3 : 0 < i
      · have hw : wr ((i : Int) - 1) = ((i - 1 : Nat) : Int) := by rw [wr_in (by omega) (by omega)]; omega
        have hlt' : i - 1 < x.entries.length := by omega
        rw [if_pos (by omega), hw, ix_at hlt']
        simp only [Option.bind_some]
        by_cases c4 : x.entries[i].slot ≤ x.entries[i - 1].slot
        · rw [if_pos c4]; exact .inr ⟨_, rfl, rfl⟩
        · rw [if_neg c4, wr_suc (by omega)]
          refine .inl ⟨_, rfl, rfl, by omega, fun h h' => ?_⟩
          have := hp c3 hlt'
          simp only [Nat.add_sub_cancel]
          omega
      · rw [if_neg (by omega), wr_suc (by omega)]
        refine .inl ⟨_, rfl, rfl, by omega, fun h h' => ?_⟩
        simp only [Nat.add_sub_cancel]
        omega
    · rw [if_neg (by omega)]
      exact .inr ⟨_, rfl, trivial⟩) big 0 0 ⟨rfl, by omega, fun h => by omega⟩ (by rw [big_eq]; omega)
  rw [h3]
  cases r with
  | inr r => simp only at h4; subst h4; exact ⟨_, rfl, fun h => by cases h⟩
  | inl u =>
    simp only [Option.bind_some]
    repeat' (first
      | exact ⟨_, rfl, fun h => by cases h⟩
      | split)
    rename_i c1 c2 c3 c4 c5 c6 c7 c8 c9
    obtain ⟨f, hf⟩ := x6z xefb
    rw [xtl (f := f) x.entries (fun y _ => hf y) (by omega)]
    exact ⟨_, rfl, fun _ => ⟨⟨by omega, c5, c6⟩, by omega⟩⟩
theorem x2cb (x : Node) : ∃ r, xjg x = some r ∧ (r = true → NB x) := by
  obtain ⟨r, h1, h2⟩ := xh2 x
  exact ⟨r, h1, fun h => (h2 h).1⟩
theorem xuq (b : Branch) (k : Int) (hk : k ≤ 1000) : ∃ r, xaf b k = some r ∧ (r = true → (b.nodes.length : Int) ≤ k ∧ ∀ x ∈ b.nodes, NB x ∧ x.data.length ≤ 300) := by
  unfold xaf
  by_cases h : (b.nodes.length : Int) ≤ k
  · rw [if_pos h]
    have ht : ∀ x, ∃ r, xfd x = some r := fun x => by
      obtain ⟨r, h1, _⟩ := x2cb x
      unfold xfd
      rw [h1]
      exact ⟨_, rfl⟩
    obtain ⟨f, hf⟩ := x6z ht
    rw [xtl (f := f) b.nodes (fun y _ => hf y) (by omega)]
    refine ⟨_, rfl, fun hr => ⟨by omega, fun x hx => ?_⟩⟩
    have hx' : f x = false := by
      simp only [Bool.not_eq_true', List.any_eq_false] at hr
      simpa using hr x hx
    obtain ⟨r, h1, h2⟩ := xh2 x
    have := hf x
    unfold xfd at this
    rw [h1, hx'] at this
    simp only [Option.bind_some, Option.some.injEq, Bool.not_eq_false'] at this
    exact h2 this
  · rw [if_neg h]
    exact ⟨_, rfl, fun h => by cases h⟩
structure SB (s : Stack) : Prop where
  low : s.lowers.length ≤ 3
  up : s.upper.nodes.length ≤ 24 ∧ ∀ x ∈ s.upper.nodes, NB x
  lows : ∀ b ∈ s.lowers, b.nodes.length ≤ 24 ∧ ∀ x ∈ b.nodes, NB x
structure SD (s : Stack) (k : Int) : Prop where
  few : (s.upper.nodes.length : Int) ≤ k
  data : ∀ x ∈ s.upper.nodes, x.data.length ≤ 300
  datas : ∀ b ∈ s.lowers, (b.nodes.length : Int) ≤ k ∧ ∀ x ∈ b.nodes, x.data.length ≤ 300
theorem xco (s : Stack) (k : Int) (hk : k ≤ 24) : ∃ r, xyd s k = some r ∧ (r = true → SB s ∧ SD s k) := by
  unfold xyd
  by_cases h : (s.lowers.length : Int) ≤ 3
  · rw [if_pos h]
    obtain ⟨r, h1, h2⟩ := xuq s.upper k (by omega)
    rw [h1]
    simp only [Option.bind_some]
    cases r with
    | false => exact ⟨false, by simp, fun h => by cases h⟩
    | true =>
      rw [if_pos rfl]
      have ht : ∀ x, ∃ r, xmd x k = some r := fun x => by
        obtain ⟨r, h1, _⟩ := xuq x k (by omega)
        unfold xmd
        rw [h1]
        exact ⟨_, rfl⟩
      obtain ⟨f, hf⟩ := x6z ht
      rw [xtl (f := f) s.lowers (fun y _ => hf y) (by omega)]
      refine ⟨_, rfl, fun hr => ?_⟩
      have hu := h2 rfl
      have hl : ∀ x ∈ s.lowers, (x.nodes.length : Int) ≤ k ∧ ∀ y ∈ x.nodes, NB y ∧ y.data.length ≤ 300 := fun x hx => by
        have hx' : f x = false := by
          simp only [Bool.not_eq_true', List.any_eq_false] at hr
          simpa using hr x hx
        obtain ⟨r, h1, h2⟩ := xuq x k (by omega)
        have := hf x
        unfold xmd at this
        rw [h1, hx'] at this
        simp only [Option.bind_some, Option.some.injEq, Bool.not_eq_false'] at this
        exact h2 this
      exact ⟨⟨by omega, ⟨by omega, fun x hx => (hu.2 x hx).1⟩, fun b hb => ⟨by have := (hl b hb).1; omega, fun x hx => ((hl b hb).2 x hx).1⟩⟩, ⟨hu.1, fun x hx => (hu.2 x hx).2, fun b hb => ⟨(hl b hb).1, fun x hx => ((hl b hb).2 x hx).2⟩⟩⟩
  · rw [if_neg h]
    exact ⟨_, rfl, fun h => by cases h⟩
end Go.Proofs.YtfefidkblgendaaGreatDoor.AL

/- slices.Sort and slices.Compact of strings: rows that are turned in place, by the kit's contracts. -/
set_option linter.all false
namespace Go.Proofs.YtfefidkblgendaaGreatDoor.AL
open Go Go.Proofs Go.RowKit Go.Sort
def bl (b : ByteArray) : List UInt8 := b.data.toList
theorem enc_bl (b : ByteArray) : encStr (bl b) = .string b := by
  cases b; simp [encStr, bl]
theorem xz3 {E : Env} : ∀ {bs : List ByteArray} {us : List Value}, VReps E (bs.map str) us → us = bs.map Value.string
  | [], us, h => by simpa only [List.map_nil, VReps] using h
  | b :: bs, us, h => by
    simp only [List.map_cons, VReps, VRep] at h
    obtain ⟨u, us', rfl, h2, rfl⟩ := h
    rw [xz3 h2]; rfl
theorem xs5 (E : Env) : ∀ (bs : List ByteArray), VReps E (bs.map str) (bs.map Value.string)
  | [] => .nil
  | b :: bs => .cons (by simp only [VRep]) (xs5 E bs)
theorem xsx : ∀ (bs : List ByteArray), flatV (bs.map Value.string) = bs.map Value.string
  | [] => rfl
  | b :: bs => by
    have := xsx bs
    simp only [flatV] at this
    simp only [flatV, List.map_cons, List.flatMap_cons, this]
    rfl
theorem x56 (bs : List ByteArray) : closeds (bs.map str) = true := by
  induction bs with
  | nil => rfl
  | cons b bs ih => simp [closeds, closed, ih]
theorem xh9 {w : World} {b T : Nat} {cur : Array Value} {bs : List ByteArray} (h : w.heap[b]? = some (.cells cur T (0, 0))) (ht : cur.toList.take bs.length = bs.map Value.string) : Holds encStr w b 0 (bs.map bl).toArray := by
  intro j hj
  have hj' : j < bs.length := by simpa using hj
  constructor
  · have e : cur.toList[j]? = some (.string bs[j]) := by
      have := congrArg (fun l => l[j]?) ht
      simp only [List.getElem?_take, List.getElem?_map, hj', if_true, List.getElem?_eq_getElem, Option.map_some] at this
      exact this
    show (match w.heap[b]? with | some (.cells c _ _) => (if (none : Option Nat).isSome then none else c[0 + j]?) | _ => none) = _
    rw [h]
    simp only [Option.isSome_none, Bool.false_eq_true, if_false, Nat.zero_add]
    rw [← Array.getElem?_toList, e]
    simp [hj', enc_bl]
  · show (match w.heap[b]? with | some (.cells _ _ (lo, hi)) => (decide (lo ≤ 0 + j) && decide (0 + j < hi)) | _ => false) = false
    rw [h]
    simp
theorem xl7 {P : Program} {f : FuncId} {l T : Nat} {bs ys : List ByteArray} (rv : Option Addr → Nat → Value) (r : AV) (hcall : callable P f = true)
    (hr : ∀ E A c, E.K l → ys.length ≤ c → (0 < ys.length → ∃ b0, A = some ⟨b0, 0, none⟩) → (∀ b c', E.L l = some (some (b, c')) → A = some ⟨b, 0, none⟩ ∧ c = c') → (E.L l = some none → ys.length = 0 ∧ c = 0) → VRep E r (rv A c))
    (hlen : ys.length ≤ bs.length)
    (hC : ∀ b c w, Holds encStr w b 0 (bs.map bl).toArray → b < w.heap.size → bs.length ≤ c → c ≤ maxLen → Calls P f #[.slice (some ⟨b, 0, none⟩) bs.length c] w fun e w' => e = .returned (rv (some ⟨b, 0, none⟩) c) ∧ ∃ (q : Nat) (os : Array Obj) (d : List (List UInt8)), w' = Sort.grow (putRow encStr (Sort.ahead w q) b 0 d.toArray) os ∧ d.length = bs.length ∧ d.take ys.length = ys.map bl)
    (hN : bs = [] → ∀ A c w, Calls P f #[.slice A 0 c] w fun e w' => e = .returned (rv A c) ∧ w' = w) : OkI P f l [.msl l bs.length] r T 1 (bs.map str) (ys.map str) := by
  refine ⟨x56 ys, fun H nx hl hH => ⟨hcall, fun C E vals hR hK hv => ?_⟩⟩
  simp only [VReps] at hv
  obtain ⟨u, us', hu, rfl, rfl⟩ := hv
  simp only [VRep] at hu
  obtain ⟨A, c0, k1, rfl, k2, k3, k4, k5⟩ := hu
  obtain ⟨p, hp, ho⟩ := hR.live hH
  cases p with
  | none =>
    simp only [ORep, List.map_eq_nil_iff] at ho
    subst ho
    obtain ⟨_, rfl⟩ := k5 hp
    have hy : ys = [] := List.eq_nil_of_length_eq_zero (by simpa using hlen)
    subst hy
    refine (hN rfl A 0 E.w).mono ?_
    rintro e w' ⟨rfl, rfl⟩
    have hH' : upd H l (some (AO.row T 1 [])) = H := by
      funext j; simp only [upd_at]; split
      · rename_i e; subst e; exact hH.symm
      · rfl
    exact ⟨_, r, H, nx, E, rfl, ⟨rfl, hH, fun _ _ _ => rfl⟩, hr E A 0 k1 (Nat.zero_le _) (fun h => absurd h (by simp)) (fun b c e => by rw [hp] at e; cases e) (fun _ => ⟨rfl, rfl⟩), hR, Stab.refl E, Nat.le_refl _, fun l h => .inl h, rfl⟩
  | some bc =>
    obtain ⟨b, c⟩ := bc
    obtain ⟨rfl, rfl⟩ := k4 b c hp
    simp only [ORep] at ho
    obtain ⟨cur, us, h1, h2, h3, h4, h5, h6, h7⟩ := ho
    have hus := xz3 h2
    subst hus
    simp only [List.length_map, Nat.mul_one] at h4 h6 h7
    rw [xsx] at h7
    have hold := hR.old l b c0 hp
    refine (hC b c0 E.w (xh9 h1 h7) hold.2 h4 h5).mono ?_
    rintro e w' ⟨rfl, q, os, d, rfl, hd1, hd2⟩
    -- the block
    let cur' := putCells encStr 0 d.toArray cur
    have hblk : (putRow encStr (Sort.ahead E.w q) b 0 d.toArray).heap[b]? = some (.cells cur' T (0, 0)) := by
      show (E.w.heap.modify b _)[b]? = _
      rw [Array.getElem?_modify, if_pos rfl, h1]; rfl
    have honly : Only E.w (putRow encStr (Sort.ahead E.w q) b 0 d.toArray) b := ⟨rfl, rfl, rfl, by show (E.w.heap.modify b _).size = _; simp, fun k hk => by show (E.w.heap.modify b _)[k]? = _; rw [Array.getElem?_modify, if_neg (by omega)]⟩
    have htake : cur'.toList.take ys.length = ys.map Value.string := by
      apply List.ext_getElem?
      intro j
      rw [List.getElem?_take]
      by_cases hj : j < ys.length
      · rw [if_pos hj]
        have hjd : j < d.length := by omega
        have hjc : j < cur.size := by omega
        have e1 : (d.take ys.length)[j]? = (ys.map bl)[j]? := by rw [hd2]
        rw [List.getElem?_take, if_pos hj, List.getElem?_eq_getElem hjd, List.getElem?_map, List.getElem?_eq_getElem hj] at e1
        have e2 : d[j] = bl ys[j] := by simpa using e1
        have e3 : cur'.toList[j]? = some (encStr d[j]) := by
          rw [Array.getElem?_toList]
          show (putCells encStr 0 d.toArray cur)[j]? = _
          unfold putCells
          rw [Array.getElem?_mapIdx, Array.getElem?_eq_getElem hjc]
          simp [hjd]
        rw [e3, e2, enc_bl, List.getElem?_map, List.getElem?_eq_getElem hj]
        rfl
      · rw [if_neg hj, List.getElem?_eq_none (by simpa using hj)]
    have hrep : ORep { E with w := putRow encStr (Sort.ahead E.w q) b 0 d.toArray } (some (b, c0)) (.row T 1 (ys.map str)) := by
      simp only [ORep]
      refine ⟨cur', ys.map Value.string, hblk, xs5 _ ys, fun u hu => ?_, by simp only [List.length_map]; omega, h5, by show (putCells encStr 0 d.toArray cur).size = _; unfold putCells; rw [Array.size_mapIdx]; simpa using h6, by simp only [List.length_map, Nat.mul_one]; rw [xsx]; exact htake⟩
      obtain ⟨y, _, rfl⟩ := List.mem_map.1 hu
      exact ⟨rfl, by simp [Value.cells, Value.oneCell']⟩
    have hR1 := hR.only hp honly _ hrep
    have hS1 := Env.only_stab hR hp honly
    have hB : Below (putRow encStr (Sort.ahead E.w q) b 0 d.toArray).heap.size (putRow encStr (Sort.ahead E.w q) b 0 d.toArray) (Sort.grow (putRow encStr (Sort.ahead E.w q) b 0 d.toArray) os) :=
      ⟨rfl, rfl, rfl, by show _ ≤ (_ ++ os).size; simp, fun k hk => by show (_ ++ os)[k]? = _; rw [Array.getElem?_append_left hk]⟩
    obtain ⟨hR2, hS2⟩ := xfk hR1 hB
    let E1 : Env := { E with w := putRow encStr (Sort.ahead E.w q) b 0 d.toArray }
    let E2 : Env := { E1 with w := Sort.grow (putRow encStr (Sort.ahead E.w q) b 0 d.toArray) os, Z := fun b' => E1.Z b' ∨ (E1.w.heap.size ≤ b' ∧ b' < (Sort.grow (putRow encStr (Sort.ahead E.w q) b 0 d.toArray) os).heap.size) }
    refine ⟨_, r, _, nx, E2, rfl, ⟨rfl, upd_same _ _ _, fun j _ hj => upd_ne _ _ hj⟩, hr E2 _ c0 k1 (by omega) (fun h => ⟨b, rfl⟩) (fun b' c' e => ?_) (fun e => ?_), hR2, hS1.trans hS2, Nat.le_refl _, fun l h => .inl h, rfl⟩
    · have e' : E.L l = some (some (b', c')) := e
      rw [hp] at e'
      injection e' with e'
      injection e' with e'
      injection e' with e1 e2
      subst e1; subst e2
      exact ⟨rfl, rfl⟩
    · have e' : E.L l = some none := e
      rw [hp] at e'
      injection e' with e'
      cases e'
def leB (x y : ByteArray) : Bool := decide (bl x ≤ bl y)
def insB (x : ByteArray) : List ByteArray → List ByteArray
  | [] => [x]
  | y :: l => if leB x y = true then x :: y :: l else y :: insB x l
def sortB : List ByteArray → List ByteArray
  | [] => []
  | x :: l => insB x (sortB l)
theorem ba_ext {x y : ByteArray} (h : bl x = bl y) : x = y := by
  cases x; cases y
  simp only [bl] at h
  congr 1
  exact Array.toList_inj.1 h
theorem xp9 (x y : ByteArray) : leB x y = true ∨ leB y x = true := by
  simp only [leB, decide_eq_true_eq]
  exact List.le_total _ _
theorem xvab {x y z : ByteArray} (h1 : leB x y = true) (h2 : leB y z = true) : leB x z = true := by
  simp only [leB, decide_eq_true_eq] at *
  exact List.le_trans h1 h2
theorem xfv (x : ByteArray) : ∀ l, (insB x l).Perm (x :: l)
  | [] => List.Perm.refl _
  | y :: l => by
    unfold insB
    split
    · exact List.Perm.refl _
    · exact ((xfv x l).cons y).trans (List.Perm.swap x y l)
theorem x4g : ∀ l, (sortB l).Perm l
  | [] => List.Perm.refl _
  | x :: l => (xfv x (sortB l)).trans ((x4g l).cons x)
theorem xow (x : ByteArray) : ∀ l, l.Pairwise (fun a b => leB a b = true) → (insB x l).Pairwise (fun a b => leB a b = true)
  | [], _ => by simp [insB]
  | y :: l, h => by
    unfold insB
    rw [List.pairwise_cons] at h
    split
    · rename_i hx
      refine List.pairwise_cons.2 ⟨fun z hz => ?_, List.pairwise_cons.2 h⟩
      rcases List.mem_cons.1 hz with rfl | hz
      · exact hx
      · exact xvab hx (h.1 z hz)
    · rename_i hx
      refine List.pairwise_cons.2 ⟨fun z hz => ?_, xow x l h.2⟩
      rcases List.mem_cons.1 ((xfv x l).mem_iff.1 hz) with rfl | hz
      · exact (xp9 _ _).resolve_left hx
      · exact h.1 z hz
theorem x3p : ∀ l, (sortB l).Pairwise (fun a b => leB a b = true)
  | [] => List.Pairwise.nil
  | x :: l => xow x _ (x3p l)
theorem x05 (l : List ByteArray) : (l.map bl).mergeSort (fun x y => decide (x ≤ y)) = (sortB l).map bl := by
  have h1 : ((l.map bl).mergeSort (fun x y => decide (x ≤ y))).Pairwise (fun a b => a ≤ b) := by
    have := List.pairwise_mergeSort (le := fun x y : List UInt8 => decide (x ≤ y)) (fun a b c h1 h2 => by simp only [decide_eq_true_eq] at *; exact List.le_trans h1 h2) (fun a b => by simpa using List.le_total a b) (l.map bl)
    exact this.imp (by intro a b h; simpa using h)
  have h2 : ((sortB l).map bl).Pairwise (fun a b => a ≤ b) := by
    rw [List.pairwise_map]
    exact (x3p l).imp (by intro a b h; simpa [leB] using h)
  refine List.Perm.eq_of_pairwise (le := fun a b : List UInt8 => a ≤ b) (fun a b _ _ h1 h2 => List.le_antisymm h1 h2) h1 h2 ?_
  exact (List.mergeSort_perm _ _).trans (((x4g l).map bl).symm)
theorem xul (d : Array (List UInt8)) (x : List UInt8) : ∀ m, x ∈ Lib.compactUpTo d m ↔ ∃ j, j < m ∧ d[j]! = x
  | 0 => by simp [Lib.compactUpTo]
  | m + 1 => by
    rw [Lib.compactUpTo_succ, List.mem_append, xul d x m]
    constructor
    · rintro (⟨j, h1, h2⟩ | h)
      · exact ⟨j, by omega, h2⟩
      · split at h
        · exact ⟨m, by omega, (List.mem_singleton.1 h).symm⟩
        · cases h
    · rintro ⟨j, h1, h2⟩
      by_cases hj : j < m
      · exact .inl ⟨j, hj, h2⟩
      · have : j = m := by omega
        subst this
        by_cases hk : Lib.keeps d j = true
        · rw [if_pos hk]; exact .inr (by simp [h2])
        · unfold Lib.keeps at hk
          simp only [decide_eq_true_eq, not_or, ne_eq, Decidable.not_not] at hk
          exact .inl ⟨j - 1, by omega, by rw [← hk.2]; exact h2⟩
theorem xfn (d : Array (List UInt8)) (hs : ∀ i j, i < j → j < d.size → d[i]! ≤ d[j]!) : ∀ m, m ≤ d.size → (Lib.compactUpTo d m).Pairwise (· < ·)
  | 0, _ => by simp [Lib.compactUpTo]
  | m + 1, hm => by
    rw [Lib.compactUpTo_succ, List.pairwise_append]
    refine ⟨xfn d hs m (by omega), by split <;> simp, fun x hx y hy => ?_⟩
    split at hy
    · rename_i hk
      obtain rfl : y = d[m]! := by simpa using hy
      obtain ⟨j, hj, rfl⟩ := (xul d x m).1 hx
      unfold Lib.keeps at hk
      simp only [decide_eq_true_eq, ne_eq] at hk
      have hne : ¬ d[m]! = d[m - 1]! := hk.resolve_left (by omega)
      have h1 : d[m - 1]! ≤ d[m]! := hs _ _ (by omega) (by omega)
      have h2 : d[j]! ≤ d[m - 1]! := by
        by_cases e : j = m - 1
        · rw [e]; exact List.le_refl _
        · exact hs _ _ (by omega) (by omega)
      have h3 : d[m - 1]! < d[m]! := by
        rcases Decidable.em (d[m - 1]! < d[m]!) with h | h
        · exact h
        · exact absurd (List.le_antisymm (List.not_lt.1 h) h1) hne
      exact List.lt_of_le_of_lt h2 h3
    · cases hy
def unB (l : List UInt8) : ByteArray := ⟨l.toArray⟩
theorem bl_unB (l : List UInt8) : bl (unB l) = l := by simp [bl, unB]
theorem unB_bl (b : ByteArray) : unB (bl b) = b := by cases b; simp [bl, unB]
def cmpB (l : List ByteArray) : List ByteArray := (Lib.compact (l.map bl)).map unB
theorem xa7 (l : List ByteArray) : (cmpB l).map bl = Lib.compact (l.map bl) := by
  unfold cmpB
  rw [List.map_map]
  conv => rhs; rw [← List.map_id (Lib.compact (l.map bl))]
  exact List.map_congr_left fun x _ => bl_unB x
theorem xs6 (zs : List (List UInt8)) : (Lib.compact zs).length ≤ zs.length := by
  unfold Lib.compact Lib.compactUpTo
  rw [List.length_map]
  exact Nat.le_trans (List.length_filter_le _ _) (by simp)
theorem x3x (l : List ByteArray) : (cmpB l).length ≤ l.length := by
  have := xs6 (l.map bl)
  unfold cmpB
  simpa using this
theorem xwcb (l : List ByteArray) (x : ByteArray) : x ∈ cmpB l ↔ x ∈ l := by
  have h1 : x ∈ cmpB l ↔ bl x ∈ Lib.compact (l.map bl) := by
    unfold cmpB
    rw [List.mem_map]
    constructor
    · rintro ⟨y, hy, rfl⟩; rwa [bl_unB]
    · intro h; exact ⟨_, h, unB_bl x⟩
  rw [h1]
  unfold Lib.compact
  rw [xul]
  constructor
  · rintro ⟨j, hj, h⟩
    have hj' : j < l.length := by simpa using hj
    have : bl l[j] = bl x := by simpa [hj'] using h
    exact ba_ext this ▸ List.getElem_mem hj'
  · intro h
    obtain ⟨j, hj, rfl⟩ := List.getElem_of_mem h
    exact ⟨j, by simpa using hj, by simp [hj]⟩
theorem xw6 (l : List ByteArray) (h : l.Pairwise (fun a b => leB a b = true)) : (cmpB l).Pairwise (fun a b => bl a < bl b) := by
  have := xfn (l.map bl).toArray (fun i j hij hj => by
    have hj' : j < l.length := by simpa using hj
    have hi' : i < l.length := by omega
    have := List.pairwise_iff_getElem.1 h i j hi' hj' hij
    simpa [leB, hi', hj'] using this) (l.map bl).length (by simp)
  have h2 : ((cmpB l).map bl).Pairwise (· < ·) := by
    rw [xa7]; exact this
  rwa [List.pairwise_map] at h2
def x6b (xs : List ByteArray) : Option (List ByteArray) := (ck (xs.length < 4611686018427387904)).bind fun _ => some (sortB xs)
def xrc (xs : List ByteArray) : Option (List ByteArray) := (ck (xs.length ≤ 9223372036854775807)).bind fun _ => some (cmpB xs)
theorem xddb {T l : Nat} (xs r : List ByteArray) (h : x6b xs = some r) : OkI Tryz.prog 68 l [.msl l xs.length] (.tup []) T 1 (xs.map str) (r.map str) := by
  unfold x6b at h
  obtain ⟨h1, h2⟩ := ckE h
  obtain rfl := Option.some.inj h2
  refine xl7 (fun _ _ => .tuple #[]) _ (by kernel_rfl) (fun E A c _ _ _ _ _ => by simp only [VRep, VReps]; exact ⟨[], rfl, rfl⟩) (by rw [(x4g xs).length_eq]; exact Nat.le_refl _) ?_ ?_
  · intro b c w hH hb hc hm
    have := Tryz.slices_Sort_string b 0 c (xs.map bl) w hH hb (by simpa using h1)
    rw [List.length_map] at this
    refine this.mono ?_
    rintro e w' ⟨rfl, n, os, rfl⟩
    refine ⟨rfl, n, os, _, rfl, by rw [List.length_mergeSort]; simp, ?_⟩
    rw [x05, List.take_of_length_le (by simp)]
  · rintro rfl A c w
    exact Tryz.slices_Sort_string_none A c w
theorem xv9 {xs r : List ByteArray} (h : x6b xs = some r) : xs.length = r.length := by
  unfold x6b at h
  obtain ⟨h1, h2⟩ := ckE h
  obtain rfl := Option.some.inj h2
  exact (x4g xs).length_eq.symm
theorem xr6 {T l : Nat} (xs r : List ByteArray) (h : xrc xs = some r) : OkI Tryz.prog 69 l [.msl l xs.length] (.msl l r.length) T 1 (xs.map str) (r.map str) := by
  unfold xrc at h
  obtain ⟨h1, h2⟩ := ckE h
  obtain rfl := Option.some.inj h2
  have hcl : (Lib.compact (xs.map bl)).length = (cmpB xs).length := by simp [cmpB]
  refine xl7 (fun A c => .slice A (cmpB xs).length c) _ (by kernel_rfl) (fun E A c k1 k2 k3 k4 k5 => by simp only [VRep]; exact ⟨A, c, k1, rfl, k3, k2, k4, k5⟩) (x3x xs) ?_ ?_
  · intro b c w hH hb hc hm
    have := Tryz.slices_Compact_string b 0 c (xs.map bl) w hH (by simpa using h1) (by simpa using hc)
    rw [List.length_map, hcl] at this
    refine this.mono ?_
    rintro e w' ⟨rfl, q, rfl⟩
    refine ⟨rfl, q, #[], _, (Sort.grow_empty _).symm, ?_, ?_⟩
    · have := x3x xs
      simp [hcl]; omega
    · rw [List.take_append_of_le_length (by omega), xa7, List.take_of_length_le (by omega)]
  · rintro rfl A c w
    exact Tryz.slices_Compact_string_empty A c w
end Go.Proofs.YtfefidkblgendaaGreatDoor.AL

/- Models of functions, and that the functions are as their models: written by gen.py. -/
set_option linter.all false
set_option maxRecDepth 100000
namespace Go.Proofs.YtfefidkblgendaaGreatDoor.AL
open Go Go.Proofs
def x0c (a0 : List ByteArray) : Option (List ByteArray) := (cloneM 16 a0).bind fun v1 => (x6b v1).bind fun v3 => (xrc v3).bind fun v6 => some v6
def xoh := aI (@EV) (aI (@R9) (@R31))
end Go.Proofs.YtfefidkblgendaaGreatDoor.AL

/- name.Sort hands back a row of its own. -/
set_option linter.all false
namespace Go.Proofs.YtfefidkblgendaaGreatDoor.AL
open Go Go.Proofs
theorem x4n (a0 : List ByteArray) (r : List ByteArray) (hm0 : x0c a0 = some r) : OkO Tryz.prog 34 [.sl 1 (a0.map str)] 9 1 (r.map str) := by
 refine ⟨x56 r, fun H nx => ?_⟩
 unfold x0c at hm0
 refine acallF x13 (by simp) ?_
 unfold xtw
 obtain ⟨v1, h2, hm0⟩ := bsE hm0
 simp only [xoh, ↓EVd, isCall, sevalprocAttr]
 refine qco (xqab x0l xsc aggN_9 xlz zero_9 rfl (by decide) str _ _ h2 (fun z => by simp only [CLO])) rfl ?_
 obtain ⟨v3, h4, hm0⟩ := bsE hm0
 have e5 := xv9 h4
 simp only [xoh, ↓EVd, isCall, sevalprocAttr]
 refine qci (xddb (T := 9) _ _ h4) rfl (by omega) (by simp only [FZ, CLO, xoh, ↓EVd, isCall, sevalprocAttr]) (fun _ _ => by simp only [inK, inKs]) ?_
 obtain ⟨v6, h7, hm0⟩ := bsE hm0
 simp only [e5, xoh, ↓EVd, isCall, sevalprocAttr]
 refine qci (xr6 (T := 9) _ _ h7) rfl (by omega) (by simp only [e5, FZ, CLO, xoh, ↓EVd, isCall, sevalprocAttr]) (fun _ hh => by simpa only [inK] using hh) ?_
 obtain rfl := Option.some.inj hm0
 simp only [e5, xoh, ↓EVd, isCall, sevalprocAttr]
 refine .inr ⟨nx + 4, by omega, rfl, if_pos rfl, fun j hj => ?_⟩
 have hne : ¬ j = nx + 4 := by omega
 rw [if_neg hne, if_neg hne, if_neg hne]
end Go.Proofs.YtfefidkblgendaaGreatDoor.AL

