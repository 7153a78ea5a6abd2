/- What any node of any stack should say of copies, and which say otherwise, is what the document says: part 42 of 51. -/
import Derived.Laws.RangeAny
import Derived.Lib.SplitLaws
import Derived.Lib.Join
import Derived.Test.YtfefidkblgendaaGreatDoorA41
set_option linter.all false
/- Models of functions, and that the functions are as their models: written by gen.py. -/
set_option linter.all false
set_option maxRecDepth 100000
namespace Go.Proofs.YtfefidkblgendaaGreatDoor.AL
open Go Go.Proofs
def xzb (a0 : List Branch) (a1 : Place) : Option (Node) := if a1.layer < 1 then some (⟨0, 0, 0, 0, [], [], (⟨0, 0, xl, (⟨0, 0, 0⟩ : Origin), 0⟩ : Attr)⟩ : Node)
 else if (a0.length : Int) < a1.layer then some (⟨0, 0, 0, 0, [], [], (⟨0, 0, xl, (⟨0, 0, 0⟩ : Origin), 0⟩ : Attr)⟩ : Node)
 else (ix a0 (wr (a1.layer - 1))).bind fun v5 => if a1.ino < 1 then some (⟨0, 0, 0, 0, [], [], (⟨0, 0, xl, (⟨0, 0, 0⟩ : Origin), 0⟩ : Attr)⟩ : Node)
 else if (v5.nodes.length : Int) < a1.ino then some (⟨0, 0, 0, 0, [], [], (⟨0, 0, xl, (⟨0, 0, 0⟩ : Origin), 0⟩ : Attr)⟩ : Node)
 else (ix v5.nodes (wr (a1.ino - 1))).bind fun v12 => some v12
def x1e := aI (aI (aI (@EV) (aI (@R3) (@R24))) (aI (@R26) (aI (@R44) (@R71)))) (aI (aI (@R98) (aI (@DBranch) (@DPlace))) (aI (aI (@DOrigin) (@DAttr)) (aI (@DNode) (@DEntry))))
set_option maxHeartbeats 2000000 in
theorem xzf (a0 : List Branch) (a1 : Place) (r : Node) (hm0 : xzb a0 a1 = some r) : Ok Tryz.prog 64 [.sl 1 (a0.map xcb), xc a1] (xo r) := by
 unfold xzb at hm0
 refine okG xtu ?_
 unfold x8n
 rcases iteE hm0 with ⟨e2, hm0⟩ | ⟨e2, hm0⟩
 · obtain rfl := Option.some.inj hm0
   simp only [e2, x1e, ↓EVd, isCall, sevalprocAttr]
   all_goals first | done | rfl | exact xb (by simp only [CLO]) | exact xe (by simp only [CLO]) (Sub.agg (Subs.cons (Sub.refl _) (Subs.cons (Sub.refl _) (Subs.cons (Sub.refl _) (Subs.cons (Sub.refl _) (Subs.cons (Sub.nilS _) (Subs.cons (Sub.nilS _) (Subs.cons (Sub.refl _) (Subs.cons (Sub.refl _) (Subs.cons (Sub.refl _) (Subs.cons (Sub.refl _) (Subs.cons (Sub.refl _) (Subs.cons (Sub.refl _) (Subs.cons (Sub.refl _) (Subs.nil)))))))))))))))
 rcases iteE hm0 with ⟨e4, hm0⟩ | ⟨e4, hm0⟩
 · obtain rfl := Option.some.inj hm0
   simp only [e2, e4, x1e, ↓EVd, isCall, sevalprocAttr]
   all_goals first | done | rfl | exact xb (by simp only [CLO]) | exact xe (by simp only [CLO]) (Sub.agg (Subs.cons (Sub.refl _) (Subs.cons (Sub.refl _) (Subs.cons (Sub.refl _) (Subs.cons (Sub.refl _) (Subs.cons (Sub.nilS _) (Subs.cons (Sub.nilS _) (Subs.cons (Sub.refl _) (Subs.cons (Sub.refl _) (Subs.cons (Sub.refl _) (Subs.cons (Sub.refl _) (Subs.cons (Sub.refl _) (Subs.cons (Sub.refl _) (Subs.cons (Sub.refl _) (Subs.nil)))))))))))))))
 obtain ⟨v5, e7, hm0⟩ := ixE xcb hm0
 rcases iteE hm0 with ⟨e9, hm0⟩ | ⟨e9, hm0⟩
 · obtain rfl := Option.some.inj hm0
   simp only [e2, e4, e7, e9, x1e, ↓EVd, isCall, sevalprocAttr]
   all_goals first | done | rfl | exact xb (by simp only [CLO]) | exact xe (by simp only [CLO]) (Sub.agg (Subs.cons (Sub.refl _) (Subs.cons (Sub.refl _) (Subs.cons (Sub.refl _) (Subs.cons (Sub.refl _) (Subs.cons (Sub.nilS _) (Subs.cons (Sub.nilS _) (Subs.cons (Sub.refl _) (Subs.cons (Sub.refl _) (Subs.cons (Sub.refl _) (Subs.cons (Sub.refl _) (Subs.cons (Sub.refl _) (Subs.cons (Sub.refl _) (Subs.cons (Sub.refl _) (Subs.nil)))))))))))))))
 rcases iteE hm0 with ⟨e11, hm0⟩ | ⟨e11, hm0⟩
 · obtain rfl := Option.some.inj hm0
   simp only [e2, e4, e7, e9, e11, x1e, ↓EVd, isCall, sevalprocAttr]
   all_goals first | done | rfl | exact xb (by simp only [CLO]) | exact xe (by simp only [CLO]) (Sub.agg (Subs.cons (Sub.refl _) (Subs.cons (Sub.refl _) (Subs.cons (Sub.refl _) (Subs.cons (Sub.refl _) (Subs.cons (Sub.nilS _) (Subs.cons (Sub.nilS _) (Subs.cons (Sub.refl _) (Subs.cons (Sub.refl _) (Subs.cons (Sub.refl _) (Subs.cons (Sub.refl _) (Subs.cons (Sub.refl _) (Subs.cons (Sub.refl _) (Subs.cons (Sub.refl _) (Subs.nil)))))))))))))))
 obtain ⟨v12, e14, hm0⟩ := ixE xo hm0
 obtain rfl := Option.some.inj hm0
 simp only [e2, e4, e7, e9, e11, e14, x1e, ↓EVd, isCall, sevalprocAttr]
 all_goals first | done | rfl | exact xb (by simp only [CLO])
def xhd (a0 : Node) : Option (Bool) := if 0 ≤ a0.attr.has then if (bAnd .i64 a0.attr.has 1) = 0 then some false
 else if a0.attr.opaque0 = 121 then some true
 else some false
 else some false
def x4i := aI (aI (aI (@EV) (@R3)) (aI (@R69) (@R71))) (aI (aI (@DOrigin) (@DAttr)) (aI (@DNode) (@DEntry)))
set_option maxHeartbeats 2000000 in
theorem xiq (a0 : Node) (r : Bool) (hm0 : xhd a0 = some r) : Ok Tryz.prog 97 [xo a0] (bool r) := by
 unfold xhd at hm0
 refine okG xkz ?_
 unfold xyq
 rcases iteE hm0 with ⟨e2, hm0⟩ | ⟨e2, hm0⟩
 · rcases iteE hm0 with ⟨e4, hm0⟩ | ⟨e4, hm0⟩
   · obtain rfl := Option.some.inj hm0
     simp only [e2, e4, x4i, ↓EVd, isCall, sevalprocAttr]
     all_goals first | done | rfl
   rcases iteE hm0 with ⟨e6, hm0⟩ | ⟨e6, hm0⟩
   · obtain rfl := Option.some.inj hm0
     simp only [e2, e4, e6, x4i, ↓EVd, isCall, sevalprocAttr]
     all_goals first | done | rfl
   obtain rfl := Option.some.inj hm0
   simp only [e2, e4, e6, x4i, ↓EVd, isCall, sevalprocAttr]
   all_goals first | done | rfl
 obtain rfl := Option.some.inj hm0
 simp only [e2, x4i, ↓EVd, isCall, sevalprocAttr]
 all_goals first | done | rfl
def xte (a0 : List Branch) (a1 : Place) (a2 : ByteArray) (v1 : Node) : Int → Option (St (Int) ((Unit) ⊕ (Place × Node)))
 | v6 => if v6 < (v1.entries.length : Int) then (ix v1.entries v6).bind fun v10 => (xzb a0 (⟨a1.layer, v10.ino⟩ : Place)).bind fun v14 => if v10.name = a2 then if v14.kind = 0 then some (.nx (wr (v6 + 1)))
 else some (.out (.inr ((⟨a1.layer, v10.ino⟩ : Place), v14)))
 else some (.nx (wr (v6 + 1)))
 else some (.out (.inl ()))
def xee (a0 : List Branch) (a1 : Place) (a2 : ByteArray) : Option (Place × Node) := (xzb a0 a1).bind fun v1 => if v1.kind = 1 then (iter (xte a0 a1 a2 v1) big 0).bind fun o => (match o with
 | (.inl _) => some ((⟨0, 0⟩ : Place), (⟨0, 0, 0, 0, [], [], (⟨0, 0, xl, (⟨0, 0, 0⟩ : Origin), 0⟩ : Attr)⟩ : Node))
 | (.inr r) => some r)
 else some ((⟨0, 0⟩ : Place), (⟨0, 0, 0, 0, [], [], (⟨0, 0, xl, (⟨0, 0, 0⟩ : Origin), 0⟩ : Attr)⟩ : Node))
def xlb := aI (aI (aI (aI (@EV) (@R3)) (aI (@R9) (@R26))) (aI (aI (@R44) (@R65)) (aI (@R71) (@R76)))) (aI (aI (aI (@R98) (@DBranch)) (aI (@DPlace) (@DOrigin))) (aI (aI (@DAttr) (@DNode)) (aI (@DEntry) (@mixed))))
set_option maxHeartbeats 2000000 in
theorem xlt (a0 : List Branch) (a1 : Place) (a2 : ByteArray) (r : Place × Node) (hm0 : xee a0 a1 a2 = some r) : Ok Tryz.prog 96 [.sl 1 (a0.map xcb), xc a1, str a2] (.tup [xc r.1, xo r.2]) := by
 unfold xee at hm0
 refine okG xft ?_
 unfold xmn
 obtain ⟨v1, h2, hm0⟩ := bsE hm0
 simp only [xlb, ↓EVd, isCall, sevalprocAttr]
 refine qc (xzf _ _ _ h2) rfl ?_
 rcases iteE hm0 with ⟨e4, hm0⟩ | ⟨e4, hm0⟩
 · obtain ⟨o0, ho0, hm0⟩ := bsE hm0
   simp only [e4, xlb, ↓EVd, isCall, sevalprocAttr]
   refine cwp_cx 0 (fun s => (s.T 6 = .loc 1 2 0 0 ∧ s.T 7 = .loc 2 13 0 0 ∧ s.H 1 = some (.row 44 2 [.agg [int 0, int 0]]) ∧ s.H 2 = some (.row 71 13 [.agg [int 0, int 0, int 0, int 0, nilS, nilS, int 0, int 0, str xl, int 0, int 0, int 0, int 0]]) ∧ Lq 1 s.nx ∧ Lq 2 s.nx) ∧ (.inl ()) = o0) ?_ fun J0_0 hJ0_0 => ?_
   · rintro T0 H0 x7 ⟨kk0_0, rfl⟩
     dsimp only [Lq, Nq] at kk0_0
     try dsimp only at hm0
     have e20 : (.agg [int 0, int 0] : AV) = xc (⟨0, 0⟩ : Place) := _root_.id rfl
     obtain rfl := Option.some.inj hm0
     simp only [kk0_0, e4, e20, xlb, ↓EVd, isCall, sevalprocAttr]
     all_goals first | done | rfl | exact xb (by simp only [CLO]) | exact xe (by simp only [CLO]) (Sub.tup (Subs.cons (Sub.refl _) (Subs.cons (Sub.agg (Subs.cons (Sub.refl _) (Subs.cons (Sub.refl _) (Subs.cons (Sub.refl _) (Subs.cons (Sub.refl _) (Subs.cons (Sub.nilS _) (Subs.cons (Sub.nilS _) (Subs.cons (Sub.refl _) (Subs.cons (Sub.refl _) (Subs.cons (Sub.refl _) (Subs.cons (Sub.refl _) (Subs.cons (Sub.refl _) (Subs.cons (Sub.refl _) (Subs.cons (Sub.refl _) (Subs.nil))))))))))))))) (Subs.nil))))
   refine cwp_lp ho0 (fun v6 s => s.T 0 = .sl 1 (a0.map xcb) ∧ s.T 2 = str a2 ∧ s.T 4 = .loc 0 2 0 0 ∧ s.T 6 = .loc 1 2 0 0 ∧ s.T 7 = .loc 2 13 0 0 ∧ s.T 22 = .sl 3 (v1.entries.map xab) ∧ s.T 23 = int (v1.entries.length : Int) ∧ s.T 24 = int v6 ∧ s.H 0 = some (.row 44 2 [xc a1]) ∧ s.H 1 = some (.row 44 2 [.agg [int 0, int 0]]) ∧ s.H 2 = some (.row 71 13 [.agg [int 0, int 0, int 0, int 0, nilS, nilS, int 0, int 0, str xl, int 0, int 0, int 0, int 0]]) ∧ Lq 0 s.nx ∧ Lq 1 s.nx ∧ Lq 2 s.nx) ?_ ?_
   · refine TI.here ⟨?_, ?_, ?_, ?_, ?_, ?_, ?_, ?_, ?_, ?_, ?_, ?_, ?_, ?_⟩
     all_goals try simp only [e4, xlb, ↓EVd, isCall, sevalprocAttr]
     all_goals first | omega | exact lq (by omega) | exact nq (by omega) | rfl | (congr 1; omega)
   rintro I0 v6 T0 H0 x5 st0 kk0 hm1 hI0 hO0
   dsimp only [Lq, Nq] at kk0
   simp only [xte] at hm1
   rcases iteE hm1 with ⟨e9, hm1⟩ | ⟨e9, hm1⟩
   · obtain ⟨v10, e12, hm1⟩ := ixE xab hm1
     have e13 : (.agg [int a1.layer, int v10.ino] : AV) = xc (⟨a1.layer, v10.ino⟩ : Place) := _root_.id rfl
     obtain ⟨v14, h15, hm1⟩ := bsE hm1
     simp only [kk0, e4, e9, e12, e13, xlb, ↓EVd, isCall, sevalprocAttr]
     refine qc (xzf _ _ _ h15) rfl ?_
     rcases iteE hm1 with ⟨e17, hm1⟩ | ⟨e17, hm1⟩
     · rcases iteE hm1 with ⟨e19, hm1⟩ | ⟨e19, hm1⟩
       · obtain rfl := Option.some.inj hm1
         simp only [kk0, e4, e9, e12, e13, e17, e19, xlb, ↓EVd, isCall, sevalprocAttr]
         refine TI.here (hI0 _ rfl _ ⟨?_, ?_, ?_, ?_, ?_, ?_, ?_, ?_, ?_, ?_, ?_, ?_, ?_, ?_⟩)
         all_goals try simp only [kk0, e4, e9, e12, e13, e17, e19, xlb, ↓EVd, isCall, sevalprocAttr]
         all_goals first | omega | exact lq (by omega) | exact nq (by omega) | rfl | (congr 1; omega)
       simp only [kk0, e4, e9, e12, e13, e17, e19, xlb, ↓EVd, isCall, sevalprocAttr]
       refine fineI [([(x5 + 10)], []), ([(x5 + 15)], []), ([], [1]), ([], [2])] rfl (by simp only [MT, sevalprocAttr]; first | done | omega) ?_
       obtain rfl := Option.some.inj hm1
       obtain rfl := hO0 _ rfl
       try dsimp only at hm0
       obtain rfl := Option.some.inj hm0
       simp only [kk0, e4, e9, e12, e13, e17, e19, xlb, ↓EVd, isCall, sevalprocAttr]
       all_goals first | done | rfl | exact xb (by simp only [CLO]) | exact xe (by simp only [CLO]) (Sub.tup (Subs.cons (Sub.refl _) (Subs.cons (Sub.refl _) (Subs.nil))))
     obtain rfl := Option.some.inj hm1
     simp only [kk0, e4, e9, e12, e13, e17, xlb, ↓EVd, isCall, sevalprocAttr]
     refine TI.here (hI0 _ rfl _ ⟨?_, ?_, ?_, ?_, ?_, ?_, ?_, ?_, ?_, ?_, ?_, ?_, ?_, ?_⟩)
     all_goals try simp only [kk0, e4, e9, e12, e13, e17, xlb, ↓EVd, isCall, sevalprocAttr]
     all_goals first | omega | exact lq (by omega) | exact nq (by omega) | rfl | (congr 1; omega)
   obtain rfl := Option.some.inj hm1
   simp only [kk0, e4, e9, xlb, ↓EVd, isCall, sevalprocAttr]
   refine TI.here (hJ0_0 _ ⟨⟨?_, ?_, ?_, ?_, ?_, ?_⟩, hO0 _ rfl⟩)
   all_goals try simp only [kk0, e4, e9, xlb, ↓EVd, isCall, sevalprocAttr]
   all_goals first | omega | exact lq (by omega) | exact nq (by omega) | rfl | (congr 1; omega)
 have e21 : (.agg [int 0, int 0] : AV) = xc (⟨0, 0⟩ : Place) := _root_.id rfl
 obtain rfl := Option.some.inj hm0
 simp only [e4, e21, xlb, ↓EVd, isCall, sevalprocAttr]
 all_goals first | done | rfl | exact xb (by simp only [CLO]) | exact xe (by simp only [CLO]) (Sub.tup (Subs.cons (Sub.refl _) (Subs.cons (Sub.agg (Subs.cons (Sub.refl _) (Subs.cons (Sub.refl _) (Subs.cons (Sub.refl _) (Subs.cons (Sub.refl _) (Subs.cons (Sub.nilS _) (Subs.cons (Sub.nilS _) (Subs.cons (Sub.refl _) (Subs.cons (Sub.refl _) (Subs.cons (Sub.refl _) (Subs.cons (Sub.refl _) (Subs.cons (Sub.refl _) (Subs.cons (Sub.refl _) (Subs.cons (Sub.refl _) (Subs.nil))))))))))))))) (Subs.nil))))
def xre (a0 : Stack) (a1 : List Place) (a2 : ByteArray) : (List Place × Int) → Option (St (List Place × Int) ((List Place) ⊕ ((List Place) ⊕ (Int × List Place))))
 | (v3, v4) => if v4 < (a1.length : Int) then (ix a1 v4).bind fun v13 => (xee a0.lowers v13 a2).bind fun v16 => if v16.2.kind = 0 then some (.nx (v3, (wr (v4 + 1))))
 else if v16.2.kind = 1 then (ap 16 v3 ([v16.1] : List Place)).bind fun _ => (xhd v16.2).bind fun v26 => if (!v26) = true then some (.nx ((v3 ++ ([v16.1] : List Place)), (wr (v4 + 1))))
 else some (.out (.inr (.inl (v3 ++ ([v16.1] : List Place)))))
 else if v16.2.kind = 2 then if (v3.length : Int) = 0 then some (.out (.inr (.inr (v16.2.kind, ([v16.1] : List Place)))))
 else some (.out (.inr (.inl v3)))
 else if v16.2.kind = 3 then if (v3.length : Int) = 0 then some (.out (.inr (.inr (v16.2.kind, ([v16.1] : List Place)))))
 else some (.out (.inr (.inl v3)))
 else some (.out (.inr (.inl v3)))
 else some (.out (.inl v3))
def xhe (a0 : Stack) (a1 : List Place) (a2 : ByteArray) : Option (Int × List Place) := (iter (xre a0 a1 a2) big ([], 0)).bind fun o => (match o with
 | (.inl v7) => if (v7.length : Int) = 0 then some (0, [])
 else some (1, v7)
 | (.inr (.inl v10)) => if (v10.length : Int) = 0 then some (0, [])
 else some (1, v10)
 | (.inr (.inr r)) => some r)
def xr := aI (aI (aI (aI (@EV) (@R3)) (aI (@R9) (@R26))) (aI (aI (@R27) (@R29)) (aI (@R40) (aI (@R44) (@R71))))) (aI (aI (aI (@R98) (@DBranch)) (aI (@DStack) (@DPlace))) (aI (aI (@DOrigin) (@DAttr)) (aI (@DNode) (aI (@DEntry) (@mixed)))))
set_option maxHeartbeats 2000000 in
theorem x6j (a0 : Stack) (a1 : List Place) (a2 : ByteArray) (r : Int × List Place) (hm0 : xhe a0 a1 a2 = some r) : Ok Tryz.prog 63 [xf a0, .sl 2 (a1.map xc), str a2] (.tup [int r.1, .sl 2 (r.2.map xc)]) := by
 unfold xhe at hm0
 refine okG xo2 ?_
 unfold x1u
 simp only [xr, ↓EVd, isCall, sevalprocAttr]
 refine xldb 0 rfl ?_
 intro F0 hF0
 obtain ⟨o1, ho1, hm0⟩ := bsE hm0
 simp only [xr, ↓EVd, isCall, sevalprocAttr]
 refine cwp_cx 0 (fun s => ∃ v7 : List Place, ∃ l6 : Nat, (s.T 9 = .msl l6 v7.length ∧ s.H l6 = some (.row 44 2 (v7.map xc)) ∧ Lq l6 s.nx) ∧ (.inl v7) = o1) ?_ fun J1_0 hJ1_0 => ?_
 · rintro T1 H1 x5 ⟨v7, l6, kk1_0, rfl⟩
   dsimp only [Lq, Nq] at kk1_0
   try dsimp only at hm0
   rcases iteE hm0 with ⟨e39, hm0⟩ | ⟨e39, hm0⟩
   · obtain rfl := Option.some.inj hm0
     simp only [kk1_0, e39, xr, ↓EVd, isCall, sevalprocAttr]
     all_goals first | done | rfl | exact xb (by simp only [CLO]) | exact xe (by simp only [CLO]) (Sub.tup (Subs.cons (Sub.refl _) (Subs.cons (Sub.nilS _) (Subs.nil))))
   obtain rfl := Option.some.inj hm0
   simp only [kk1_0, e39, xr, ↓EVd, isCall, sevalprocAttr]
   all_goals first | done | rfl | exact xuf 9 (by simp only [kk1_0, e39, FZ, CLO, xr, ↓EVd, isCall, sevalprocAttr]) (Sub.tup (Subs.cons (Sub.refl _) (Subs.cons (Sub.refl _) (Subs.nil))))
 refine cwp_cg 0 (fun s => ∃ v10 : List Place, ∃ l9 : Nat, (s.T 9 = .msl l9 v10.length ∧ s.H l9 = some (.row 44 2 (v10.map xc)) ∧ Lq l9 s.nx) ∧ (.inr (.inl v10)) = o1) ?_ fun J1_1 hJ1_1 => ?_
 · rintro T1 H1 x8 ⟨v10, l9, kk1_1, rfl⟩
   dsimp only [Lq, Nq] at kk1_1
   try dsimp only at hm0
   simp only [kk1_1, xr, ↓EVd, isCall, sevalprocAttr]
   refine hF0 _ ?_
   rcases iteE hm0 with ⟨e41, hm0⟩ | ⟨e41, hm0⟩
   · obtain rfl := Option.some.inj hm0
     simp only [kk1_1, e41, xr, ↓EVd, isCall, sevalprocAttr]
     all_goals first | done | rfl | exact xb (by simp only [CLO]) | exact xe (by simp only [CLO]) (Sub.tup (Subs.cons (Sub.refl _) (Subs.cons (Sub.nilS _) (Subs.nil))))
   obtain rfl := Option.some.inj hm0
   simp only [kk1_1, e41, xr, ↓EVd, isCall, sevalprocAttr]
   all_goals first | done | rfl | exact xuf 9 (by simp only [kk1_1, e41, FZ, CLO, xr, ↓EVd, isCall, sevalprocAttr]) (Sub.tup (Subs.cons (Sub.refl _) (Subs.cons (Sub.refl _) (Subs.nil))))
 refine cwp_lp ho1 (fun (v3, v4) s => ∃ l2 : Nat, s.T 2 = str a2 ∧ s.T 8 = .sl 1 (a0.lowers.map xcb) ∧ s.T 9 = .msl l2 v3.length ∧ s.T 16 = .sl 2 (a1.map xc) ∧ s.T 17 = int (a1.length : Int) ∧ s.T 18 = int v4 ∧ s.H l2 = some (.row 44 2 (v3.map xc)) ∧ Lq l2 s.nx) ?_ ?_
 · refine TI.by (Tn.adopt 9 44 2 (by simp only [xr, ↓EVd, isCall, sevalprocAttr])) ?_
   refine TI.here ⟨10, ?_, ?_, ?_, ?_, ?_, ?_, ?_, ?_⟩
   all_goals try simp only [xr, ↓EVd, isCall, sevalprocAttr]
   all_goals first | omega | exact lq (by omega) | exact nq (by omega) | rfl | (congr 1; omega)
 rintro I1 ⟨v3, v4⟩ T1 H1 x1 st1 ⟨l2, kk1⟩ hm1 hI1 hO1
 dsimp only [Lq, Nq] at kk1
 simp only [xre] at hm1
 rcases iteE hm1 with ⟨e12, hm1⟩ | ⟨e12, hm1⟩
 · obtain ⟨v13, e15, hm1⟩ := ixE xc hm1
   obtain ⟨v16, h17, hm1⟩ := bsE hm1
   simp only [kk1, e12, e15, xr, ↓EVd, isCall, sevalprocAttr]
   refine qc (xlt _ _ _ _ h17) rfl ?_
   rcases iteE hm1 with ⟨e19, hm1⟩ | ⟨e19, hm1⟩
   · obtain rfl := Option.some.inj hm1
     simp only [kk1, e12, e15, e19, xr, ↓EVd, isCall, sevalprocAttr]
     refine TI.here (hI1 _ rfl _ ⟨l2, ?_, ?_, ?_, ?_, ?_, ?_, ?_, ?_⟩)
     all_goals try simp only [kk1, e12, e15, e19, xr, ↓EVd, isCall, sevalprocAttr]
     all_goals first | omega | exact lq (by omega) | exact nq (by omega) | rfl | (congr 1; omega)
   rcases iteE hm1 with ⟨e21, hm1⟩ | ⟨e21, hm1⟩
   · obtain ⟨e24, hm1⟩ := apE hm1
     try simp only [ZL] at e24
     obtain ⟨v26, h27, hm1⟩ := bsE hm1
     simp only [kk1, e12, e15, e19, e21, e24, xr, ↓EVd, isCall, sevalprocAttr]
     refine qc (xiq _ _ h27) rfl ?_
     rcases itbE hm1 with ⟨e29, hm1⟩ | ⟨e29, hm1⟩
     · obtain rfl := Option.some.inj hm1
       simp only [kk1, e12, e15, e19, e21, e24, e29, xr, ↓EVd, isCall, sevalprocAttr]
       refine TI.here (hI1 _ rfl _ ⟨(x1 + 25), ?_, ?_, ?_, ?_, ?_, ?_, ?_, ?_⟩)
       all_goals try simp only [kk1, e12, e15, e19, e21, e24, e29, xr, ↓EVd, isCall, sevalprocAttr]
       all_goals first | omega | exact lq (by omega) | exact nq (by omega) | rfl | (congr 1; omega)
     obtain rfl := Option.some.inj hm1
     simp only [kk1, e12, e15, e19, e21, e24, e29, xr, ↓EVd, isCall, sevalprocAttr]
     refine TI.here (hJ1_1 _ ⟨(v3 ++ ([v16.1] : List Place)), (x1 + 25), ⟨?_, ?_, ?_⟩, hO1 _ rfl⟩)
     all_goals try simp only [kk1, e12, e15, e19, e21, e24, e29, xr, ↓EVd, isCall, sevalprocAttr]
     all_goals first | omega | exact lq (by omega) | exact nq (by omega) | rfl | (congr 1; omega)
   rcases iteE hm1 with ⟨e31, hm1⟩ | ⟨e31, hm1⟩
   · rcases iteE hm1 with ⟨e33, hm1⟩ | ⟨e33, hm1⟩
     · obtain rfl := Option.some.inj hm1
       obtain rfl := hO1 _ rfl
       try dsimp only at hm0
       obtain rfl := Option.some.inj hm0
       simp only [kk1, e12, e15, e19, e21, e31, e33, xr, ↓EVd, isCall, sevalprocAttr]
       all_goals first | done | rfl | exact xuf 9 (by simp only [kk1, e12, e15, e19, e21, e31, e33, FZ, CLO, xr, ↓EVd, isCall, sevalprocAttr]) (Sub.tup (Subs.cons (Sub.refl _) (Subs.cons (Sub.refl _) (Subs.nil))))
     obtain rfl := Option.some.inj hm1
     simp only [kk1, e12, e15, e19, e21, e31, e33, xr, ↓EVd, isCall, sevalprocAttr]
     refine TI.here (hJ1_1 _ ⟨v3, l2, ⟨?_, ?_, ?_⟩, hO1 _ rfl⟩)
     all_goals try simp only [kk1, e12, e15, e19, e21, e31, e33, xr, ↓EVd, isCall, sevalprocAttr]
     all_goals first | omega | exact lq (by omega) | exact nq (by omega) | rfl | (congr 1; omega)
   rcases iteE hm1 with ⟨e35, hm1⟩ | ⟨e35, hm1⟩
   · rcases iteE hm1 with ⟨e37, hm1⟩ | ⟨e37, hm1⟩
     · obtain rfl := Option.some.inj hm1
       obtain rfl := hO1 _ rfl
       try dsimp only at hm0
       obtain rfl := Option.some.inj hm0
       simp only [kk1, e12, e15, e19, e21, e31, e35, e37, xr, ↓EVd, isCall, sevalprocAttr]
       all_goals first | done | rfl | exact xuf 9 (by simp only [kk1, e12, e15, e19, e21, e31, e35, e37, FZ, CLO, xr, ↓EVd, isCall, sevalprocAttr]) (Sub.tup (Subs.cons (Sub.refl _) (Subs.cons (Sub.refl _) (Subs.nil))))
     obtain rfl := Option.some.inj hm1
     simp only [kk1, e12, e15, e19, e21, e31, e35, e37, xr, ↓EVd, isCall, sevalprocAttr]
     refine TI.here (hJ1_1 _ ⟨v3, l2, ⟨?_, ?_, ?_⟩, hO1 _ rfl⟩)
     all_goals try simp only [kk1, e12, e15, e19, e21, e31, e35, e37, xr, ↓EVd, isCall, sevalprocAttr]
     all_goals first | omega | exact lq (by omega) | exact nq (by omega) | rfl | (congr 1; omega)
   obtain rfl := Option.some.inj hm1
   simp only [kk1, e12, e15, e19, e21, e31, e35, xr, ↓EVd, isCall, sevalprocAttr]
   refine TI.here (hJ1_1 _ ⟨v3, l2, ⟨?_, ?_, ?_⟩, hO1 _ rfl⟩)
   all_goals try simp only [kk1, e12, e15, e19, e21, e31, e35, xr, ↓EVd, isCall, sevalprocAttr]
   all_goals first | omega | exact lq (by omega) | exact nq (by omega) | rfl | (congr 1; omega)
 obtain rfl := Option.some.inj hm1
 simp only [kk1, e12, xr, ↓EVd, isCall, sevalprocAttr]
 refine TI.here (hJ1_0 _ ⟨v3, l2, ⟨?_, ?_, ?_⟩, hO1 _ rfl⟩)
 all_goals try simp only [kk1, e12, xr, ↓EVd, isCall, sevalprocAttr]
 all_goals first | omega | exact lq (by omega) | exact nq (by omega) | rfl | (congr 1; omega)
def xse (a0 : Stack) (a2 : List ByteArray) : (List Place × Int) → Option (St (List Place × Int) ((List Place) ⊕ (List Place × Bool)))
 | (v4, v5) => if v5 < (a2.length : Int) then (ix a2 v5).bind fun v10 => (xhe a0 v4 v10).bind fun v13 => if v13.1 = 1 then some (.nx (v13.2, (wr (v5 + 1))))
 else some (.out (.inr ([], false)))
 else some (.out (.inl v4))
def xai (a0 : Stack) (a1 : List Place) (a2 : List ByteArray) : Option (List Place × Bool) := (cloneM 16 a1).bind fun v1 => (iter (xse a0 a2) big (v1, 0)).bind fun o => (match o with
 | (.inl v7) => some (v7, true)
 | (.inr r) => some r)
def xad := aI (aI (aI (@EV) (aI (@R3) (@R9))) (aI (aI (@R29) (@R31)) (aI (@R40) (@R44)))) (aI (aI (@DBranch) (aI (@DStack) (@DPlace))) (aI (aI (@DOrigin) (@DAttr)) (aI (@DNode) (@DEntry))))
set_option maxHeartbeats 2000000 in
theorem xu2 (a0 : Stack) (a1 : List Place) (a2 : List ByteArray) (r : List Place × Bool) (hm0 : xai a0 a1 a2 = some r) : Ok Tryz.prog 95 [xf a0, .sl 2 (a1.map xc), .sl 1 (a2.map str)] (.tup [.sl 2 (r.1.map xc), bool r.2]) := by
 unfold xai at hm0
 refine okG xg3 ?_
 unfold xav
 obtain ⟨v1, h2, hm0⟩ := bsE hm0
 simp only [xad, ↓EVd, isCall, sevalprocAttr]
 refine qc (xxg x8i x3i x9i xrw x9v rfl (by decide) xc _ _ h2 (fun z => by simp only [CLO])) rfl ?_
 obtain ⟨o0, ho0, hm0⟩ := bsE hm0
 simp only [xad, ↓EVd, isCall, sevalprocAttr]
 refine cwp_cx 0 (fun s => ∃ v7 : List Place, (s.T 8 = .sl 2 (v7.map xc)) ∧ (.inl v7) = o0) ?_ fun J0_0 hJ0_0 => ?_
 · rintro T0 H0 x6 ⟨v7, kk0_0, rfl⟩
   dsimp only [Lq, Nq] at kk0_0
   try dsimp only at hm0
   obtain rfl := Option.some.inj hm0
   simp only [kk0_0, xad, ↓EVd, isCall, sevalprocAttr]
   all_goals first | done | rfl | exact xb (by simp only [CLO]) | exact xe (by simp only [CLO]) (Sub.tup (Subs.cons (Sub.refl _) (Subs.cons (Sub.refl _) (Subs.nil))))
 refine cwp_lp ho0 (fun (v4, v5) s => s.T 3 = .loc 0 6 0 0 ∧ s.T 8 = .sl 2 (v4.map xc) ∧ s.T 15 = .sl 1 (a2.map str) ∧ s.T 16 = int (a2.length : Int) ∧ s.T 17 = int v5 ∧ s.H 0 = some (.row 29 6 [xf a0]) ∧ Lq 0 s.nx) ?_ ?_
 · refine TI.here ⟨?_, ?_, ?_, ?_, ?_, ?_, ?_⟩
   all_goals try simp only [xad, ↓EVd, isCall, sevalprocAttr]
   all_goals first | omega | exact lq (by omega) | exact nq (by omega) | rfl | (congr 1; omega)
 rintro I0 ⟨v4, v5⟩ T0 H0 x3 st0 kk0 hm1 hI0 hO0
 dsimp only [Lq, Nq] at kk0
 simp only [xse] at hm1
 rcases iteE hm1 with ⟨e9, hm1⟩ | ⟨e9, hm1⟩
 · obtain ⟨v10, e12, hm1⟩ := ixE str hm1
   obtain ⟨v13, h14, hm1⟩ := bsE hm1
   simp only [kk0, e9, e12, xad, ↓EVd, isCall, sevalprocAttr]
   refine qc (x6j _ _ _ _ h14) rfl ?_
   rcases iteE hm1 with ⟨e16, hm1⟩ | ⟨e16, hm1⟩
   · obtain rfl := Option.some.inj hm1
     simp only [kk0, e9, e12, e16, xad, ↓EVd, isCall, sevalprocAttr]
     refine TI.here (hI0 _ rfl _ ⟨?_, ?_, ?_, ?_, ?_, ?_, ?_⟩)
     all_goals try simp only [kk0, e9, e12, e16, xad, ↓EVd, isCall, sevalprocAttr]
     all_goals first | omega | exact lq (by omega) | exact nq (by omega) | rfl | (congr 1; omega)
   obtain rfl := Option.some.inj hm1
   obtain rfl := hO0 _ rfl
   try dsimp only at hm0
   obtain rfl := Option.some.inj hm0
   simp only [kk0, e9, e12, e16, xad, ↓EVd, isCall, sevalprocAttr]
   all_goals first | done | rfl | exact xb (by simp only [CLO]) | exact xe (by simp only [CLO]) (Sub.tup (Subs.cons (Sub.nilS _) (Subs.cons (Sub.refl _) (Subs.nil))))
 obtain rfl := Option.some.inj hm1
 simp only [kk0, e9, xad, ↓EVd, isCall, sevalprocAttr]
 refine TI.here (hJ0_0 _ ⟨v4, ?_, hO0 _ rfl⟩)
 all_goals try simp only [kk0, e9, xad, ↓EVd, isCall, sevalprocAttr]
 all_goals first | omega | exact lq (by omega) | exact nq (by omega) | rfl | (congr 1; omega)
def x2d (a0 : Stack) : (List Place × Int) → Option (St (List Place × Int) (List Place))
 | (v3, v4) => if v4 < (a0.lowers.length : Int) then (xzb a0.lowers (⟨(wr (v4 + 1)), 1⟩ : Place)).bind fun v11 => if v11.kind = 1 then (ap 16 v3 ([(⟨(wr (v4 + 1)), 1⟩ : Place)] : List Place)).bind fun _ => (xhd v11).bind fun v19 => if v19 = true then some (.out (v3 ++ ([(⟨(wr (v4 + 1)), 1⟩ : Place)] : List Place)))
 else some (.nx ((v3 ++ ([(⟨(wr (v4 + 1)), 1⟩ : Place)] : List Place)), (wr (v4 + 1))))
 else some (.nx (v3, (wr (v4 + 1))))
 else some (.out v3)
def xxe (a0 : Stack) : Option (List Place) := (iter (x2d a0) big ([], 0)).bind fun o => (match o with
 | v7 => some v7)
def xvb := aI (aI (aI (aI (@EV) (@R3)) (aI (@R26) (@R27))) (aI (aI (@R29) (@R40)) (aI (@R44) (@R71)))) (aI (aI (aI (@R98) (@DBranch)) (aI (@DStack) (@DPlace))) (aI (aI (@DOrigin) (@DAttr)) (aI (@DNode) (@DEntry))))
set_option maxHeartbeats 2000000 in
theorem x3l (a0 : Stack) (r : List Place) (hm0 : xxe a0 = some r) : Ok Tryz.prog 90 [xf a0] (.sl 2 (r.map xc)) := by
 unfold xxe at hm0
 refine okG xa0 ?_
 unfold xts
 obtain ⟨o0, ho0, hm0⟩ := bsE hm0
 simp only [xvb, ↓EVd, isCall, sevalprocAttr]
 refine cwp_cx 0 (fun s => ∃ v7 : List Place, ∃ l6 : Nat, (s.T 4 = .msl l6 v7.length ∧ s.H l6 = some (.row 44 2 (v7.map xc)) ∧ Lq l6 s.nx) ∧ v7 = o0) ?_ fun J0_0 hJ0_0 => ?_
 · rintro T0 H0 x5 ⟨v7, l6, kk0_0, rfl⟩
   dsimp only [Lq, Nq] at kk0_0
   try dsimp only at hm0
   obtain rfl := Option.some.inj hm0
   simp only [kk0_0, xvb, ↓EVd, isCall, sevalprocAttr]
   all_goals first | done | rfl | exact frzR_e (by simp only [kk0_0, FZ, CLO, xvb, ↓EVd, isCall, sevalprocAttr])
 refine cwp_lp ho0 (fun (v3, v4) s => ∃ l2 : Nat, s.T 3 = .sl 1 (a0.lowers.map xcb) ∧ s.T 4 = .msl l2 v3.length ∧ s.T 11 = int (a0.lowers.length : Int) ∧ s.T 12 = int v4 ∧ s.H l2 = some (.row 44 2 (v3.map xc)) ∧ Lq l2 s.nx) ?_ ?_
 · refine TI.by (Tn.adopt 4 44 2 (by simp only [xvb, ↓EVd, isCall, sevalprocAttr])) ?_
   refine TI.here ⟨9, ?_, ?_, ?_, ?_, ?_, ?_⟩
   all_goals try simp only [xvb, ↓EVd, isCall, sevalprocAttr]
   all_goals first | omega | exact lq (by omega) | exact nq (by omega) | rfl | (congr 1; omega)
 rintro I0 ⟨v3, v4⟩ T0 H0 x1 st0 ⟨l2, kk0⟩ hm1 hI0 hO0
 dsimp only [Lq, Nq] at kk0
 simp only [x2d] at hm1
 rcases iteE hm1 with ⟨e9, hm1⟩ | ⟨e9, hm1⟩
 · have e10 : (.agg [int (wr (v4 + 1)), int 1] : AV) = xc (⟨(wr (v4 + 1)), 1⟩ : Place) := _root_.id rfl
   obtain ⟨v11, h12, hm1⟩ := bsE hm1
   simp only [kk0, e9, e10, xvb, ↓EVd, isCall, sevalprocAttr]
   refine qc (xzf _ _ _ h12) rfl ?_
   rcases iteE hm1 with ⟨e14, hm1⟩ | ⟨e14, hm1⟩
   · obtain ⟨e17, hm1⟩ := apE hm1
     try simp only [ZL] at e17
     obtain ⟨v19, h20, hm1⟩ := bsE hm1
     simp only [kk0, e9, e10, e14, e17, xvb, ↓EVd, isCall, sevalprocAttr]
     refine qc (xiq _ _ h20) rfl ?_
     rcases itbE hm1 with ⟨e22, hm1⟩ | ⟨e22, hm1⟩
     · obtain rfl := Option.some.inj hm1
       simp only [kk0, e9, e10, e14, e17, e22, xvb, ↓EVd, isCall, sevalprocAttr]
       refine TI.here (hJ0_0 _ ⟨(v3 ++ ([(⟨(wr (v4 + 1)), 1⟩ : Place)] : List Place)), (x1 + 19), ⟨?_, ?_, ?_⟩, hO0 _ rfl⟩)
       all_goals try simp only [kk0, e9, e10, e14, e17, e22, xvb, ↓EVd, isCall, sevalprocAttr]
       all_goals first | omega | exact lq (by omega) | exact nq (by omega) | rfl | (congr 1; omega)
     obtain rfl := Option.some.inj hm1
     simp only [kk0, e9, e10, e14, e17, e22, xvb, ↓EVd, isCall, sevalprocAttr]
     refine TI.here (hI0 _ rfl _ ⟨(x1 + 19), ?_, ?_, ?_, ?_, ?_, ?_⟩)
     all_goals try simp only [kk0, e9, e10, e14, e17, e22, xvb, ↓EVd, isCall, sevalprocAttr]
     all_goals first | omega | exact lq (by omega) | exact nq (by omega) | rfl | (congr 1; omega)
   obtain rfl := Option.some.inj hm1
   simp only [kk0, e9, e10, e14, xvb, ↓EVd, isCall, sevalprocAttr]
   refine TI.here (hI0 _ rfl _ ⟨l2, ?_, ?_, ?_, ?_, ?_, ?_⟩)
   all_goals try simp only [kk0, e9, e10, e14, xvb, ↓EVd, isCall, sevalprocAttr]
   all_goals first | omega | exact lq (by omega) | exact nq (by omega) | rfl | (congr 1; omega)
 obtain rfl := Option.some.inj hm1
 simp only [kk0, e9, xvb, ↓EVd, isCall, sevalprocAttr]
 refine TI.here (hJ0_0 _ ⟨v3, l2, ⟨?_, ?_, ?_⟩, hO0 _ rfl⟩)
 all_goals try simp only [kk0, e9, xvb, ↓EVd, isCall, sevalprocAttr]
 all_goals first | omega | exact lq (by omega) | exact nq (by omega) | rfl | (congr 1; omega)
def xqd (a0 : ByteArray) (a1 : Stack) (a2 : List Place) : Option (Bool) := (xhe a1 a2 a0).bind fun v1 => if v1.1 = 0 then some true
 else some false
def xhl := aI (aI (aI (@EV) (aI (@R3) (@R9))) (aI (@R29) (aI (@R40) (@R44)))) (aI (aI (@DBranch) (aI (@DStack) (@DPlace))) (aI (aI (@DOrigin) (@DAttr)) (aI (@DNode) (@DEntry))))
set_option maxHeartbeats 2000000 in
theorem x7x (a0 : ByteArray) (a1 : Stack) (a2 : List Place) (r : Bool) (hm0 : xqd a0 a1 a2 = some r) : Ok Tryz.prog 65 [str a0, .ptr (xf a1) 0, .ptr (.sl 2 (a2.map xc)) 0] (bool r) := by
 unfold xqd at hm0
 refine okG xkx ?_
 unfold xdq
 obtain ⟨v1, h2, hm0⟩ := bsE hm0
 simp only [xhl, ↓EVd, isCall, sevalprocAttr]
 refine qc (x6j _ _ _ _ h2) rfl ?_
 rcases iteE hm0 with ⟨e4, hm0⟩ | ⟨e4, hm0⟩
 · obtain rfl := Option.some.inj hm0
   simp only [e4, xhl, ↓EVd, isCall, sevalprocAttr]
   all_goals first | done | rfl
 obtain rfl := Option.some.inj hm0
 simp only [e4, xhl, ↓EVd, isCall, sevalprocAttr]
 all_goals first | done | rfl
def xlf (v13 : Node) : (List ByteArray × Int) → Option (St (List ByteArray × Int) (List ByteArray))
 | (v19, v20) => if v20 < (v13.entries.length : Int) then (ix v13.entries v20).bind fun v26 => (ap 16 v19 ([v26.name] : List ByteArray)).bind fun _ => some (.nx ((v19 ++ ([v26.name] : List ByteArray)), (wr (v20 + 1))))
 else some (.out v19)
def xkf (a0 : Stack) (a1 : List Place) : (List ByteArray × Int) → Option (St (List ByteArray × Int) (List ByteArray))
 | (v3, v4) => if v4 < (a1.length : Int) then (ix a1 v4).bind fun v10 => (xzb a0.lowers v10).bind fun v13 => if v13.kind = 1 then (iter (xlf v13) big (v3, 0)).bind fun o => (match o with
 | v23 => some (.nx (v23, (wr (v4 + 1)))))
 else some (.nx (v3, (wr (v4 + 1))))
 else some (.out v3)
def x5j (a0 : Stack) (a1 : List Place) : Option (List ByteArray) := (iter (xkf a0 a1) big ([], 0)).bind fun o => (match o with
 | v7 => (x0c v7).bind fun v33 => (xlg (fun z => xqd z a0 a1) v33).bind fun v35 => some v35)
def xpc (a0 : List ByteArray) (a1 : List ByteArray) : Int → Option (St (Int) ((Unit) ⊕ (Bool)))
 | v4 => if v4 < (a0.length : Int) then (ix a0 v4).bind fun v8 => (ix a1 v4).bind fun v11 => if v8 = v11 then some (.nx (wr (v4 + 1)))
 else some (.out (.inr false))
 else some (.out (.inl ()))
def xic (a0 : List ByteArray) (a1 : List ByteArray) : Option (Bool) := if (a0.length : Int) = (a1.length : Int) then (iter (xpc a0 a1) big 0).bind fun o => (match o with
 | (.inl _) => some true
 | (.inr r) => some r)
 else some false
def xob := aI (aI (@EV) (@R3)) (aI (@R9) (aI (@R31) (@mixed)))
set_option maxHeartbeats 2000000 in
theorem x1l (a0 : List ByteArray) (a1 : List ByteArray) (r : Bool) (hm0 : xic a0 a1 = some r) : Ok Tryz.prog 28 [.sl 1 (a0.map str), .sl 1 (a1.map str)] (bool r) := by
 unfold xic at hm0
 refine okG x2l ?_
 unfold xrg
 rcases iteE hm0 with ⟨e2, hm0⟩ | ⟨e2, hm0⟩
 · obtain ⟨o0, ho0, hm0⟩ := bsE hm0
   simp only [e2, xob, ↓EVd, isCall, sevalprocAttr]
   refine cwp_cx 0 (fun s => (.inl ()) = o0) ?_ fun J0_0 hJ0_0 => ?_
   · rintro T0 H0 x5 rfl
     try dsimp only at hm0
     obtain rfl := Option.some.inj hm0
     simp only [e2, xob, ↓EVd, isCall, sevalprocAttr]
     all_goals first | done | rfl
   refine cwp_lp ho0 (fun v4 s => s.T 0 = .sl 1 (a0.map str) ∧ s.T 1 = .sl 1 (a1.map str) ∧ s.T 12 = int (a0.length : Int) ∧ s.T 13 = int v4) ?_ ?_
   · refine TI.here ⟨?_, ?_, ?_, ?_⟩
     all_goals try simp only [e2, xob, ↓EVd, isCall, sevalprocAttr]
     all_goals first | omega | exact lq (by omega) | exact nq (by omega) | rfl | (congr 1; omega)
   rintro I0 v4 T0 H0 x3 st0 kk0 hm1 hI0 hO0
   dsimp only [Lq, Nq] at kk0
   simp only [xpc] at hm1
   rcases iteE hm1 with ⟨e7, hm1⟩ | ⟨e7, hm1⟩
   · obtain ⟨v8, e10, hm1⟩ := ixE str hm1
     obtain ⟨v11, e13, hm1⟩ := ixE str hm1
     rcases iteE hm1 with ⟨e15, hm1⟩ | ⟨e15, hm1⟩
     · obtain rfl := Option.some.inj hm1
       simp only [kk0, e2, e7, e10, e13, e15, xob, ↓EVd, isCall, sevalprocAttr]
       refine TI.here (hI0 _ rfl _ ⟨?_, ?_, ?_, ?_⟩)
       all_goals try simp only [kk0, e2, e7, e10, e13, e15, xob, ↓EVd, isCall, sevalprocAttr]
       all_goals first | omega | exact lq (by omega) | exact nq (by omega) | rfl | (congr 1; omega)
     obtain rfl := Option.some.inj hm1
     obtain rfl := hO0 _ rfl
     try dsimp only at hm0
     obtain rfl := Option.some.inj hm0
     simp only [kk0, e2, e7, e10, e13, e15, xob, ↓EVd, isCall, sevalprocAttr]
     all_goals first | done | rfl
   obtain rfl := Option.some.inj hm1
   simp only [kk0, e2, e7, xob, ↓EVd, isCall, sevalprocAttr]
   refine TI.here (hJ0_0 _ (hO0 _ rfl))
 obtain rfl := Option.some.inj hm0
 simp only [e2, xob, ↓EVd, isCall, sevalprocAttr]
 all_goals first | done | rfl
end Go.Proofs.YtfefidkblgendaaGreatDoor.AL


/- Plain laws of chapter 16: nodes, entries, what a name tells, where names lead, roots. -/
set_option linter.all false
namespace Go.Proofs.YtfefidkblgendaaGreatDoor.AL
open Go Go.Proofs
def foldE {α σ ρ : Type} (step : σ → α → σ ⊕ ρ) : List α → σ → σ ⊕ ρ
  | [], s => .inl s
  | x :: xs, s => match step s x with
    | .inl s' => foldE step xs s'
    | .inr r => .inr r
theorem xnu {α σ ρ : Type} {step : σ → α → σ ⊕ ρ} {R : ρ → Prop} : ∀ (xs : List α) (s : σ), (∀ s x r, x ∈ xs → step s x = .inr r → R r) → ∀ r, foldE step xs s = .inr r → R r
  | [], s, h, r, e => by cases e
  | x :: xs, s, h, r, e => by
    unfold foldE at e
    split at e
    · exact xnu xs _ (fun s y r hy => h s y r (by simp [hy])) r e
    · rename_i r' he
      injection e with e
      subst e
      exact h s x _ (by simp) he
theorem xl1 {α σ ρ : Type} {step : σ → α → σ ⊕ ρ} {J : σ → Prop} : ∀ (xs : List α) (s : σ), J s → (∀ s x s', x ∈ xs → J s → step s x = .inl s' → J s') → ∀ s', foldE step xs s = .inl s' → J s'
  | [], s, h0, h, s', e => by injection e with e; subst e; exact h0
  | x :: xs, s, h0, h, s', e => by
    unfold foldE at e
    split at e
    · rename_i s1 he
      exact xl1 xs _ (h s x _ (by simp) h0 he) (fun s y s' hy => h s y s' (by simp [hy])) s' e
    · cases e
theorem x3e {α σ ρ S τ : Type} {B : S → Option (St S τ)} (mk : Nat → σ → S) (xs : List α) (step : σ → α → σ ⊕ ρ) (fin : σ ⊕ ρ → τ) (I : Nat → σ → Prop)
    (hs : ∀ i s (h : i < xs.length), I i s → match step s xs[i] with
      | .inl s' => B (mk i s) = some (.nx (mk (i + 1) s')) ∧ I (i + 1) s'
      | .inr r => B (mk i s) = some (.out (fin (.inr r))))
    (he : ∀ s, I xs.length s → B (mk xs.length s) = some (.out (fin (.inl s)))) {s0 : σ} (h0 : I 0 s0) {fuel : Nat} (hf : xs.length < fuel) : iter B fuel (mk 0 s0) = some (fin (foldE step xs s0)) := by
  have key : ∀ (d i : Nat) (s : σ) (fuel : Nat), d + i = xs.length → I i s → d < fuel → iter B fuel (mk i s) = some (fin (foldE step (xs.drop i) s)) := by
    intro d
    induction d with
    | zero =>
      intro i s fuel hd hi hf
      obtain rfl : i = xs.length := by omega
      cases fuel with
      | zero => omega
      | succ fuel =>
        rw [xyf, he s hi]
        simp [foldE]
    | succ d ih =>
      intro i s fuel hd hi hf
      cases fuel with
      | zero => omega
      | succ fuel =>
        have hlt : i < xs.length := by omega
        have h1 := hs i s hlt hi
        rw [xyf, List.drop_eq_getElem_cons hlt]
        unfold foldE
        split at h1
        · rename_i s' hst
          rw [h1.1]
          exact ih (i + 1) _ fuel (by omega) h1.2 (by omega)
        · rename_i r hst
          rw [h1]
          rfl
  have := key xs.length 0 s0 fuel (by omega) h0 hf
  simpa using this
theorem xev {α ρ : Type} {xs : List α} {B : Int → Option (St Int (Unit ⊕ ρ))} (g : α → Option ρ) (hl : xs.length ≤ 1000000000)
    (hB : ∀ i (h : i < xs.length), B (i : Int) = some (match g xs[i] with | some r => .out (.inr r) | none => .nx ((i + 1 : Nat) : Int))) (hE : B (xs.length : Int) = some (.out (.inl ()))) :
    iter B big 0 = some (match xs.findSome? g with | some r => .inr r | none => .inl ()) := by
  have := x3e (B := B) (σ := Unit) (fun i _ => (i : Int)) xs (fun _ x => match g x with | some r => .inr r | none => .inl ()) (fun o => o) (fun _ _ => True) (by
    intro i s h _
    have := hB i h
    cases hg : g xs[i] with
    | none => rw [hg] at this; exact ⟨this, trivial⟩
    | some r => rw [hg] at this; exact this) (fun _ _ => hE) (s0 := ()) trivial (fuel := big) (by rw [big_eq]; omega)
  have e0 : ((0 : Nat) : Int) = 0 := rfl
  rw [show (0 : Int) = ((0 : Nat) : Int) from rfl, this]
  congr 1
  clear this hB hE hl
  induction xs with
  | nil => rfl
  | cons x xs ih =>
    unfold foldE
    rw [List.findSome?_cons]
    cases hg : g x with
    | none => simpa using ih
    | some r => rfl
def zN : Node := ⟨0, 0, 0, 0, [], [], ⟨0, 0, xl, ⟨0, 0, 0⟩, 0⟩⟩
structure PQ (bs : List Branch) : Prop where
  len : bs.length ≤ 3
  nodes : ∀ b ∈ bs, b.nodes.length ≤ 24 ∧ ∀ n ∈ b.nodes, NB n
def nodeQ (bs : List Branch) (x : Place) : Node :=
  if x.layer < 1 then zN else if (bs.length : Int) < x.layer then zN else
    if x.ino < 1 then zN else if ((((bs[(x.layer - 1).toNat]?).getD ⟨[]⟩).nodes.length : Nat) : Int) < x.ino then zN else (((bs[(x.layer - 1).toNat]?).getD ⟨[]⟩).nodes[(x.ino - 1).toNat]?).getD zN
theorem xjo {bs : List Branch} (h : PQ bs) (x : Place) : xzb bs x = some (nodeQ bs x) := by
  unfold xzb nodeQ
  by_cases h1 : x.layer < 1
  · rw [if_pos h1, if_pos h1]; rfl
  rw [if_neg h1, if_neg h1]
  by_cases h2 : (bs.length : Int) < x.layer
  · rw [if_pos h2, if_pos h2]; rfl
  rw [if_neg h2, if_neg h2]
  have hl := h.len
  have hlt : (x.layer - 1).toNat < bs.length := by omega
  rw [wr_in (by omega) (by omega), ix_of (by omega) (by omega)]
  simp only [Option.bind_some]
  rw [List.getElem?_eq_getElem hlt]
  simp only [Option.getD_some]
  have hb := (h.nodes _ (List.getElem_mem hlt)).1
  generalize bs[(x.layer - 1).toNat] = b at hb
  by_cases h3 : x.ino < 1
  · rw [if_pos h3, if_pos h3]; rfl
  rw [if_neg h3, if_neg h3]
  by_cases h4 : (b.nodes.length : Int) < x.ino
  · rw [if_pos h4, if_pos h4]; rfl
  rw [if_neg h4, if_neg h4]
  have hlt2 : (x.ino - 1).toNat < b.nodes.length := by omega
  rw [wr_in (by omega) (by omega), ix_of (by omega) (by omega)]
  simp only [Option.bind_some]
  rw [List.getElem?_eq_getElem hlt2]
  rfl
theorem lowerQ {s : Stack} (h : PQ s.lowers) (x : Place) : xgc s x = some (nodeQ s.lowers x) := by
  rw [← xjo h x]
  unfold xgc xzb
  by_cases h1 : x.layer < 1
  · rw [if_pos h1, if_pos h1]
  rw [if_neg h1, if_neg h1]
  by_cases h2 : (s.lowers.length : Int) < x.layer
  · rw [if_pos h2, if_pos h2]
  rw [if_neg h2, if_neg h2]
  cases ix s.lowers (wr (x.layer - 1)) with
  | none => rfl
  | some b =>
    simp only [Option.bind_some]
    unfold x3c
    by_cases h3 : x.ino < 1
    · rw [if_pos h3]; rfl
    rw [if_neg h3]
    by_cases h4 : (b.nodes.length : Int) < x.ino
    · rw [if_pos h4]; rfl
    rw [if_neg h4]
    cases ix b.nodes (wr (x.ino - 1)) <;> rfl
theorem zN_nb : NB zN := ⟨by simp [zN], by simp [zN], by simp [zN]⟩
theorem xeg {bs : List Branch} (h : PQ bs) (x : Place) : NB (nodeQ bs x) := by
  unfold nodeQ
  split
  · exact zN_nb
  split
  · exact zN_nb
  split
  · exact zN_nb
  split
  · exact zN_nb
  rename_i h1 h2 h3 h4
  have hlt : (x.layer - 1).toNat < bs.length := by omega
  rw [List.getElem?_eq_getElem hlt] at h4 ⊢
  simp only [Option.getD_some] at h4 ⊢
  have hlt2 : (x.ino - 1).toNat < bs[(x.layer - 1).toNat].nodes.length := by omega
  rw [List.getElem?_eq_getElem hlt2]
  exact (h.nodes _ (List.getElem_mem hlt)).2 _ (List.getElem_mem hlt2)
theorem bitsQ (k : Fin 32) : bAnd .i64 (k.val : Int) 1 = 0 ↔ ¬ (wr ((k.val : Int).tdiv 1)).tmod 2 = 1 := by
  revert k
  decide +kernel
def opqQ (n : Node) : Bool := decide ((wr (n.attr.has.tdiv 1)).tmod 2 = 1 ∧ n.attr.opaque0 = 121)
theorem xxr {n : Node} (h : NB n) : xhd n = some (opqQ n) := by
  unfold xhd opqQ
  rw [if_pos h.has0]
  have e : ((n.attr.has.toNat : Nat) : Int) = n.attr.has := by have := h.has0; omega
  have hb := bitsQ ⟨n.attr.has.toNat, by have := h.has0; have := h.has1; omega⟩
  simp only [e] at hb
  by_cases hc : bAnd .i64 n.attr.has 1 = 0
  · rw [if_pos hc]
    exact congrArg some (decide_eq_false fun hh => hb.1 hc hh.1).symm
  · rw [if_neg hc]
    have hq : (wr (n.attr.has.tdiv 1)).tmod 2 = 1 := by
      rcases Decidable.em ((wr (n.attr.has.tdiv 1)).tmod 2 = 1) with h | h
      · exact h
      · exact absurd (hb.2 h) hc
    by_cases ho : n.attr.opaque0 = 121
    · rw [if_pos ho]; exact congrArg some (decide_eq_true ⟨hq, ho⟩).symm
    · rw [if_neg ho]; exact congrArg some (decide_eq_false fun hh => ho hh.2).symm
theorem xas {n : Node} (h : NB n) : xid n = some (opqQ n) := by
  unfold xid x9c xmh opqQ ck
  rw [if_pos h.has0, if_pos (by decide)]
  simp only [Option.bind_some]
  by_cases hq : (wr (n.attr.has.tdiv 1)).tmod 2 = 1
  · rw [if_pos hq]
    simp only [Option.bind_some, if_true]
    by_cases ho : n.attr.opaque0 = 121
    · rw [if_pos ho]; exact congrArg some (decide_eq_true ⟨hq, ho⟩).symm
    · rw [if_neg ho]; exact congrArg some (decide_eq_false fun hh => ho hh.2).symm
  · rw [if_neg hq]
    simp only [Option.bind_some, Bool.false_eq_true, if_false]
    exact congrArg some (decide_eq_false fun hh => hq hh.1).symm
def entG (bs : List Branch) (x : Place) (nm : ByteArray) (e : Entry) : Option (Place × Node) :=
  if e.name = nm then if (nodeQ bs ⟨x.layer, e.ino⟩).kind = 0 then none else some (⟨x.layer, e.ino⟩, nodeQ bs ⟨x.layer, e.ino⟩) else none
def entQ (bs : List Branch) (x : Place) (nm : ByteArray) : Option (Place × Node) :=
  if (nodeQ bs x).kind = 1 then (nodeQ bs x).entries.findSome? (entG bs x nm) else none
theorem x2bb {bs : List Branch} (h : PQ bs) (x : Place) (nm : ByteArray) : xee bs x nm = some ((entQ bs x nm).getD (⟨0, 0⟩, zN)) := by
  unfold xee entQ
  rw [xjo h]
  simp only [Option.bind_some]
  have hn := (xeg h x).ents
  by_cases hk : (nodeQ bs x).kind = 1
  · rw [if_pos hk, if_pos hk, xev (entG bs x nm) (xs := (nodeQ bs x).entries) (by omega)]
    · cases (nodeQ bs x).entries.findSome? (entG bs x nm) <;> rfl
    · intro i hi
      simp only [xte]
      rw [if_pos (by omega), ix_at hi]
      simp only [Option.bind_some]
      rw [xjo h, wr_suc (by omega)]
      simp only [Option.bind_some, entG]
      by_cases h1 : (nodeQ bs x).entries[i].name = nm
      · rw [if_pos h1, if_pos h1]
        by_cases h2 : (nodeQ bs ⟨x.layer, (nodeQ bs x).entries[i].ino⟩).kind = 0
        · rw [if_pos h2, if_pos h2]
        · rw [if_neg h2, if_neg h2]
      · rw [if_neg h1, if_neg h1]
    · simp only [xte]
      rw [if_neg (by omega)]
  · rw [if_neg hk, if_neg hk]; rfl
theorem x78 {s : Stack} (h : PQ s.lowers) (x : Place) (nm : ByteArray) : xdh s x nm = some (match entQ s.lowers x nm with | some p => (p.1, true) | none => (⟨0, 0⟩, false)) := by
  unfold xdh entQ
  rw [lowerQ h]
  simp only [Option.bind_some]
  have hn := (xeg h x).ents
  by_cases hk : (nodeQ s.lowers x).kind = 1
  · rw [if_pos hk, if_pos hk, xev (fun e => (entG s.lowers x nm e).map fun p => (p.1, true)) (xs := (nodeQ s.lowers x).entries) (by omega)]
    · simp only [Option.bind_some]
      have e : ∀ l : List Entry, l.findSome? (fun e => (entG s.lowers x nm e).map fun p => (p.1, true)) = (l.findSome? (entG s.lowers x nm)).map fun p => (p.1, true) := by
        intro l
        induction l with
        | nil => rfl
        | cons a l ih =>
          rw [List.findSome?_cons, List.findSome?_cons]
          cases entG s.lowers x nm a with
          | none => exact ih
          | some p => rfl
      rw [e]
      cases (nodeQ s.lowers x).entries.findSome? (entG s.lowers x nm) <;> rfl
    · intro i hi
      simp only [x7g]
      rw [if_pos (by omega), ix_at hi]
      simp only [Option.bind_some]
      rw [lowerQ h, wr_suc (by omega)]
      simp only [Option.bind_some, entG]
      by_cases h1 : (nodeQ s.lowers x).entries[i].name = nm
      · rw [if_pos h1, if_pos h1]
        by_cases h2 : (nodeQ s.lowers ⟨x.layer, (nodeQ s.lowers x).entries[i].ino⟩).kind = 0
        · rw [if_pos h2, if_pos h2]; rfl
        · rw [if_neg h2, if_neg h2]; rfl
      · rw [if_neg h1, if_neg h1]; rfl
    · simp only [x7g]
      rw [if_neg (by omega)]
  · rw [if_neg hk, if_neg hk]
theorem xou {bs : List Branch} {x : Place} {nm : ByteArray} {p : Place × Node} (h : entQ bs x nm = some p) : p.2 = nodeQ bs p.1 ∧ ¬ p.2.kind = 0 ∧ (nodeQ bs x).kind = 1 ∧ ∃ e ∈ (nodeQ bs x).entries, e.name = nm := by
  unfold entQ at h
  split at h
  · rename_i hk
    obtain ⟨e, he, h1⟩ := List.exists_of_findSome?_eq_some h
    unfold entG at h1
    split at h1
    · rename_i hn
      split at h1
      · cases h1
      · rename_i h2
        injection h1 with h1
        subst h1
        exact ⟨rfl, h2, hk, e, he, hn⟩
    · cases h1
  · cases h
def stepQ (bs : List Branch) (nm : ByteArray) (d : List Place) (x : Place) : List Place ⊕ (Int × List Place) :=
  match entQ bs x nm with
  | none => .inl d
  | some (y, n) => if n.kind = 1 then (if opqQ n = true then .inr (1, d ++ [y]) else .inl (d ++ [y])) else if 0 < (d.length : Int) then .inr (1, d) else if n.kind = 2 ∨ n.kind = 3 then .inr (n.kind, [y]) else .inr (0, [])
def endQ (o : List Place ⊕ (Int × List Place)) : Int × List Place := match o with
  | .inl d => if 0 < (d.length : Int) then (1, d) else (0, [])
  | .inr r => r
def findQ (bs : List Branch) (l : List Place) (nm : ByteArray) : Int × List Place := endQ (foldE (stepQ bs nm) l [])
structure FQ' (n : Nat) (r : Int × List Place) : Prop where
  some : r.1 = 0 ∨ 0 < r.2.length
  nil : r.1 = 0 → r.2 = []
  kinds : r.1 = 0 ∨ r.1 = 1 ∨ r.1 = 2 ∨ r.1 = 3
  one : ¬ r.1 = 1 → r.2.length ≤ 1
theorem xn9 {bs : List Branch} {nm : ByteArray} {d : List Place} {x : Place} {r : Int × List Place} (h : stepQ bs nm d x = .inr r) : FQ' 0 r := by
  unfold stepQ at h
  split at h
  · cases h
  · rename_i y n he
    split at h
    · split at h
      · injection h with h; subst h; exact ⟨.inr (by simp), fun e => (by cases e), by simp, fun e => absurd rfl e⟩
      · cases h
    · split at h
      · injection h with h; subst h; exact ⟨.inr (by simp only; omega), fun e => (by cases e), by simp, fun e => absurd rfl e⟩
      · split at h
        · rename_i hk
          injection h with h
          subst h
          exact ⟨.inr (by simp), fun e => (by simp only at e; omega), by simp only; omega, fun _ => by simp⟩
        · injection h with h; subst h; exact ⟨.inl rfl, fun _ => rfl, by simp, fun _ => by simp⟩
theorem x8x (bs : List Branch) (l : List Place) (nm : ByteArray) : FQ' 0 (findQ bs l nm) := by
  unfold findQ endQ
  split
  · rename_i d hd
    split
    · exact ⟨.inr (by simp only; omega), fun e => (by cases e), by simp, fun e => absurd rfl e⟩
    · exact ⟨.inl rfl, fun _ => rfl, by simp, fun _ => by simp⟩
  · rename_i r hr
    exact xnu (R := FQ' 0) l [] (fun s x r _ h => xn9 h) r hr
theorem xmq {bs : List Branch} {nm : ByteArray} : ∀ (l : List Place) (d : List Place), (∀ d', foldE (stepQ bs nm) l d = .inl d' → d'.length ≤ d.length + l.length) ∧ (∀ r, foldE (stepQ bs nm) l d = .inr r → r.2.length ≤ d.length + l.length)
  | [], d => ⟨fun d' e => by injection e with e; subst e; simp, fun r e => by cases e⟩
  | x :: l, d => by
    have key : (∃ r, stepQ bs nm d x = .inr r ∧ foldE (stepQ bs nm) (x :: l) d = .inr r ∧ r.2.length ≤ d.length + 1) ∨ (∃ d1, stepQ bs nm d x = .inl d1 ∧ d1.length ≤ d.length + 1 ∧ foldE (stepQ bs nm) (x :: l) d = foldE (stepQ bs nm) l d1) := by
      cases hs : stepQ bs nm d x with
      | inl d1 =>
        refine .inr ⟨d1, rfl, ?_, by rw [foldE, hs]⟩
        unfold stepQ at hs
        split at hs
        · injection hs with hs; subst hs; omega
        · split at hs
          · split at hs
            · cases hs
            · injection hs with hs; subst hs; simp
          · split at hs
            · cases hs
            · split at hs <;> cases hs
      | inr r =>
        refine .inl ⟨r, rfl, by rw [foldE, hs], ?_⟩
        unfold stepQ at hs
        split at hs
        · cases hs
        · split at hs
          · split at hs
            · injection hs with hs; subst hs; simp
            · cases hs
          · split at hs
            · injection hs with hs; subst hs; simp
            · split at hs <;> (injection hs with hs; subst hs; simp)
    rcases key with ⟨r, h1, h2, h3⟩ | ⟨d1, h1, h2, h3⟩
    · refine ⟨fun d' e => (by rw [h2] at e; cases e), fun r' e => ?_⟩
      rw [h2] at e
      injection e with e
      subst e
      simp only [List.length_cons]; omega
    · obtain ⟨g1, g2⟩ := xmq l d1
      refine ⟨fun d' e => ?_, fun r e => ?_⟩
      · rw [h3] at e; have := g1 d' e; simp only [List.length_cons]; omega
      · rw [h3] at e; have := g2 r e; simp only [List.length_cons]; omega
theorem xun (bs : List Branch) (l : List Place) (nm : ByteArray) : (findQ bs l nm).2.length ≤ l.length := by
  obtain ⟨g1, g2⟩ := xmq (bs := bs) (nm := nm) l []
  unfold findQ endQ
  split
  · rename_i d hd
    have := g1 d hd
    split
    · simpa using this
    · simp
  · rename_i r hr
    have := g2 r hr
    simpa using this
theorem xf2 {bs : List Branch} {nm : ByteArray} : ∀ (l : List Place) (d : List Place), (∀ x ∈ l, entQ bs x nm = none) → foldE (stepQ bs nm) l d = .inl d
  | [], d, _ => rfl
  | x :: l, d, h => by
    unfold foldE stepQ
    rw [h x (by simp)]
    exact xf2 l d fun y hy => h y (by simp [hy])
theorem xq8 {bs : List Branch} {l : List Place} {nm : ByteArray} (h : ¬ (findQ bs l nm).1 = 0) : ∃ x ∈ l, ∃ p, entQ bs x nm = some p := by
  rcases Classical.em (∃ x ∈ l, ∃ p, entQ bs x nm = some p) with h1 | h1
  · exact h1
  · exfalso
    apply h
    unfold findQ
    rw [xf2 l [] (fun x hx => by
      cases he : entQ bs x nm with
      | none => rfl
      | some p => exact absurd ⟨x, hx, p, he⟩ h1)]
    rfl
theorem xfp {s : Stack} (h : PQ s.lowers) {l : List Place} (hl : l.length ≤ 1000) (nm : ByteArray) : xcd s l nm = some (findQ s.lowers l nm) := by
  unfold xcd
  have := x3e (B := xue s l nm) (fun i d => (d, (i : Int))) l (stepQ s.lowers nm) (fun o => o) (fun i d => d.length ≤ i) (by
    intro i d hi hd
    have hb : xue s l nm (d, (i : Int)) = some (match stepQ s.lowers nm d l[i] with | .inl d' => .nx (d', ((i + 1 : Nat) : Int)) | .inr r => .out (.inr r)) := by
      simp only [xue]
      rw [if_pos (by omega), ix_at hi]
      simp only [Option.bind_some]
      rw [x78 h, wr_suc (by omega)]
      simp only [Option.bind_some, stepQ]
      cases he : entQ s.lowers l[i] nm with
      | none => simp
      | some p =>
        obtain ⟨y, n⟩ := p
        obtain ⟨e1, e2, _⟩ := xou he
        simp only at e1 e2
        subst e1
        simp only [Bool.not_true, Bool.false_eq_true, if_false]
        rw [lowerQ h]
        simp only [Option.bind_some]
        by_cases hk : (nodeQ s.lowers y).kind = 1
        · rw [if_pos hk, if_pos hk, ap_of (by simp; omega) (by decide)]
          simp only [Option.bind_some]
          rw [xas (xeg h y)]
          simp only [Option.bind_some]
          by_cases ho : opqQ (nodeQ s.lowers y) = true
          · rw [if_pos ho, if_pos ho]
          · rw [if_neg ho, if_neg ho]
        · rw [if_neg hk, if_neg hk]
          by_cases h0 : 0 < (d.length : Int)
          · rw [if_pos h0, if_pos h0]
          · rw [if_neg h0, if_neg h0]
            by_cases h2 : (nodeQ s.lowers y).kind = 2
            · rw [if_pos h2, if_pos (.inl h2)]
            · rw [if_neg h2]
              by_cases h3 : (nodeQ s.lowers y).kind = 3
              · rw [if_pos h3, if_pos (.inr h3)]
              · rw [if_neg h3, if_neg (by omega)]
    split
    · rename_i d' hs
      rw [hs] at hb
      refine ⟨hb, ?_⟩
      have := (xmq (bs := s.lowers) (nm := nm) [l[i]] d).1 d' (by rw [foldE, hs]; rfl)
      simp at this
      omega
    · rename_i r hs
      rw [hs] at hb
      exact hb) (by
    intro d hd
    simp only [xue]
    rw [if_neg (by omega)]) (s0 := []) (Nat.le_refl _) (fuel := big) (by rw [big_eq]; omega)
  have e0 : ((0 : Nat) : Int) = 0 := rfl
  rw [e0] at this
  rw [this]
  simp only [Option.bind_some]
  unfold findQ endQ
  cases foldE (stepQ s.lowers nm) l [] with
  | inl d => simp only; split <;> rfl
  | inr r => rfl
def outQ (o : List Place ⊕ (Int × List Place)) : (List Place) ⊕ ((List Place) ⊕ (Int × List Place)) := match o with
  | .inl d => .inl d
  | .inr r => if r.1 = 0 ∨ r.1 = 1 then .inr (.inl r.2) else .inr (.inr r)
theorem x8v {s : Stack} (h : PQ s.lowers) {l : List Place} (hl : l.length ≤ 1000) (nm : ByteArray) : xhe s l nm = some (findQ s.lowers l nm) := by
  unfold xhe
  have := x3e (B := xre s l nm) (fun i d => (d, (i : Int))) l (stepQ s.lowers nm) outQ (fun i d => d.length ≤ i) (by
    intro i d hi hd
    have hb : xre s l nm (d, (i : Int)) = some (match stepQ s.lowers nm d l[i] with | .inl d' => .nx (d', ((i + 1 : Nat) : Int)) | .inr r => .out (outQ (.inr r))) := by
      simp only [xre]
      rw [if_pos (by omega), ix_at hi]
      simp only [Option.bind_some]
      rw [x2bb h, wr_suc (by omega)]
      simp only [Option.bind_some, stepQ]
      cases he : entQ s.lowers l[i] nm with
      | none => simp [zN]
      | some p =>
        obtain ⟨y, n⟩ := p
        obtain ⟨e1, e2, _⟩ := xou he
        simp only at e1 e2
        subst e1
        simp only [Option.getD_some]
        rw [if_neg e2]
        by_cases hk : (nodeQ s.lowers y).kind = 1
        · rw [if_pos hk, if_pos hk, ap_of (by simp; omega) (by decide)]
          simp only [Option.bind_some]
          rw [xxr (xeg h y)]
          simp only [Option.bind_some]
          cases ho : opqQ (nodeQ s.lowers y) with
          | true => simp [outQ]
          | false => simp
        · rw [if_neg hk, if_neg hk]
          by_cases h0 : 0 < (d.length : Int)
          · have hd0 : ¬ (d.length : Int) = 0 := by omega
            rw [if_pos h0, if_neg hd0]
            have ho : outQ (.inr (1, d)) = .inr (.inl d) := by simp [outQ]
            show _ = some (St.out (outQ (.inr (1, d))))
            rw [ho]
            split
            · rfl
            · split <;> rfl
          · have hd0 : (d.length : Int) = 0 := by omega
            have hd1 : d = [] := List.eq_nil_of_length_eq_zero (by omega)
            rw [if_neg h0, if_pos hd0]
            have ho : ∀ k : Int, ¬ k = 0 → ¬ k = 1 → outQ (.inr (k, [y])) = .inr (.inr (k, [y])) := fun k g1 g2 => if_neg (by rintro (g | g); exact g1 g; exact g2 g)
            have ho0 : outQ (.inr (0, [])) = .inr (.inl []) := by simp [outQ]
            by_cases h2 : (nodeQ s.lowers y).kind = 2
            · rw [if_pos h2, if_pos (Or.inl h2)]
              show _ = some (St.out (outQ (.inr (_, [y]))))
              rw [ho _ e2 hk]
            · rw [if_neg h2]
              by_cases h3 : (nodeQ s.lowers y).kind = 3
              · rw [if_pos h3, if_pos (Or.inr h3)]
                show _ = some (St.out (outQ (.inr (_, [y]))))
                rw [ho _ e2 hk]
              · rw [if_neg h3, if_neg (by omega)]
                show _ = some (St.out (outQ (.inr (0, []))))
                rw [ho0, hd1]
    split
    · rename_i d' hs
      rw [hs] at hb
      refine ⟨hb, ?_⟩
      have := (xmq (bs := s.lowers) (nm := nm) [l[i]] d).1 d' (by rw [foldE, hs]; rfl)
      simp at this
      omega
    · rename_i r hs
      rw [hs] at hb
      exact hb) (by
    intro d hd
    simp only [xre]
    rw [if_neg (by omega)]
    rfl) (s0 := []) (Nat.le_refl _) (fuel := big) (by rw [big_eq]; omega)
  have e0 : ((0 : Nat) : Int) = 0 := rfl
  rw [e0] at this
  rw [this]
  simp only [Option.bind_some]
  have hp := x8x s.lowers l nm
  unfold findQ endQ at *
  cases hf : foldE (stepQ s.lowers nm) l [] with
  | inl d =>
    simp only [outQ]
    by_cases h0 : (d.length : Int) = 0
    · rw [if_pos h0, if_neg (by omega)]
    · rw [if_neg h0, if_pos (by omega)]
  | inr r =>
    rw [hf] at hp
    simp only at hp
    simp only [outQ]
    obtain ⟨k, d⟩ := r
    by_cases h1 : k = 0 ∨ k = 1
    · rw [if_pos h1]
      simp only
      rcases h1 with h1 | h1
      · subst h1
        have := hp.nil rfl
        simp only at this
        subst this
        rfl
      · subst h1
        have : 0 < d.length := by rcases hp.some with h | h; cases h; exact h
        rw [if_neg (by omega)]
    · rw [if_neg h1]
def stepL (bs : List Branch) (d : List Place) (nm : ByteArray) : List Place ⊕ (List Place × Bool) := if (findQ bs d nm).1 = 1 then .inl (findQ bs d nm).2 else .inr ([], false)
def lookQ (bs : List Branch) (l : List Place) (nms : List ByteArray) : List Place × Bool := match foldE (stepL bs) nms l with
  | .inl d => (d, true)
  | .inr r => r
theorem xv4 {n : Nat} {α : Type} {l : List α} (h : l.length * n ≤ 140737488355328) (hn : 0 < n) : cloneM n l = some l := by
  unfold cloneM
  rw [ap_of (by simpa using h) hn]
  rfl
theorem xbcb {s : Stack} (h : PQ s.lowers) {l : List Place} (hl : l.length ≤ 1000) {nms : List ByteArray} (hn : nms.length ≤ 1000) : x8h s l nms = some (lookQ s.lowers l nms) := by
  unfold x8h
  have := x3e (B := xpe s nms) (fun i d => (d, (i : Int))) nms (stepL s.lowers) (fun o => o) (fun i d => d.length ≤ 1000) (by
    intro i d hi hd
    have hb : xpe s nms (d, (i : Int)) = some (match stepL s.lowers d nms[i] with | .inl d' => .nx (d', ((i + 1 : Nat) : Int)) | .inr r => .out (.inr r)) := by
      simp only [xpe]
      rw [if_pos (by omega), ix_at hi]
      simp only [Option.bind_some]
      rw [xfp h hd, wr_suc (by omega)]
      simp only [Option.bind_some, stepL]
      split <;> rfl
    split
    · rename_i d' hs
      rw [hs] at hb
      refine ⟨hb, ?_⟩
      unfold stepL at hs
      split at hs
      · injection hs with hs
        subst hs
        exact Nat.le_trans (xun _ _ _) hd
      · cases hs
    · rename_i r hs
      rw [hs] at hb
      exact hb) (by
    intro d hd
    simp only [xpe]
    rw [if_neg (by omega)]) (s0 := l) hl (fuel := big) (by rw [big_eq]; omega)
  have e0 : ((0 : Nat) : Int) = 0 := rfl
  rw [e0] at this
  rw [this]
  simp only [Option.bind_some]
  unfold lookQ
  cases foldE (stepL s.lowers) nms l <;> rfl
theorem xsdb {s : Stack} (h : PQ s.lowers) {l : List Place} (hl : l.length ≤ 1000) {nms : List ByteArray} (hn : nms.length ≤ 1000) : xai s l nms = some (lookQ s.lowers l nms) := by
  unfold xai
  rw [xv4 (by omega) (by decide)]
  simp only [Option.bind_some]
  have := x3e (B := xse s nms) (fun i d => (d, (i : Int))) nms (stepL s.lowers) (fun o => o) (fun i d => d.length ≤ 1000) (by
    intro i d hi hd
    have hb : xse s nms (d, (i : Int)) = some (match stepL s.lowers d nms[i] with | .inl d' => .nx (d', ((i + 1 : Nat) : Int)) | .inr r => .out (.inr r)) := by
      simp only [xse]
      rw [if_pos (by omega), ix_at hi]
      simp only [Option.bind_some]
      rw [x8v h hd, wr_suc (by omega)]
      simp only [Option.bind_some, stepL]
      split <;> rfl
    split
    · rename_i d' hs
      rw [hs] at hb
      refine ⟨hb, ?_⟩
      unfold stepL at hs
      split at hs
      · injection hs with hs
        subst hs
        exact Nat.le_trans (xun _ _ _) hd
      · cases hs
    · rename_i r hs
      rw [hs] at hb
      exact hb) (by
    intro d hd
    simp only [xse]
    rw [if_neg (by omega)]) (s0 := l) hl (fuel := big) (by rw [big_eq]; omega)
  have e0 : ((0 : Nat) : Int) = 0 := rfl
  rw [e0] at this
  rw [this]
  simp only [Option.bind_some]
  unfold lookQ
  cases foldE (stepL s.lowers) nms l <;> rfl
theorem xx1 {bs : List Branch} : ∀ (nms : List ByteArray) (l : List Place), (lookQ bs l nms).1.length ≤ l.length
  | [], l => Nat.le_refl _
  | n :: nms, l => by
    have := xx1 nms (findQ bs l n).2 (bs := bs)
    unfold lookQ at this ⊢
    unfold foldE
    by_cases h : (findQ bs l n).1 = 1
    · have e : stepL bs l n = .inl (findQ bs l n).2 := if_pos h
      rw [e]
      exact Nat.le_trans this (xun _ _ _)
    · have e : stepL bs l n = .inr ([], false) := if_neg h
      rw [e]
      exact Nat.zero_le _
def stepO (bs : List Branch) (d : List Place) (i : Nat) : List Place ⊕ List Place :=
  if (nodeQ bs ⟨((i + 1 : Nat) : Int), 1⟩).kind = 1 then (if opqQ (nodeQ bs ⟨((i + 1 : Nat) : Int), 1⟩) = true then .inr (d ++ [⟨((i + 1 : Nat) : Int), 1⟩]) else .inl (d ++ [⟨((i + 1 : Nat) : Int), 1⟩])) else .inl d
def rootsQ (bs : List Branch) : List Place := match foldE (stepO bs) (List.range bs.length) [] with
  | .inl d => d
  | .inr d => d
theorem xru {bs : List Branch} {d d' : List Place} {i : Nat} (h : stepO bs d i = .inl d') : d'.length ≤ d.length + 1 := by
  unfold stepO at h
  split at h
  · split at h
    · cases h
    · injection h with h; subst h; simp
  · injection h with h; subst h; omega
theorem xf5 {s : Stack} (h : PQ s.lowers) : xxe s = some (rootsQ s.lowers) := by
  unfold xxe
  have hl := h.len
  have := x3e (B := x2d s) (fun i d => (d, (i : Int))) (List.range s.lowers.length) (stepO s.lowers) (fun o => match o with | .inl d => d | .inr d => d) (fun i d => d.length ≤ i) (by
    intro i d hi hd
    have hi' : i < s.lowers.length := by simpa using hi
    rw [List.getElem_range]
    have hb : x2d s (d, (i : Int)) = some (match stepO s.lowers d i with | .inl d' => .nx (d', ((i + 1 : Nat) : Int)) | .inr r => .out r) := by
      simp only [x2d]
      rw [if_pos (by omega), wr_suc (by omega), xjo h]
      simp only [Option.bind_some, stepO]
      by_cases hk : (nodeQ s.lowers ⟨((i + 1 : Nat) : Int), 1⟩).kind = 1
      · rw [if_pos hk, if_pos hk, ap_of (by simp; omega) (by decide)]
        simp only [Option.bind_some]
        rw [xxr (xeg h _)]
        simp only [Option.bind_some]
        split <;> rfl
      · rw [if_neg hk, if_neg hk]
    split
    · rename_i d' hs
      rw [hs] at hb
      have := xru hs
      exact ⟨hb, by omega⟩
    · rename_i r hs
      rw [hs] at hb
      exact hb) (by
    intro d hd
    simp only [x2d, List.length_range]
    rw [if_neg (by omega)]) (s0 := []) (Nat.le_refl _) (fuel := big) (by rw [big_eq]; simp; omega)
  have e0 : ((0 : Nat) : Int) = 0 := rfl
  rw [e0] at this
  rw [this]
  rfl
theorem xe2 {s : Stack} (h : PQ s.lowers) : xye s = some (rootsQ s.lowers) := by
  unfold xye
  have hl := h.len
  have := x3e (B := x3d s) (fun i d => (d, ((i + 1 : Nat) : Int))) (List.range s.lowers.length) (stepO s.lowers) (fun o => o) (fun i d => d.length ≤ i) (by
    intro i d hi hd
    have hi' : i < s.lowers.length := by simpa using hi
    rw [List.getElem_range]
    have hb : x3d s (d, ((i + 1 : Nat) : Int)) = some (match stepO s.lowers d i with | .inl d' => .nx (d', ((i + 1 + 1 : Nat) : Int)) | .inr r => .out (.inr r)) := by
      simp only [x3d]
      rw [if_pos (by omega), wr_suc (by omega), lowerQ h]
      simp only [Option.bind_some, stepO]
      by_cases hk : (nodeQ s.lowers ⟨((i + 1 : Nat) : Int), 1⟩).kind = 1
      · rw [if_pos hk, if_pos hk, ap_of (by simp; omega) (by decide)]
        simp only [Option.bind_some]
        rw [xas (xeg h _)]
        simp only [Option.bind_some]
        split <;> rfl
      · rw [if_neg hk, if_neg hk]
    split
    · rename_i d' hs
      rw [hs] at hb
      have := xru hs
      exact ⟨hb, by omega⟩
    · rename_i r hs
      rw [hs] at hb
      exact hb) (by
    intro d hd
    simp only [x3d, List.length_range]
    rw [if_neg (by omega)]) (s0 := []) (Nat.le_refl _) (fuel := big) (by rw [big_eq]; simp; omega)
  have e0 : ((0 + 1 : Nat) : Int) = 1 := rfl
  rw [e0] at this
  rw [this]
  simp only [Option.bind_some]
  unfold rootsQ
  cases foldE (stepO s.lowers) (List.range s.lowers.length) [] <;> rfl
theorem xdo {bs : List Branch} (h : PQ bs) : (rootsQ bs).length ≤ 3 := by
  have hl := h.len
  have key : ∀ (xs : List Nat) (d : List Place), (match foldE (stepO bs) xs d with | .inl d => d | .inr d => d).length ≤ d.length + xs.length := by
    intro xs
    induction xs with
    | nil => intro d; simp [foldE]
    | cons x xs ih =>
      intro d
      unfold foldE
      cases hs : stepO bs d x with
      | inl d' =>
        have h1 := xru hs
        have h2 := ih d'
        simp only [List.length_cons]
        omega
      | inr d' =>
        unfold stepO at hs
        split at hs
        · split at hs
          · injection hs with hs; subst hs; simp
          · cases hs
        · cases hs
  have := key (List.range bs.length) []
  simp only [List.length_range, List.length_nil] at this
  unfold rootsQ
  omega
end Go.Proofs.YtfefidkblgendaaGreatDoor.AL

/- Plain laws: sorted texts, each once. -/
set_option linter.all false
namespace Go.Proofs.YtfefidkblgendaaGreatDoor.AL
open Go Go.Proofs
abbrev Rising (l : List ByteArray) : Prop := l.Pairwise (fun a b => bl a < bl b)
theorem xpdb (a b : ByteArray) : Op.bytesLess a.toList b.toList = decide (bl a < bl b) := by
  rw [bytesLess_eq, Lib.toList_data, Lib.toList_data]
  rfl
theorem x0r {a b : List ByteArray} (ha : Rising a) (hb : Rising b) (h : ∀ x, x ∈ a ↔ x ∈ b) : a = b := by
  have nd : ∀ {l : List ByteArray}, Rising l → l.Nodup := fun h => List.Pairwise.imp (by rintro x y hxy rfl; exact List.lt_irrefl _ hxy) h
  have hp : a.Perm b := (List.perm_ext_iff_of_nodup (nd ha) (nd hb)).2 h
  refine List.Perm.eq_of_pairwise (le := fun a b => bl a < bl b) (fun x y _ _ h1 h2 => absurd (List.lt_trans h1 h2) (List.lt_irrefl _)) ha hb hp
def sortQ (l : List ByteArray) : List ByteArray := cmpB (sortB l)
theorem xsi (l : List ByteArray) : Rising (sortQ l) := xw6 _ (x3p l)
theorem xbi (l : List ByteArray) (x : ByteArray) : x ∈ sortQ l ↔ x ∈ l := by
  unfold sortQ
  rw [xwcb, (x4g l).mem_iff]
theorem xfq (l : List ByteArray) : (sortQ l).length ≤ l.length := by
  have := x3x (sortB l)
  rw [(x4g l).length_eq] at this
  exact this
theorem xu3 {l : List ByteArray} (h : l.length ≤ 1000000) : x0c l = some (sortQ l) := by
  have hs := (x4g l).length_eq
  unfold x0c x6b xrc cloneM ck
  rw [ap_of (by simp; omega) (by decide)]
  simp only [Option.bind_some, List.nil_append]
  rw [if_pos (by omega)]
  simp only [Option.bind_some]
  rw [if_pos (by omega)]
  rfl
def twB (x : ByteArray) (out : List ByteArray) : List ByteArray := out.takeWhile fun y => decide (bl y < bl x)
def dwB (x : ByteArray) (out : List ByteArray) : List ByteArray := out.dropWhile fun y => decide (bl y < bl x)
def insU (out : List ByteArray) (x : ByteArray) : List ByteArray := match dwB x out with
  | [] => twB x out ++ [x]
  | b :: B => if b = x then out else twB x out ++ x :: b :: B
theorem tw_dw (x : ByteArray) (out : List ByteArray) : twB x out ++ dwB x out = out := List.takeWhile_append_dropWhile
theorem xxeb (x : ByteArray) (out : List ByteArray) : out.take (twB x out).length = twB x out := by
  have h := tw_dw x out
  generalize twB x out = a at h
  generalize dwB x out = b at h
  subst h
  simp
theorem x5eb (x : ByteArray) (out : List ByteArray) : out.drop (twB x out).length = dwB x out := by
  have h := tw_dw x out
  generalize twB x out = a at h
  generalize dwB x out = b at h
  subst h
  simp
theorem tw_lt {x y : ByteArray} {out : List ByteArray} (h : y ∈ twB x out) : bl y < bl x := by
  have := List.all_takeWhile (l := out) (p := fun y => decide (bl y < bl x))
  have := List.all_eq_true.1 this y h
  simpa using this
theorem xrdb {x b : ByteArray} {out B : List ByteArray} (h : dwB x out = b :: B) : ¬ bl b < bl x := by
  induction out with
  | nil => simp [dwB] at h
  | cons a out ih =>
    unfold dwB at h
    rw [List.dropWhile_cons] at h
    split at h
    · exact ih h
    · rename_i ha
      injection h with h1 h2
      subst h1
      simpa using ha
theorem xd6 {out : List ByteArray} (h : Rising out) (x : ByteArray) : Rising (insU out x) := by
  unfold insU
  have hd := tw_dw x out
  split
  · rename_i hdw
    rw [hdw, List.append_nil] at hd
    refine List.pairwise_append.2 ⟨by rw [hd]; exact h, by simp, fun y hy z hz => ?_⟩
    obtain rfl : z = x := by simpa using hz
    exact tw_lt hy
  · rename_i b B hdw
    split
    · exact h
    · rename_i hne
      rw [hdw] at hd
      have h' := h
      rw [← hd] at h'
      obtain ⟨g1, g2, g3⟩ := List.pairwise_append.1 h'
      have hlt : bl x < bl b := by
        rcases Decidable.em (bl x < bl b) with h | h
        · exact h
        · exact absurd (ba_ext (List.le_antisymm (List.not_lt.1 h) (List.not_lt.1 (xrdb hdw)))) hne
      refine List.pairwise_append.2 ⟨g1, List.pairwise_cons.2 ⟨fun z hz => ?_, g2⟩, fun y hy z hz => ?_⟩
      · rcases List.mem_cons.1 hz with rfl | hz
        · exact hlt
        · exact List.lt_trans hlt ((List.pairwise_cons.1 g2).1 z hz)
      · rcases List.mem_cons.1 hz with rfl | hz
        · exact tw_lt hy
        · exact g3 y hy z hz
theorem xgdb (out : List ByteArray) (x y : ByteArray) : y ∈ insU out x ↔ y ∈ out ∨ y = x := by
  unfold insU
  have hd := tw_dw x out
  split
  · rename_i hdw
    rw [hdw, List.append_nil] at hd
    rw [hd]
    simp
  · rename_i b B hdw
    rw [hdw] at hd
    split
    · rename_i hbx
      subst hbx
      have hb : b ∈ out := by rw [← hd]; simp
      constructor
      · exact .inl
      · rintro (h | rfl)
        · exact h
        · exact hb
    · generalize twB x out = a at hd
      subst hd
      simp only [List.mem_append, List.mem_cons]
      constructor
      · rintro (h | h | h | h)
        · exact .inl (.inl h)
        · exact .inr h
        · exact .inl (.inr (.inl h))
        · exact .inl (.inr (.inr h))
      · rintro ((h | h | h) | h)
        · exact .inl h
        · exact .inr (.inr (.inl h))
        · exact .inr (.inr (.inr h))
        · exact .inr (.inl h)
theorem xfbb (out : List ByteArray) (x : ByteArray) : (insU out x).length ≤ out.length + 1 := by
  unfold insU
  have hd := tw_dw x out
  have hl := congrArg List.length hd
  rw [List.length_append] at hl
  split
  · rename_i hdw
    rw [hdw] at hl
    simp at hl ⊢
    omega
  · rename_i b B hdw
    rw [hdw] at hl
    split
    · omega
    · simp at hl ⊢
      omega
def sortU (l : List ByteArray) : List ByteArray := l.foldl insU []
theorem xgs : ∀ (l out : List ByteArray), Rising out → Rising (l.foldl insU out) ∧ ∀ y, y ∈ l.foldl insU out ↔ y ∈ out ∨ y ∈ l
  | [], out, h => ⟨h, fun y => by simp⟩
  | x :: l, out, h => by
    obtain ⟨h1, h2⟩ := xgs l (insU out x) (xd6 h x)
    refine ⟨h1, fun y => ?_⟩
    rw [List.foldl_cons, h2, xgdb, List.mem_cons]
    constructor
    · rintro ((h | h) | h)
      · exact .inl h
      · exact .inr (.inl h)
      · exact .inr (.inr h)
    · rintro (h | h | h)
      · exact .inl (.inl h)
      · exact .inl (.inr h)
      · exact .inr h
theorem xp4 (l : List ByteArray) : Rising (sortU l) := (xgs l [] .nil).1
theorem xyab (l : List ByteArray) (x : ByteArray) : x ∈ sortU l ↔ x ∈ l := by
  unfold sortU
  rw [(xgs l [] .nil).2]
  simp
theorem xsw (l : List ByteArray) : sortU l = sortQ l := x0r (xp4 l) (xsi l) fun x => by rw [xyab, xbi]
theorem tw_at {x : ByteArray} : ∀ {l : List ByteArray} {j : Nat}, j ≤ l.length → (∀ q (h : q < l.length), q < j → bl l[q] < bl x) → (∀ h : j < l.length, ¬ bl l[j] < bl x) → (twB x l).length = j
  | [], j, hj, _, _ => by simp at hj; subst hj; rfl
  | a :: l, 0, hj, h1, h2 => by
    unfold twB
    rw [List.takeWhile_cons, if_neg]
    · rfl
    · have := h2 (by simp)
      simpa using this
  | a :: l, j + 1, hj, h1, h2 => by
    have ha : bl a < bl x := h1 0 (by simp) (by omega)
    have := tw_at (l := l) (j := j) (x := x) (by simpa using hj) (fun q h hq => h1 (q + 1) (by simpa using h) (by omega)) (fun h => h2 (by simpa using h))
    unfold twB at this ⊢
    rw [List.takeWhile_cons, if_pos (by simpa using ha), List.length_cons, this]
theorem pos_eq {a0 v3 : List ByteArray} {i : Nat} (hi : i < a0.length) (hv : v3.length ≤ 1000000) : iter (x2f a0 v3 (i : Int)) big 0 = some (((twB a0[i] v3).length : Nat) : Int) := by
  obtain ⟨r, h1, h2⟩ := xxf (B := x2f a0 v3 (i : Int)) (R := fun r => r = (((twB a0[i] v3).length : Nat) : Int)) (fun j t => t = (j : Int) ∧ j ≤ v3.length ∧ ∀ q (h : q < v3.length), q < j → bl v3[q] < bl a0[i]) v3.length (by
    rintro j t ⟨rfl, hj, hq⟩
    refine ⟨hj, ?_⟩
    simp only [x2f]
    by_cases hlt : j < v3.length
    · rw [if_pos (by omega), ix_at hlt, ix_at hi]
      simp only [Option.bind_some]
      rw [xpdb]
      by_cases hl : bl v3[j] < bl a0[i]
      · rw [if_pos (by simpa using hl), wr_suc (by omega)]
        refine .inl ⟨_, rfl, rfl, by omega, fun q h hqj => ?_⟩
        by_cases e : q = j
        · subst e; exact hl
        · exact hq q h (by omega)
      · rw [if_neg (by simpa using hl)]
        exact .inr ⟨_, rfl, by rw [tw_at hj hq (fun _ => hl)]⟩
    · rw [if_neg (by omega)]
      exact .inr ⟨_, rfl, by rw [tw_at hj hq (fun h => absurd h hlt)]⟩) big 0 0 ⟨rfl, by omega, fun q h hq => by omega⟩ (by rw [big_eq]; omega)
  rw [h1, h2]
theorem x73 {v3 : List ByteArray} {k : Nat} (hk : k ≤ v3.length) (hv : v3.length ≤ 1000000) {B : (Int × List ByteArray) → Option (St (Int × List ByteArray) (List ByteArray))}
    (hB : ∀ j L, B (j, L) = if (k : Int) < j then (ix L (wr (j - 1))).bind fun a => (ix L j).bind fun _ => some (.nx ((wr (j - 1)), (L.set (j).toNat a))) else some (.out L)) :
    ∃ z, iter B big ((wr (((v3 ++ ([xl] : List ByteArray)).length : Int) - 1)), (v3 ++ ([xl] : List ByteArray))) = some (v3.take k ++ z :: v3.drop k) := by
  obtain ⟨r, h1, z, h2⟩ := xxf (B := B) (R := fun r => ∃ z, r = v3.take k ++ z :: v3.drop k) (fun i t => i ≤ v3.length - k ∧ ∃ z, t = (((v3.length - i : Nat) : Int), v3.take (v3.length - i) ++ z :: v3.drop (v3.length - i))) v3.length (by
    rintro i t ⟨hi, z, rfl⟩
    refine ⟨by omega, ?_⟩
    rw [hB]
    by_cases hlt : k < v3.length - i
    · obtain ⟨j, hj⟩ : ∃ j, v3.length - i = j + 1 := ⟨v3.length - i - 1, by omega⟩
      rw [hj]
      have hjl : j < v3.length := by omega
      rw [if_pos (by omega), wr_in (by omega) (by omega)]
      have e1 : ((j + 1 : Nat) : Int) - 1 = (j : Int) := by omega
      rw [e1]
      have hlen : (v3.take (j + 1) ++ z :: v3.drop (j + 1)).length = v3.length + 1 := by simp; omega
      rw [ix_at (by omega), ix_at (by omega)]
      simp only [Option.bind_some]
      refine .inl ⟨_, rfl, by omega, v3[j], ?_⟩
      have e2 : v3.length - (i + 1) = j := by omega
      rw [e2]
      congr 1
      have e3 : (v3.take (j + 1) ++ z :: v3.drop (j + 1))[j]'(by omega) = v3[j] := by
        rw [List.getElem_append_left (by simp; omega)]
        simp
      rw [e3]
      have e4 : ((j + 1 : Nat) : Int).toNat = j + 1 := by omega
      rw [e4, List.set_append_right _ _ (by simp; omega)]
      have e5 : j + 1 - (v3.take (j + 1)).length = 0 := by simp; omega
      rw [e5, List.set_cons_zero, List.take_succ_eq_append_getElem hjl, List.append_assoc]
      congr 1
      rw [List.drop_eq_getElem_cons hjl]
      rfl
    · rw [if_neg (by omega)]
      have e : v3.length - i = k := by omega
      rw [e]
      exact .inr ⟨_, rfl, z, rfl⟩) big 0 ((wr (((v3 ++ ([xl] : List ByteArray)).length : Int) - 1)), (v3 ++ ([xl] : List ByteArray))) ⟨Nat.zero_le _, xl, by
        simp only [Nat.sub_zero, List.take_length, List.drop_length]
        rw [wr_in (by simp <;> omega) (by simp <;> omega)]
        congr 1
        first | done | simp⟩ (by rw [big_eq]; omega)
  exact ⟨z, by rw [h1, h2]⟩
theorem xj7 (a b : List ByteArray) (z x : ByteArray) (k : Nat) (h : a.length = k) : (a ++ z :: b).set k x = a ++ x :: b := by
  subst h
  rw [List.set_append_right _ _ (Nat.le_refl _), Nat.sub_self, List.set_cons_zero]
theorem xs4 {l : List ByteArray} (h : l.length ≤ 100000) : xrd l = some (sortU l) := by
  unfold xrd
  have := xfi (B := xve l) (fun i d => (d, (i : Int))) l insU (fun d => d) (fun i d => d.length ≤ i) (by
    intro i d hi hd
    refine ⟨?_, by have := xfbb d l[i]; omega⟩
    simp only [xve]
    rw [if_pos (by omega), pos_eq hi (by omega)]
    simp only [Option.bind_some]
    have hdl := congrArg List.length (tw_dw l[i] d)
    rw [List.length_append] at hdl
    have hd1 := x5eb l[i] d
    have hd2 := xxeb l[i] d
    generalize hk : (twB l[i] d).length = k at *
    cases hdw : dwB l[i] d with
    | nil =>
      rw [hdw] at hdl hd1
      simp only [List.length_nil] at hdl
      rw [if_neg (by omega), ap_of (by simp; omega) (by decide)]
      simp only [Option.bind_some]
      obtain ⟨z, hz⟩ := x73 (v3 := d) (k := k) (by omega) (by omega) (B := xel (k : Int)) (fun j L => rfl)
      rw [hz]
      simp only [Option.bind_some]
      have hlen : (d.take k ++ z :: d.drop k).length = d.length + 1 := by simp; omega
      rw [ix_at hi]
      simp only [Option.bind_some]
      rw [ix_at (by omega)]
      simp only [Option.bind_some]
      rw [wr_suc (by omega)]
      have e4 : ((k : Nat) : Int).toNat = k := by omega
      rw [e4, xj7 _ _ _ _ k (by simp; omega), hd1, hd2]
      have : insU d l[i] = twB l[i] d ++ [l[i]] := by unfold insU; rw [hdw]
      rw [this]
    | cons b B =>
      rw [hdw] at hdl hd1
      simp only [List.length_cons] at hdl
      have hkd : k < d.length := by omega
      rw [if_pos (by omega), ix_at hkd, ix_at hi]
      simp only [Option.bind_some]
      have hb : d[k] = b := by
        rw [List.drop_eq_getElem_cons hkd] at hd1
        injection hd1
      rw [hb]
      by_cases hbx : b = l[i]
      · rw [if_pos hbx, wr_suc (by omega)]
        have : insU d l[i] = d := by unfold insU; rw [hdw]; exact if_pos hbx
        rw [this]
      · rw [if_neg hbx, ap_of (by simp; omega) (by decide)]
        simp only [Option.bind_some]
        obtain ⟨z, hz⟩ := x73 (v3 := d) (k := k) (by omega) (by omega) (B := xfl (k : Int)) (fun j L => rfl)
        rw [hz]
        simp only [Option.bind_some]
        have hlen : (d.take k ++ z :: d.drop k).length = d.length + 1 := by simp; omega
        rw [ix_at (by omega)]
        simp only [Option.bind_some]
        rw [wr_suc (by omega)]
        have e4 : ((k : Nat) : Int).toNat = k := by omega
        rw [e4, xj7 _ _ _ _ k (by simp; omega), hd1, hd2]
        have : insU d l[i] = twB l[i] d ++ l[i] :: b :: B := by unfold insU; rw [hdw]; exact if_neg hbx
        rw [this]) (by
    intro d hd
    simp only [xve]
    rw [if_neg (by omega)]) (s0 := []) (Nat.le_refl _) (fuel := big) (by rw [big_eq]; omega)
  have e0 : ((0 : Nat) : Int) = 0 := rfl
  rw [e0] at this
  rw [this.1]
  rfl
theorem xdab {a b : List ByteArray} (h : a.length ≤ 1000000000) : xic a b = some (decide (a = b)) := by
  unfold xic
  by_cases hl : a.length = b.length
  · rw [if_pos (by omega), eqLoop hl h]
    · by_cases he : a = b <;> simp [he]
    · intro i h1 h2
      simp only [xpc]
      rw [if_pos (by omega), ix_at h1, ix_at h2]
      simp only [Option.bind_some]
      rw [wr_suc (by omega)]
    · simp only [xpc]
      rw [if_neg (by omega)]
  · rw [if_neg (by omega)]
    have : ¬ a = b := by rintro rfl; exact hl rfl
    simp [this]
end Go.Proofs.YtfefidkblgendaaGreatDoor.AL

/- Plain laws of chapter 16: names, and the two laws. -/
set_option linter.all false
namespace Go.Proofs.YtfefidkblgendaaGreatDoor.AL
open Go Go.Proofs
theorem x4x {α : Type} {p : α → Option Bool} (f : α → Bool) : ∀ (l : List α), (∀ x ∈ l, p x = some (f x)) → delM p l = some (l.filter fun x => !f x)
  | [], _ => rfl
  | x :: l, h => by
    unfold delM
    rw [h x (by simp), x4x f l fun y hy => h y (by simp [hy])]
    simp only [Option.bind_some, List.filter_cons]
    cases f x <;> rfl
def fndQ (bs : List Branch) (l : List Place) (nm : ByteArray) : Bool := !decide ((findQ bs l nm).1 = 0)
def addQ (bs : List Branch) (p : ByteArray → Bool) (d : List ByteArray) (x : Place) : List ByteArray := if (nodeQ bs x).kind = 1 then d ++ ((nodeQ bs x).entries.map (·.name)).filter p else d
def allQ (bs : List Branch) (p : ByteArray → Bool) (l : List Place) : List ByteArray := l.foldl (addQ bs p) []
theorem xyr (bs : List Branch) (p : ByteArray → Bool) (nm : ByteArray) : ∀ (l : List Place) (d : List ByteArray), nm ∈ l.foldl (addQ bs p) d ↔ nm ∈ d ∨ (p nm = true ∧ ∃ x ∈ l, (nodeQ bs x).kind = 1 ∧ ∃ e ∈ (nodeQ bs x).entries, e.name = nm)
  | [], d => by simp
  | x :: l, d => by
    rw [List.foldl_cons, xyr bs p nm l]
    have h1 : nm ∈ addQ bs p d x ↔ nm ∈ d ∨ (p nm = true ∧ (nodeQ bs x).kind = 1 ∧ ∃ e ∈ (nodeQ bs x).entries, e.name = nm) := by
      unfold addQ
      split
      · rename_i hk
        simp only [List.mem_append, List.mem_filter, List.mem_map, hk, true_and]
        constructor
        · rintro (h | ⟨h1, h2⟩)
          · exact .inl h
          · exact .inr ⟨h2, h1⟩
        · rintro (h | ⟨h1, h2⟩)
          · exact .inl h
          · exact .inr ⟨h2, h1⟩
      · rename_i hk
        simp [hk]
    rw [h1]
    constructor
    · rintro ((h | ⟨h1, h2⟩) | ⟨h1, y, hy, h2⟩)
      · exact .inl h
      · exact .inr ⟨h1, x, by simp, h2⟩
      · exact .inr ⟨h1, y, by simp [hy], h2⟩
    · rintro (h | ⟨g1, y, hy, g2⟩)
      · exact .inl (.inl h)
      · rcases List.mem_cons.1 hy with rfl | hy
        · exact .inl (.inr ⟨g1, g2⟩)
        · exact .inr ⟨g1, y, hy, g2⟩
theorem xhx {bs : List Branch} (h : PQ bs) (p : ByteArray → Bool) (d : List ByteArray) (x : Place) : (addQ bs p d x).length ≤ d.length + 16 := by
  unfold addQ
  split
  · have h1 := (xeg h x).ents
    have h2 := List.length_filter_le p ((nodeQ bs x).entries.map (·.name))
    simp only [List.length_append, List.length_map] at *
    omega
  · omega
theorem x4r {bs : List Branch} (h : PQ bs) (p : ByteArray → Bool) : ∀ (l : List Place) (d : List ByteArray), (l.foldl (addQ bs p) d).length ≤ d.length + 16 * l.length
  | [], d => by simp
  | x :: l, d => by
    have h1 := x4r h p l (addQ bs p d x)
    have h2 := xhx h p d x
    simp only [List.foldl_cons, List.length_cons]
    omega
def namesQ (bs : List Branch) (l : List Place) : List ByteArray := sortQ (allQ bs (fndQ bs l) l)
theorem xi8 (es : List Entry) : ∀ (d : List ByteArray), es.foldl (fun d e => d ++ [e.name]) d = d ++ es.map (·.name) := by
  induction es with
  | nil => intro d; simp
  | cons e es ih => intro d; rw [List.foldl_cons, ih]; simp
theorem xmab {n : Node} (h : NB n) {d : List ByteArray} (hd : d.length ≤ 1000000) : iter (xlf n) big (d, 0) = some (d ++ n.entries.map (·.name)) := by
  have hn := h.ents
  have := xfi (B := xlf n) (fun i d => (d, (i : Int))) n.entries (fun d e => d ++ [e.name]) (fun d => d) (fun i d' => d'.length ≤ d.length + i) (by
    intro i d' hi hd'
    simp only [xlf]
    refine ⟨?_, by simp; omega⟩
    rw [if_pos (by omega), ix_at hi]
    simp only [Option.bind_some]
    rw [ap_of (by simp; omega) (by decide), wr_suc (by omega)]
    rfl) (by
    intro d' hd'
    simp only [xlf]
    rw [if_neg (by omega)]) (s0 := d) (Nat.le_refl _) (fuel := big) (by rw [big_eq]; omega)
  have e0 : ((0 : Nat) : Int) = 0 := rfl
  rw [e0] at this
  rw [this.1, xi8]
theorem x1ab {s : Stack} (h : PQ s.lowers) {l : List Place} (hl : l.length ≤ 1000) (nm : ByteArray) : xqd nm s l = some (!fndQ s.lowers l nm) := by
  unfold xqd fndQ
  rw [x8v h hl]
  simp only [Option.bind_some]
  by_cases hk : (findQ s.lowers l nm).1 = 0 <;> simp [hk]
theorem xg6 (l : List ByteArray) : l.filter (fun _ => true) = l := by simp
theorem x0cb {s : Stack} (h : PQ s.lowers) {l : List Place} (hl : l.length ≤ 1000) : x5j s l = some (namesQ s.lowers l) := by
  unfold x5j
  have := xfi (B := xkf s l) (fun i d => (d, (i : Int))) l (addQ s.lowers fun _ => true) (fun d => d) (fun i d => d.length ≤ 16 * i) (by
    intro i d hi hd
    refine ⟨?_, by have := xhx h (fun _ => true) d l[i]; omega⟩
    simp only [xkf]
    rw [if_pos (by omega), ix_at hi]
    simp only [Option.bind_some]
    rw [xjo h, wr_suc (by omega)]
    simp only [Option.bind_some, addQ]
    by_cases hk : (nodeQ s.lowers l[i]).kind = 1
    · rw [if_pos hk, if_pos hk, xmab (xeg h _) (by omega), xg6]
      rfl
    · rw [if_neg hk, if_neg hk]) (by
    intro d hd
    simp only [xkf]
    rw [if_neg (by omega)]) (s0 := []) (Nat.le_refl _) (fuel := big) (by rw [big_eq]; omega)
  have e0 : ((0 : Nat) : Int) = 0 := rfl
  rw [e0] at this
  rw [this.1]
  simp only [Option.bind_some]
  have hlen := x4r h (fun _ => true) l []
  simp only [List.length_nil] at hlen
  change (List.length (allQ s.lowers (fun _ => true) l)) ≤ _ at hlen
  change (x0c (allQ s.lowers (fun _ => true) l)).bind _ = _
  rw [xu3 (by omega)]
  simp only [Option.bind_some]
  have hsl := xfq (allQ s.lowers (fun _ => true) l)
  unfold xlg ck
  rw [if_pos (by omega)]
  simp only [Option.bind_some]
  rw [x4x (fun z => !fndQ s.lowers l z) _ fun x _ => x1ab h hl x]
  simp only [Option.bind_some, Bool.not_not]
  congr 1
  refine x0r (List.Pairwise.filter _ (xsi _)) (xsi _) fun x => ?_
  unfold namesQ
  rw [List.mem_filter, xbi, xbi]
  unfold allQ
  rw [xyr, xyr]
  simp only [List.not_mem_nil, false_or, true_and]
  exact ⟨fun ⟨a, b⟩ => ⟨b, a⟩, fun ⟨a, b⟩ => ⟨b, a⟩⟩
theorem x07 (p : ByteArray → Bool) (es : List Entry) : ∀ (d : List ByteArray), es.foldl (fun d e => if p e.name = true then d ++ [e.name] else d) d = d ++ (es.map (·.name)).filter p := by
  induction es with
  | nil => intro d; simp
  | cons e es ih =>
    intro d
    rw [List.foldl_cons, ih, List.map_cons, List.filter_cons]
    by_cases h : p e.name = true
    · rw [if_pos h, if_pos h]; simp
    · rw [if_neg h, if_neg h]
theorem xt8 {s : Stack} (h : PQ s.lowers) {l : List Place} (hl : l.length ≤ 1000) {n : Node} (hn : NB n) {d : List ByteArray} (hd : d.length ≤ 1000000) : iter (x5d s l n) big (d, 0) = some (if n.kind = 1 then d ++ (n.entries.map (·.name)).filter (fndQ s.lowers l) else d) := by
  have hne := hn.ents
  by_cases hk : n.kind = 1
  · rw [if_pos hk]
    have := xfi (B := x5d s l n) (fun i d => (d, (i : Int))) n.entries (fun d e => if fndQ s.lowers l e.name = true then d ++ [e.name] else d) (fun d => d) (fun i d' => d'.length ≤ d.length + i) (by
      intro i d' hi hd'
      simp only [x5d]
      rw [if_pos (by omega), if_pos hk, ix_at hi]
      simp only [Option.bind_some]
      rw [xfp h hl, wr_suc (by omega)]
      simp only [Option.bind_some]
      by_cases hf : (findQ s.lowers l n.entries[i].name).1 = 0
      · have : ¬ fndQ s.lowers l n.entries[i].name = true := by simp [fndQ, hf]
        rw [if_pos hf, if_neg this]
        exact ⟨rfl, by omega⟩
      · have : fndQ s.lowers l n.entries[i].name = true := by simp [fndQ, hf]
        rw [if_neg hf, if_pos this, ap_of (by simp; omega) (by decide)]
        exact ⟨rfl, by simp; omega⟩) (by
      intro d' hd'
      simp only [x5d]
      rw [if_neg (by omega)]) (s0 := d) (Nat.le_refl _) (fuel := big) (by rw [big_eq]; omega)
    have e0 : ((0 : Nat) : Int) = 0 := rfl
    rw [e0] at this
    rw [this.1, x07]
  · rw [if_neg hk, show big = 999999999999999999 + 1 from rfl, xyf]
    simp only [x5d]
    split <;> rfl
theorem xc9 {s : Stack} (h : PQ s.lowers) {l : List Place} (hl : l.length ≤ 1000) : x9j s l = some (namesQ s.lowers l) := by
  unfold x9j
  have := xfi (B := xif s l) (fun i d => (d, (i : Int))) l (addQ s.lowers (fndQ s.lowers l)) (fun d => d) (fun i d => d.length ≤ 16 * i) (by
    intro i d hi hd
    refine ⟨?_, by have := xhx h (fndQ s.lowers l) d l[i]; omega⟩
    simp only [xif]
    rw [if_pos (by omega), ix_at hi]
    simp only [Option.bind_some]
    rw [lowerQ h, wr_suc (by omega)]
    simp only [Option.bind_some, addQ]
    rw [xt8 h hl (xeg h _) (by omega)]
    rfl) (by
    intro d hd
    simp only [xif]
    rw [if_neg (by omega)]) (s0 := []) (Nat.le_refl _) (fuel := big) (by rw [big_eq]; omega)
  have e0 : ((0 : Nat) : Int) = 0 := rfl
  rw [e0] at this
  rw [this.1]
  simp only [Option.bind_some]
  have hlen := x4r h (fndQ s.lowers l) l []
  simp only [List.length_nil] at hlen
  change (List.length (allQ s.lowers (fndQ s.lowers l) l)) ≤ _ at hlen
  change (xrd (allQ s.lowers (fndQ s.lowers l) l)).bind _ = _
  rw [xs4 (by omega), xsw]
  rfl
theorem x2r {bs : List Branch} (h : PQ bs) (l : List Place) : (namesQ bs l).length ≤ 16 * l.length := by
  have h1 := xfq (allQ bs (fndQ bs l) l)
  have h2 := x4r h (fndQ bs l) l []
  simp only [List.length_nil] at h2
  unfold namesQ
  unfold allQ at *
  omega
theorem xz7 {bs : List Branch} (l : List Place) (nm : ByteArray) : nm ∈ namesQ bs l ↔ ¬ (findQ bs l nm).1 = 0 := by
  unfold namesQ
  rw [xbi]
  unfold allQ
  rw [xyr]
  simp only [List.not_mem_nil, false_or]
  constructor
  · rintro ⟨h, _⟩
    simpa [fndQ] using h
  · intro h
    refine ⟨by simp [fndQ, h], ?_⟩
    obtain ⟨x, hx, p, hp⟩ := xq8 h
    obtain ⟨_, _, h3, h4⟩ := xou hp
    exact ⟨x, hx, h3, h4⟩
theorem SB.pq {s : Stack} (h : SB s) : PQ s.lowers := ⟨h.low, fun b hb => h.lows b hb⟩
end Go.Proofs.YtfefidkblgendaaGreatDoor.AL

/- Plain laws: names. -/
set_option linter.all false
namespace Go.Proofs.YtfefidkblgendaaGreatDoor.AL
open Go Go.Proofs
def letP (n : Int) : Bool := decide ((97 ≤ n ∧ n ≤ 122) ∨ (48 ≤ n ∧ n ≤ 57) ∨ n = 46 ∨ n = 95 ∨ n = 45)
theorem xd2 (n : Int) : x0d n = some (letP n) := by
  unfold x0d letP
  repeat' split
  all_goals (congr 1; symm; first | (apply decide_eq_true; omega) | (apply decide_eq_false; omega))
theorem xw8 (n : Int) : xak n = some (letP n) := xd2 n
def rightP (s : ByteArray) : Bool := decide (1 ≤ s.size ∧ s.size ≤ 12 ∧ ¬ s = ⟨#[46]⟩ ∧ ¬ s = ⟨#[46, 46]⟩) && s.data.toList.all fun b => letP b.toNat
theorem bsize (s : ByteArray) : s.data.toList.length = s.size := by simp
theorem ixB_at {s : ByteArray} {i : Nat} (h : i < s.size) : ixB s (i : Int) = some (s.data.toList[i]'(by rw [bsize]; exact h)) := by
  unfold ixB
  rw [if_pos (by omega)]
  simp [h]
  rfl
theorem xh4 (s : ByteArray) : xoc s = some (rightP s) := by
  unfold xoc rightP
  by_cases h1 : (s.size : Int) < 1
  · rw [if_pos h1, decide_eq_false (by omega)]; rfl
  rw [if_neg h1]
  by_cases h2 : 12 < (s.size : Int)
  · rw [if_pos h2, decide_eq_false (by omega)]; rfl
  rw [if_neg h2]
  by_cases h3 : s = ⟨#[46]⟩
  · rw [if_pos h3, decide_eq_false (fun h => h.2.2.1 h3)]; rfl
  rw [if_neg h3]
  by_cases h4 : s = ⟨#[46, 46]⟩
  · rw [if_pos h4, decide_eq_false (fun h => h.2.2.2 h4)]; rfl
  rw [if_neg h4, decide_eq_true ⟨by omega, by omega, h3, h4⟩]
  have hb := bsize s
  obtain ⟨r, e1, e2⟩ := xxf (B := x8d s) (R := fun r => match r with | .inl _ => (s.data.toList.all fun b => letP b.toNat) = true | .inr r => r = false ∧ (s.data.toList.all fun b => letP b.toNat) = false)
    (fun i t => t = (i : Int) ∧ i ≤ s.size ∧ ∀ j (h : j < s.data.toList.length), j < i → letP (s.data.toList[j]).toNat = true) s.size (by
    rintro i t ⟨rfl, hi, hj⟩
    refine ⟨hi, ?_⟩
    simp only [x8d]
    by_cases hlt : i < s.size
    · rw [if_pos (by omega), ixB_at hlt]
      simp only [Option.bind_some]
      rw [xd2]
      simp only [Option.bind_some]
      by_cases hl : letP (s.data.toList[i]'(by omega)).toNat = true
      · rw [hl, if_neg (by simp), wr_suc (by omega)]
        refine .inl ⟨_, rfl, rfl, by omega, fun j h hj' => ?_⟩
        by_cases e : j = i
        · subst e; exact hl
        · exact hj j h (by omega)
      · rw [if_pos (by simpa using hl)]
        refine .inr ⟨_, rfl, rfl, ?_⟩
        rw [List.all_eq_false]
        exact ⟨_, List.getElem_mem (by omega), hl⟩
    · rw [if_neg (by omega)]
      refine .inr ⟨_, rfl, ?_⟩
      simp only
      rw [List.all_eq_true]
      intro b hb'
      obtain ⟨j, h, rfl⟩ := List.getElem_of_mem hb'
      exact hj j h (by omega)) big 0 0 ⟨rfl, by omega, fun j _ h => by omega⟩ (by rw [big_eq]; omega)
  rw [e1]
  cases r with
  | inl u => simp only at e2; rw [e2]; rfl
  | inr r => simp only at e2; rw [e2.1, e2.2]; rfl
theorem xax (s : ByteArray) : ∀ (f pos : Nat), pos ≤ s.size → s.size ≤ f + pos → (Lib.idxFuncFrom (fun x => !letP (x : Int)) true s f pos < 0 ↔ ∀ j (h : j < s.data.toList.length), pos ≤ j → letP (s.data.toList[j]).toNat = true)
  | 0, pos, h1, h2 => by
    have hb := bsize s
    simp only [Lib.idxFuncFrom]
    exact ⟨fun _ j h hj => by omega, fun _ => by omega⟩
  | f + 1, pos, h1, h2 => by
    have hb := bsize s
    unfold Lib.idxFuncFrom
    by_cases hlt : pos < s.size
    · rw [if_pos hlt]
      have hg : s[pos]'hlt = s.data.toList[pos]'(by omega) := rfl
      by_cases ha : (s[pos]'hlt).toNat < 128
      · rw [decode_ascii s pos hlt ha]
        simp only
        by_cases hl : letP ((s[pos]'hlt).toNat : Int) = true
        · rw [if_neg (by simp [hl])]
          rw [xax s f (pos + 1) (by omega) (by omega)]
          constructor
          · intro h j hj hpj
            by_cases e : j = pos
            · subst e; rw [← hg]; exact hl
            · exact h j hj (by omega)
          · intro h j hj hpj
            exact h j hj (by omega)
        · rw [if_pos (by simpa using hl)]
          constructor
          · intro h; omega
          · intro h
            have := h pos (by omega) (Nat.le_refl _)
            rw [← hg] at this
            exact absurd this hl
      · obtain ⟨d1, d2⟩ := decode_high s pos hlt (by omega)
        have hno : letP (((Utf8.decode s pos).1 : Nat) : Int) = false := by
          unfold letP
          apply decide_eq_false
          omega
        rw [if_pos (by simp [hno])]
        constructor
        · intro h; omega
        · intro h
          have := h pos (by omega) (Nat.le_refl _)
          rw [← hg] at this
          unfold letP at this
          have := of_decide_eq_true this
          omega
    · rw [if_neg hlt]
      exact ⟨fun _ j h hj => by omega, fun _ => by omega⟩
theorem x01 (s : ByteArray) : xig s = some (rightP s) := by
  have hb := bsize s
  unfold xig rightP
  by_cases h1 : (s.size : Int) = 0
  · rw [if_pos h1, decide_eq_false (by omega)]; rfl
  rw [if_neg h1]
  by_cases h2 : 12 < (s.size : Int)
  · rw [if_pos h2, decide_eq_false (by omega)]; rfl
  rw [if_neg h2]
  by_cases h3 : s = ⟨#[46]⟩
  · rw [if_pos h3, decide_eq_false (fun h => h.2.2.1 h3)]; rfl
  rw [if_neg h3]
  by_cases h4 : s = ⟨#[46, 46]⟩
  · rw [if_pos h4, decide_eq_false (fun h => h.2.2.2 h4)]; rfl
  rw [if_neg h4, decide_eq_true ⟨by omega, by omega, h3, h4⟩]
  have hp : ∀ x : Int, x7d x = some (!letP x) := fun x => by unfold x7d; rw [xw8]; rfl
  unfold idxFM ck
  rw [if_pos (fun x => by show (x7d _).isSome = true; rw [hp]; rfl)]
  simp only [Option.bind_some, hp, Option.getD_some]
  have key := xax s s.size 0 (by omega) (by omega)
  unfold Lib.idxFunc
  by_cases ha : (s.data.toList.all fun b => letP b.toNat) = true
  · rw [if_pos (key.2 fun j h _ => List.all_eq_true.1 ha _ (List.getElem_mem h)), ha]; rfl
  · rw [if_neg (fun h => ha (List.all_eq_true.2 fun b hb' => by obtain ⟨j, hj, rfl⟩ := List.getElem_of_mem hb'; exact key.1 h j hj (by omega)))]
    simp only [Bool.not_eq_true] at ha
    rw [ha]; rfl
end Go.Proofs.YtfefidkblgendaaGreatDoor.AL

/- Plain laws: the parts of a path. -/
set_option linter.all false
namespace Go.Proofs.YtfefidkblgendaaGreatDoor.AL
open Go Go.Proofs
def mkB (l : List UInt8) : ByteArray := ⟨l.toArray⟩
theorem xpz (l : List UInt8) : (mkB l).data.toList = l := rfl
theorem mkB_of (s : ByteArray) : mkB s.data.toList = s := rfl
theorem xg7 (a b : List UInt8) : mkB a ++ mkB b = mkB (a ++ b) := by
  apply ByteArray.ext
  simp [mkB]
theorem xhp (a : List UInt8) : (mkB a).size = a.length := by simp [mkB, ByteArray.size]
def splitL : List UInt8 → List (List UInt8)
  | [] => [[]]
  | b :: l => if b = 47 then [] :: splitL l else match splitL l with
    | [] => [[b]]
    | h :: t => (b :: h) :: t
theorem xcu (l : List UInt8) : splitL l ≠ [] := by
  cases l with
  | nil => simp [splitL]
  | cons b l =>
    unfold splitL
    split
    · simp
    · split <;> simp
theorem x8o (b : UInt8) (l : List UInt8) : List.isPrefixOf [47] (b :: l) = ((47 : UInt8) == b) := by simp [List.isPrefixOf]
theorem x6r (b : UInt8) (l sub : List UInt8) : Lib.index (b :: l) sub = if sub.isPrefixOf (b :: l) = true then 0 else if (Lib.index l sub == -1) = true then -1 else Lib.index l sub + 1 := rfl
theorem xiz : ∀ l : List UInt8, Lib.splitK [47] 0 (l.count 47) l = splitL l
  | [] => rfl
  | b :: l => by
    have ih := xiz l
    unfold splitL
    by_cases hb : b = 47
    · subst hb
      rw [if_pos rfl, List.count_cons_self]
      unfold Lib.splitK
      have hi : Lib.index (47 :: l) [47] = 0 := by rw [x6r, x8o]; rfl
      rw [hi]
      simp only [Int.reduceNeg, Int.reduceBEq, Bool.false_eq_true, if_false]
      rw [← ih]
      rfl
    · rw [if_neg hb, List.count_cons_of_ne hb]
      have hp : List.isPrefixOf [47] (b :: l) = false := by rw [x8o]; exact beq_eq_false_iff_ne.2 (fun h => hb h.symm)
      have hg := Lib.index_ge l [47]
      by_cases hm : Lib.index l [47] = -1
      · have hi : Lib.index (b :: l) [47] = -1 := by rw [x6r, hp, hm]; rfl
        have e1 : ∀ k, Lib.splitK [47] 0 k (b :: l) = [b :: l] := by
          intro k
          cases k with
          | zero => rfl
          | succ k => unfold Lib.splitK; rw [hi]; rfl
        have e2 : ∀ k, Lib.splitK [47] 0 k l = [l] := by
          intro k
          cases k with
          | zero => rfl
          | succ k => unfold Lib.splitK; rw [hm]; rfl
        rw [e2] at ih
        rw [e1, ← ih]
      · have hi : Lib.index (b :: l) [47] = Lib.index l [47] + 1 := by
          have : (Lib.index l [47] == -1) = false := beq_eq_false_iff_ne.2 hm
          rw [x6r, hp, this]
          rfl
        have hc := Lib.count_hit (s := l) (sub := [47]) (i := (Lib.index l [47]).toNat) (by simp) (by omega)
        rw [Lib.count_one] at hc
        obtain ⟨k, hk⟩ : ∃ k, l.count 47 = k + 1 := ⟨l.count 47 - 1, by omega⟩
        rw [hk] at ih ⊢
        unfold Lib.splitK at ih ⊢
        have n1 : ¬ (Lib.index l [47] == -1) = true := by simpa using hm
        have n2 : ¬ (Lib.index (b :: l) [47] == -1) = true := by rw [hi]; simp; omega
        rw [if_neg n1] at ih
        rw [if_neg n2, ← ih, hi]
        have e : (Lib.index l [47] + 1).toNat = (Lib.index l [47]).toNat + 1 := by omega
        rw [e]
        simp
def partsP (s : ByteArray) : List ByteArray := (splitL (s.data.toList.drop 1)).map mkB
def absP (s : ByteArray) : Bool := List.isPrefixOf [47] s.data.toList
theorem xv3 (s : ByteArray) : absP s = true ↔ s.data.toList[0]? = some 47 := by
  unfold absP
  cases h : s.data.toList with
  | nil => simp
  | cons b l =>
    rw [x8o]
    simp
    exact eq_comm
theorem xx7 {s : ByteArray} (hs : s.size ≤ 2000000) : xmi s = some (if absP s = true then (partsP s, true) else ([], false)) := by
  have hb := bsize s
  unfold xmi xnf
  simp only [Option.bind_some]
  have hd : (ByteArray.mk #[47]).data.toList = [47] := rfl
  have hh : Lib.hasPrefix s.data.toList [47] = absP s := rfl
  rw [hh]
  by_cases ha : absP s = true
  · rw [ha, if_neg (by simp), if_pos rfl]
    have ht : Lib.trimPrefix s.data.toList [47] = s.data.toList.drop 1 := by unfold Lib.trimPrefix; rw [hh, if_pos ha]; rfl
    rw [ht]
    unfold x1h ck
    have hsz : (⟨(s.data.toList.drop 1).toArray⟩ : ByteArray).size = s.size - 1 := by
      have := xhp (s.data.toList.drop 1)
      rw [List.length_drop, hb] at this
      exact this
    rw [if_pos ⟨by rw [hsz]; omega, by decide⟩]
    simp only [Option.bind_some]
    congr 2
    have h1 := Lib.splitB_data (ByteArray.mk #[47]) 0 (Lib.countB (mkB (s.data.toList.drop 1)) (ByteArray.mk #[47])) (mkB (s.data.toList.drop 1))
    rw [hd, xpz] at h1
    have h2 : Lib.countB (mkB (s.data.toList.drop 1)) (ByteArray.mk #[47]) = (s.data.toList.drop 1).count 47 := by
      show Lib.count (mkB (s.data.toList.drop 1)).data.toList (ByteArray.mk #[47]).data.toList = _
      rw [hd, xpz, Lib.count_one]
    rw [h2, xiz] at h1
    unfold partsP
    rw [← h1, List.map_map]
    have h3 : (mkB ∘ fun x : ByteArray => x.data.toList) = id := by funext x; rfl
    rw [h3, List.map_id]
    show Lib.splitB _ 0 (Lib.countB (mkB (s.data.toList.drop 1)) _) _ = _
    rw [h2]
    rfl
  · rw [if_neg ha]
    simp only [Bool.not_eq_true] at ha
    rw [ha]
    rfl
end Go.Proofs.YtfefidkblgendaaGreatDoor.AL

/- Plain laws: the document's parts, and joins. -/
set_option linter.all false
namespace Go.Proofs.YtfefidkblgendaaGreatDoor.AL
open Go Go.Proofs
def pStep (t : List (List UInt8) × List UInt8) (b : UInt8) : List (List UInt8) × List UInt8 := if b = 47 then (t.1 ++ [t.2], []) else (t.1, t.2 ++ [b])
theorem pFold : ∀ (l : List UInt8) (A : List (List UInt8)) (cur : List UInt8), (l.foldl pStep (A, cur)).1 ++ [(l.foldl pStep (A, cur)).2] = A ++ (match splitL l with | [] => [cur] | h :: t => (cur ++ h) :: t)
  | [], A, cur => by simp [splitL]
  | b :: l, A, cur => by
    rw [List.foldl_cons]
    unfold splitL pStep
    by_cases hb : b = 47
    · simp only [if_pos hb]
      have h := pFold l (A ++ [cur]) []
      unfold pStep at h
      rw [h]
      cases hsl : splitL l with
      | nil => exact absurd hsl (xcu l)
      | cons x t => simp
    · simp only [if_neg hb]
      have h := pFold l A (cur ++ [b])
      unfold pStep at h
      rw [h]
      cases hsl : splitL l with
      | nil => exact absurd hsl (xcu l)
      | cons x t => simp
theorem xx6 (s : ByteArray) (i : Nat) (h : i < s.size) : s.extract i (i + 1) = mkB [s.data.toList[i]'(by rw [bsize]; exact h)] := by
  have hb := bsize s
  rw [← mkB_of (s.extract i (i + 1)), Lib.extract_data]
  congr 1
  rw [show i + 1 - i = 1 by omega]
  rw [List.take_one, List.head?_drop, List.getElem?_eq_getElem (by omega)]
  rfl
theorem xa6 {s : ByteArray} (hs : s.size ≤ 2000000) (h1 : 1 ≤ s.size) : xbh s = some (partsP s) := by
  have hb := bsize s
  unfold xbh
  have key := xfi (B := xhf s) (fun (i : Nat) (t : List (List UInt8) × List UInt8) => ((t.1 ++ [t.2]).map mkB, (i : Int) + 1)) (s.data.toList.drop 1) pStep (fun t => (t.1 ++ [t.2]).map mkB) (fun i t => t.1.length ≤ i ∧ t.2.length ≤ i) (by
    rintro i ⟨A, cur⟩ hi ⟨hA, hc⟩
    simp only at hA hc
    have hi' : i + 1 < s.size := by simp at hi; omega
    have hx : (s.data.toList.drop 1)[i] = s.data.toList[i + 1]'(by omega) := by
      rw [List.getElem_drop]
      congr 1
      omega
    rw [hx]
    generalize hbv : s.data.toList[i + 1]'(by omega) = b
    refine ⟨?_, ?_⟩
    rotate_left
    · unfold pStep
      split
      · simp; omega
      · simp; omega
    simp only [xhf]
    have hix : ixB s ((i : Int) + 1) = some b := by
      have := ixB_at (s := s) (i := i + 1) hi'
      rw [hbv] at this
      exact this
    have hwr : wr ((i : Int) + 1 + 1) = ((i + 1 : Nat) : Int) + 1 := by rw [wr_in (by omega) (by omega)]; omega
    rw [if_pos (by omega), hix]
    simp only [Option.bind_some]
    by_cases hb47 : b = 47
    · have e47 : (b.toNat : Int) = 47 := by subst hb47; rfl
      rw [if_pos e47, ap_of (by simp; omega) (by omega), hwr]
      simp only [Option.bind_some, pStep, if_pos hb47]
      congr 2
      simp [mkB, xl]
    · have e47 : ¬ (b.toNat : Int) = 47 := by
        intro h
        apply hb47
        apply UInt8.toNat.inj
        have : b.toNat = 47 := by omega
        rw [this]; rfl
      have hlen : (((A ++ [cur]).map mkB).length : Int) - 1 = (A.length : Int) := by simp
      have hw : wr ((((A ++ [cur]).map mkB).length : Int) - 1) = (A.length : Int) := by rw [hlen, wr_in (by omega) (by omega)]
      rw [if_neg e47, hw, ix_at (show A.length < ((A ++ [cur]).map mkB).length by simp)]
      simp only [Option.bind_some]
      have hst : strM s (some ((i : Int) + 1)) (some (wr ((i : Int) + 1 + 1))) = some (mkB [b]) := by
        unfold strM
        rw [hwr]
        simp only [Option.getD_some]
        rw [if_pos (by omega)]
        have e1 : ((i : Int) + 1).toNat = i + 1 := by omega
        have e2 : (((i + 1 : Nat) : Int) + 1).toNat = i + 1 + 1 := by omega
        rw [e1, e2, xx6 s (i + 1) hi', hbv]
      rw [hst]
      simp only [Option.bind_some]
      have hel : ((A ++ [cur]).map mkB)[A.length]'(by simp) = mkB cur := by simp
      rw [hel]
      unfold ck
      rw [if_pos (by rw [xhp, xhp]; simp; omega)]
      simp only [Option.bind_some, hwr, pStep, if_neg hb47]
      congr 2
      simp only [Int.toNat_natCast]
      rw [xg7, List.map_append, List.map_append]
      simp) (by
    rintro ⟨A, cur⟩ _
    simp only [xhf]
    rw [if_neg (by simp; omega)]) (s0 := ([], [])) (by simp) (fuel := big) (by rw [big_eq]; simp; omega)
  have h2 := key.1
  have e1 : ((([] : List (List UInt8)) ++ [([] : List UInt8)]).map mkB, ((0 : Nat) : Int) + 1) = (([xl] : List ByteArray), (1 : Int)) := rfl
  simp only at h2
  rw [e1] at h2
  rw [h2]
  simp only [Option.bind_some]
  congr 1
  unfold partsP
  rw [pFold]
  cases hsl : splitL (s.data.toList.drop 1) with
  | nil => exact absurd hsl (xcu _)
  | cons x t => simp
end Go.Proofs.YtfefidkblgendaaGreatDoor.AL

/- Plain laws: paths: split, cleaned, redirects, beginnings. -/
set_option linter.all false
namespace Go.Proofs.YtfefidkblgendaaGreatDoor.AL
open Go Go.Proofs
theorem xoy : ∀ l : List UInt8, (splitL l).length ≤ l.length + 1
  | [] => by simp [splitL]
  | b :: l => by
    have ih := xoy l
    unfold splitL
    split
    · simp; omega
    · split
      · simp
      · rename_i h t e
        rw [e] at ih
        simp only [List.length_cons] at ih ⊢
        omega
theorem x9n (s : ByteArray) : (partsP s).length ≤ s.size + 1 := by
  have := xoy (s.data.toList.drop 1)
  have hb := bsize s
  unfold partsP
  simp only [List.length_map, List.length_drop] at this ⊢
  omega
theorem xq5 {s : ByteArray} (h : absP s = true) : 1 ≤ s.size := by
  rw [xv3] at h
  have := (List.getElem?_eq_some_iff.1 h).1
  rw [bsize] at this
  omega
theorem abs_ix {s : ByteArray} (h : 1 ≤ s.size) : ∃ b, ixB s 0 = some b ∧ ((b.toNat : Int) = 47 ↔ absP s = true) := by
  have hb := bsize s
  refine ⟨_, ixB_at (s := s) (i := 0) (by omega), ?_⟩
  rw [xv3, List.getElem?_eq_getElem (by omega), Option.some.injEq]
  constructor
  · intro e
    apply UInt8.toNat.inj
    have : (s.data.toList[0]'(by omega)).toNat = 47 := by omega
    rw [this]; rfl
  · intro e; rw [e]; rfl
def rootB : ByteArray := ⟨#[47]⟩
def splitP (s : ByteArray) : List ByteArray × Bool := if s = rootB then ([], true) else if absP s = true ∧ (partsP s).all rightP = true then (partsP s, true) else ([], false)
theorem xmz {s : ByteArray} (hs : s.size ≤ 2000000) : xhg s = some (splitP s) := by
  have hl := x9n s
  unfold xhg splitP
  rw [xx7 hs]
  simp only [Option.bind_some]
  by_cases h1 : s = rootB
  · have h1' : s = ByteArray.mk #[47] := h1
    rw [if_pos h1', if_pos h1]
  · have h1' : ¬ s = ByteArray.mk #[47] := h1
    rw [if_neg h1', if_neg h1]
    by_cases ha : absP s = true
    · rw [if_pos ha, if_neg (by simp), xtl (f := fun z => !rightP z) _ (fun z _ => by unfold xng; rw [x01]; rfl) (by show (partsP s).length < _; omega)]
      simp only [Option.bind_some]
      by_cases hr : (partsP s).all rightP = true
      · have : ¬ ((partsP s).any fun z => !rightP z) = true := by
          rw [List.all_eq_true] at hr
          simp only [List.any_eq_true, not_exists, not_and]
          intro x hx
          simp [hr x hx]
        rw [if_neg this, if_pos ⟨ha, hr⟩]
      · have : ((partsP s).any fun z => !rightP z) = true := by
          simp only [Bool.not_eq_true, List.all_eq_false] at hr
          obtain ⟨x, hx, hn⟩ := hr
          exact List.any_eq_true.2 ⟨x, hx, by simpa using hn⟩
        rw [if_pos this, if_neg (fun h => hr h.2)]
    · rw [if_neg ha, if_pos (by simp), if_neg (fun h => ha h.1)]
theorem xpw {s : ByteArray} (hs : s.size ≤ 2000000) : xrf s = some (splitP s) := by
  have hl := x9n s
  unfold xrf splitP
  by_cases h1 : s = rootB
  · have h1' : s = ByteArray.mk #[47] := h1
    rw [if_pos h1', if_pos h1]
  · have h1' : ¬ s = ByteArray.mk #[47] := h1
    rw [if_neg h1', if_neg h1]
    by_cases h0 : (s.size : Int) = 0
    · rw [if_pos h0, if_neg (fun h => by have := xq5 h.1; omega)]
    · rw [if_neg h0]
      obtain ⟨b, e1, e2⟩ := abs_ix (s := s) (by omega)
      rw [e1]
      simp only [Option.bind_some]
      by_cases ha : absP s = true
      · rw [if_pos (e2.2 ha), xa6 hs (by omega)]
        simp only [Option.bind_some]
        generalize partsP s = l at hl
        obtain ⟨r, g1, g2⟩ := xxf (B := x2g l) (R := fun r => match r with | .inl _ => l.all rightP = true | .inr q => q = ([], false) ∧ ¬ l.all rightP = true)
          (fun i t => t = (i : Int) ∧ i ≤ l.length ∧ ∀ j (h : j < l.length), j < i → rightP l[j] = true) l.length (by
          rintro i t ⟨rfl, hi, hj⟩
          refine ⟨hi, ?_⟩
          simp only [x2g]
          by_cases hlt : i < l.length
          · rw [if_pos (by omega), ix_at hlt]
            simp only [Option.bind_some]
            rw [xh4]
            simp only [Option.bind_some]
            by_cases hr : rightP l[i] = true
            · rw [hr, if_neg (by simp), wr_suc (by omega)]
              refine .inl ⟨_, rfl, rfl, by omega, fun j h hj' => ?_⟩
              by_cases e : j = i
              · subst e; exact hr
              · exact hj j h (by omega)
            · rw [if_pos (by simpa using hr)]
              exact .inr ⟨_, rfl, rfl, fun h => hr (List.all_eq_true.1 h _ (List.getElem_mem hlt))⟩
          · rw [if_neg (by omega)]
            refine .inr ⟨_, rfl, ?_⟩
            simp only
            rw [List.all_eq_true]
            intro x hx
            obtain ⟨j, h, rfl⟩ := List.getElem_of_mem hx
            exact hj j h (by omega)) big 0 0 ⟨rfl, by omega, fun j _ h => by omega⟩ (by rw [big_eq]; omega)
        rw [g1]
        simp only [Option.bind_some]
        cases r with
        | inl u => simp only at g2; rw [if_pos ⟨ha, g2⟩]
        | inr q => simp only at g2; rw [if_neg (fun h => g2.2 h.2), g2.1]
      · rw [if_neg (fun h => ha (e2.1 h)), if_neg (fun h => ha h.1)]
def redirP (s : ByteArray) : List ByteArray × Bool × Bool := if 24 < s.size then ([], false, false) else if absP s = true then ((splitP s).1, (splitP s).2, (splitP s).2) else if rightP s = true then ([s], false, true) else ([], false, false)
theorem xx2 {s : ByteArray} (hs : s.size ≤ 2000000) : xld s = some (redirP s) := by
  unfold xld redirP xmf
  by_cases h1 : 24 < s.size
  · rw [if_pos (by omega), if_pos h1]
  · rw [if_neg (by omega), if_neg h1]
    simp only [Option.bind_some]
    have hh : Lib.hasPrefix s.data.toList (ByteArray.mk #[47]).data.toList = absP s := rfl
    rw [hh]
    by_cases ha : absP s = true
    · rw [if_pos ha, if_pos ha, xmz hs]; rfl
    · rw [if_neg ha, if_neg ha, x01]
      simp only [Option.bind_some]
      by_cases hr : rightP s = true
      · rw [if_pos hr, if_pos hr]
      · rw [if_neg hr, if_neg hr]
theorem xtz {s : ByteArray} (hs : s.size ≤ 2000000) : xdd s = some (redirP s) := by
  have tail : ((xoc s).bind fun v12 => if v12 = true then some (([s] : List ByteArray), false, true) else some ([], false, false)) = some (if rightP s = true then ([s], false, true) else ([], false, false)) := by
    rw [xh4]
    simp only [Option.bind_some]
    by_cases hr : rightP s = true
    · rw [if_pos hr, if_pos hr]
    · rw [if_neg hr, if_neg hr]
  unfold xdd redirP
  by_cases h1 : 24 < s.size
  · rw [if_pos (by omega), if_pos h1]
  · rw [if_neg (by omega), if_neg h1]
    by_cases h0 : 0 < s.size
    · rw [if_pos (by omega)]
      obtain ⟨b, e1, e2⟩ := abs_ix (s := s) (by omega)
      rw [e1]
      simp only [Option.bind_some]
      by_cases ha : absP s = true
      · rw [if_pos (e2.2 ha), if_pos ha, xpw hs]; rfl
      · rw [if_neg (fun h => ha (e2.1 h)), if_neg ha]
        exact tail
    · rw [if_neg (by omega), if_neg (fun h => by have := xq5 h; omega)]
      exact tail
end Go.Proofs.YtfefidkblgendaaGreatDoor.AL

