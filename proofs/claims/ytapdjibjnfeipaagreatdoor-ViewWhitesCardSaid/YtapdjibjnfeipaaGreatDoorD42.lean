/- A law of the given program is proved: part 42 of 51. -/
import Derived.Laws.RangeAny
import Derived.Lib.SplitLaws
import Derived.Lib.Join
import Derived.Test.YtapdjibjnfeipaaGreatDoorD41
set_option linter.all false
/- Models of functions, and that the functions are as their models: written by gen.py. -/
set_option linter.all false
set_option maxRecDepth 100000
namespace Go.Proofs.YtapdjibjnfeipaaGreatDoor.AL
open Go Go.Proofs
def xyb (a0 : List Branch) (a1 : Place) : Option (Node) := if a1.layer < 1 then some (⟨0, 0, 0, 0, [], [], (⟨0, 0, xl, (⟨0, 0, 0⟩ : Origin), 0⟩ : Attr)⟩ : Node)
 else if (a0.length : Int) < a1.layer then some (⟨0, 0, 0, 0, [], [], (⟨0, 0, xl, (⟨0, 0, 0⟩ : Origin), 0⟩ : Attr)⟩ : Node)
 else (ix a0 (wr (a1.layer - 1))).bind fun v5 => if a1.ino < 1 then some (⟨0, 0, 0, 0, [], [], (⟨0, 0, xl, (⟨0, 0, 0⟩ : Origin), 0⟩ : Attr)⟩ : Node)
 else if (v5.nodes.length : Int) < a1.ino then some (⟨0, 0, 0, 0, [], [], (⟨0, 0, xl, (⟨0, 0, 0⟩ : Origin), 0⟩ : Attr)⟩ : Node)
 else (ix v5.nodes (wr (a1.ino - 1))).bind fun v12 => some v12
def x1d := aI (aI (aI (@EV) (aI (@R3) (@R24))) (aI (@R26) (aI (@R45) (@R68)))) (aI (aI (@R106) (aI (@DBranch) (@DPlace))) (aI (@DEntry) (aI (@DAttr) (@DNode))))
set_option maxHeartbeats 2000000 in
theorem xse (a0 : List Branch) (a1 : Place) (r : Node) (hm0 : xyb a0 a1 = some r) : Ok Tryz.prog 86 [.sl 1 (a0.map xk), xg a1] (xh r) := by
 unfold xyb at hm0
 refine okG xtr ?_
 unfold xol
 rcases iteE hm0 with ⟨e2, hm0⟩ | ⟨e2, hm0⟩
 · obtain rfl := Option.some.inj hm0
   simp only [e2, x1d, ↓EVd, isCall, sevalprocAttr]
   all_goals first | done | rfl | exact xj (by simp only [CLO]) | exact xv (by simp only [CLO]) (Sub.agg (Subs.cons (Sub.refl _) (Subs.cons (Sub.refl _) (Subs.cons (Sub.refl _) (Subs.cons (Sub.refl _) (Subs.cons (Sub.nilS _) (Subs.cons (Sub.nilS _) (Subs.cons (Sub.refl _) (Subs.cons (Sub.refl _) (Subs.cons (Sub.refl _) (Subs.cons (Sub.refl _) (Subs.cons (Sub.refl _) (Subs.cons (Sub.refl _) (Subs.cons (Sub.refl _) (Subs.nil)))))))))))))))
 rcases iteE hm0 with ⟨e4, hm0⟩ | ⟨e4, hm0⟩
 · obtain rfl := Option.some.inj hm0
   simp only [e2, e4, x1d, ↓EVd, isCall, sevalprocAttr]
   all_goals first | done | rfl | exact xj (by simp only [CLO]) | exact xv (by simp only [CLO]) (Sub.agg (Subs.cons (Sub.refl _) (Subs.cons (Sub.refl _) (Subs.cons (Sub.refl _) (Subs.cons (Sub.refl _) (Subs.cons (Sub.nilS _) (Subs.cons (Sub.nilS _) (Subs.cons (Sub.refl _) (Subs.cons (Sub.refl _) (Subs.cons (Sub.refl _) (Subs.cons (Sub.refl _) (Subs.cons (Sub.refl _) (Subs.cons (Sub.refl _) (Subs.cons (Sub.refl _) (Subs.nil)))))))))))))))
 obtain ⟨v5, e7, hm0⟩ := ixE xk hm0
 rcases iteE hm0 with ⟨e9, hm0⟩ | ⟨e9, hm0⟩
 · obtain rfl := Option.some.inj hm0
   simp only [e2, e4, e7, e9, x1d, ↓EVd, isCall, sevalprocAttr]
   all_goals first | done | rfl | exact xj (by simp only [CLO]) | exact xv (by simp only [CLO]) (Sub.agg (Subs.cons (Sub.refl _) (Subs.cons (Sub.refl _) (Subs.cons (Sub.refl _) (Subs.cons (Sub.refl _) (Subs.cons (Sub.nilS _) (Subs.cons (Sub.nilS _) (Subs.cons (Sub.refl _) (Subs.cons (Sub.refl _) (Subs.cons (Sub.refl _) (Subs.cons (Sub.refl _) (Subs.cons (Sub.refl _) (Subs.cons (Sub.refl _) (Subs.cons (Sub.refl _) (Subs.nil)))))))))))))))
 rcases iteE hm0 with ⟨e11, hm0⟩ | ⟨e11, hm0⟩
 · obtain rfl := Option.some.inj hm0
   simp only [e2, e4, e7, e9, e11, x1d, ↓EVd, isCall, sevalprocAttr]
   all_goals first | done | rfl | exact xj (by simp only [CLO]) | exact xv (by simp only [CLO]) (Sub.agg (Subs.cons (Sub.refl _) (Subs.cons (Sub.refl _) (Subs.cons (Sub.refl _) (Subs.cons (Sub.refl _) (Subs.cons (Sub.nilS _) (Subs.cons (Sub.nilS _) (Subs.cons (Sub.refl _) (Subs.cons (Sub.refl _) (Subs.cons (Sub.refl _) (Subs.cons (Sub.refl _) (Subs.cons (Sub.refl _) (Subs.cons (Sub.refl _) (Subs.cons (Sub.refl _) (Subs.nil)))))))))))))))
 obtain ⟨v12, e14, hm0⟩ := ixE xh hm0
 obtain rfl := Option.some.inj hm0
 simp only [e2, e4, e7, e9, e11, e14, x1d, ↓EVd, isCall, sevalprocAttr]
 all_goals first | done | rfl | exact xj (by simp only [CLO])
def xzc (a0 : Node) : Option (Bool) := if 0 ≤ a0.attr.has then if (bAnd .i64 a0.attr.has 1) = 0 then some false
 else if a0.attr.opaque0 = 121 then some true
 else some false
 else some false
def xeh := aI (aI (@EV) (aI (@R3) (@R66))) (aI (aI (@R68) (@DEntry)) (aI (@DAttr) (@DNode)))
set_option maxHeartbeats 2000000 in
theorem xkn (a0 : Node) (r : Bool) (hm0 : xzc a0 = some r) : Ok Tryz.prog 67 [xh a0] (bool r) := by
 unfold xzc at hm0
 refine okG xku ?_
 unfold x6n
 rcases iteE hm0 with ⟨e2, hm0⟩ | ⟨e2, hm0⟩
 · rcases iteE hm0 with ⟨e4, hm0⟩ | ⟨e4, hm0⟩
   · obtain rfl := Option.some.inj hm0
     simp only [e2, e4, xeh, ↓EVd, isCall, sevalprocAttr]
     all_goals first | done | rfl
   rcases iteE hm0 with ⟨e6, hm0⟩ | ⟨e6, hm0⟩
   · obtain rfl := Option.some.inj hm0
     simp only [e2, e4, e6, xeh, ↓EVd, isCall, sevalprocAttr]
     all_goals first | done | rfl
   obtain rfl := Option.some.inj hm0
   simp only [e2, e4, e6, xeh, ↓EVd, isCall, sevalprocAttr]
   all_goals first | done | rfl
 obtain rfl := Option.some.inj hm0
 simp only [e2, xeh, ↓EVd, isCall, sevalprocAttr]
 all_goals first | done | rfl
def xwd (a0 : List Branch) (a1 : Place) (a2 : ByteArray) (v1 : Node) : Int → Option (St (Int) ((Unit) ⊕ (Place × Node)))
 | v6 => if v6 < (v1.entries.length : Int) then (ix v1.entries v6).bind fun v10 => (xyb a0 (⟨a1.layer, v10.ino⟩ : Place)).bind fun v14 => if v10.name = a2 then if v14.kind = 0 then some (.nx (wr (v6 + 1)))
 else some (.out (.inr ((⟨a1.layer, v10.ino⟩ : Place), v14)))
 else some (.nx (wr (v6 + 1)))
 else some (.out (.inl ()))
def xrd (a0 : List Branch) (a1 : Place) (a2 : ByteArray) : Option (Place × Node) := (xyb a0 a1).bind fun v1 => if v1.kind = 1 then (iter (xwd a0 a1 a2 v1) big 0).bind fun o => (match o with
 | (.inl _) => some ((⟨0, 0⟩ : Place), (⟨0, 0, 0, 0, [], [], (⟨0, 0, xl, (⟨0, 0, 0⟩ : Origin), 0⟩ : Attr)⟩ : Node))
 | (.inr r) => some r)
 else some ((⟨0, 0⟩ : Place), (⟨0, 0, 0, 0, [], [], (⟨0, 0, xl, (⟨0, 0, 0⟩ : Origin), 0⟩ : Attr)⟩ : Node))
def xbb := aI (aI (aI (@EV) (aI (@R3) (@R9))) (aI (aI (@R26) (@R45)) (aI (@R55) (@R62)))) (aI (aI (aI (@R68) (@R106)) (aI (@DBranch) (@DPlace))) (aI (aI (@DEntry) (@DAttr)) (aI (@DNode) (@mixed))))
set_option maxHeartbeats 2000000 in
theorem x8p (a0 : List Branch) (a1 : Place) (a2 : ByteArray) (r : Place × Node) (hm0 : xrd a0 a1 a2 = some r) : Ok Tryz.prog 66 [.sl 1 (a0.map xk), xg a1, str a2] (.tup [xg r.1, xh r.2]) := by
 unfold xrd at hm0
 refine okG x9p ?_
 unfold xal
 obtain ⟨v1, h2, hm0⟩ := bsE hm0
 simp only [xbb, ↓EVd, isCall, sevalprocAttr]
 refine qc (xse _ _ _ h2) rfl ?_
 rcases iteE hm0 with ⟨e4, hm0⟩ | ⟨e4, hm0⟩
 · obtain ⟨o0, ho0, hm0⟩ := bsE hm0
   simp only [e4, xbb, ↓EVd, isCall, sevalprocAttr]
   refine cwp_cx 0 (fun s => (s.T 6 = .loc 1 2 0 0 ∧ s.T 7 = .loc 2 13 0 0 ∧ s.H 1 = some (.row 45 2 [.agg [int 0, int 0]]) ∧ s.H 2 = some (.row 68 13 [.agg [int 0, int 0, int 0, int 0, nilS, nilS, int 0, int 0, str xl, int 0, int 0, int 0, int 0]]) ∧ Lq 1 s.nx ∧ Lq 2 s.nx) ∧ (.inl ()) = o0) ?_ fun J0_0 hJ0_0 => ?_
   · rintro T0 H0 x7 ⟨kk0_0, rfl⟩
     dsimp only [Lq, Nq] at kk0_0
     try dsimp only at hm0
     have e20 : (.agg [int 0, int 0] : AV) = xg (⟨0, 0⟩ : Place) := _root_.id rfl
     obtain rfl := Option.some.inj hm0
     simp only [kk0_0, e4, e20, xbb, ↓EVd, isCall, sevalprocAttr]
     all_goals first | done | rfl | exact xj (by simp only [CLO]) | exact xv (by simp only [CLO]) (Sub.tup (Subs.cons (Sub.refl _) (Subs.cons (Sub.agg (Subs.cons (Sub.refl _) (Subs.cons (Sub.refl _) (Subs.cons (Sub.refl _) (Subs.cons (Sub.refl _) (Subs.cons (Sub.nilS _) (Subs.cons (Sub.nilS _) (Subs.cons (Sub.refl _) (Subs.cons (Sub.refl _) (Subs.cons (Sub.refl _) (Subs.cons (Sub.refl _) (Subs.cons (Sub.refl _) (Subs.cons (Sub.refl _) (Subs.cons (Sub.refl _) (Subs.nil))))))))))))))) (Subs.nil))))
   refine cwp_lp ho0 (fun v6 s => s.T 0 = .sl 1 (a0.map xk) ∧ s.T 2 = str a2 ∧ s.T 4 = .loc 0 2 0 0 ∧ s.T 6 = .loc 1 2 0 0 ∧ s.T 7 = .loc 2 13 0 0 ∧ s.T 22 = .sl 3 (v1.entries.map xr) ∧ s.T 23 = int (v1.entries.length : Int) ∧ s.T 24 = int v6 ∧ s.H 0 = some (.row 45 2 [xg a1]) ∧ s.H 1 = some (.row 45 2 [.agg [int 0, int 0]]) ∧ s.H 2 = some (.row 68 13 [.agg [int 0, int 0, int 0, int 0, nilS, nilS, int 0, int 0, str xl, int 0, int 0, int 0, int 0]]) ∧ Lq 0 s.nx ∧ Lq 1 s.nx ∧ Lq 2 s.nx) ?_ ?_
   · refine TI.here ⟨?_, ?_, ?_, ?_, ?_, ?_, ?_, ?_, ?_, ?_, ?_, ?_, ?_, ?_⟩
     all_goals try simp only [e4, xbb, ↓EVd, isCall, sevalprocAttr]
     all_goals first | omega | exact lq (by omega) | exact nq (by omega) | rfl | (congr 1; omega)
   rintro I0 v6 T0 H0 x5 st0 kk0 hm1 hI0 hO0
   dsimp only [Lq, Nq] at kk0
   simp only [xwd] at hm1
   rcases iteE hm1 with ⟨e9, hm1⟩ | ⟨e9, hm1⟩
   · obtain ⟨v10, e12, hm1⟩ := ixE xr hm1
     have e13 : (.agg [int a1.layer, int v10.ino] : AV) = xg (⟨a1.layer, v10.ino⟩ : Place) := _root_.id rfl
     obtain ⟨v14, h15, hm1⟩ := bsE hm1
     simp only [kk0, e4, e9, e12, e13, xbb, ↓EVd, isCall, sevalprocAttr]
     refine qc (xse _ _ _ h15) rfl ?_
     rcases iteE hm1 with ⟨e17, hm1⟩ | ⟨e17, hm1⟩
     · rcases iteE hm1 with ⟨e19, hm1⟩ | ⟨e19, hm1⟩
       · obtain rfl := Option.some.inj hm1
         simp only [kk0, e4, e9, e12, e13, e17, e19, xbb, ↓EVd, isCall, sevalprocAttr]
         refine TI.here (hI0 _ rfl _ ⟨?_, ?_, ?_, ?_, ?_, ?_, ?_, ?_, ?_, ?_, ?_, ?_, ?_, ?_⟩)
         all_goals try simp only [kk0, e4, e9, e12, e13, e17, e19, xbb, ↓EVd, isCall, sevalprocAttr]
         all_goals first | omega | exact lq (by omega) | exact nq (by omega) | rfl | (congr 1; omega)
       simp only [kk0, e4, e9, e12, e13, e17, e19, xbb, ↓EVd, isCall, sevalprocAttr]
       refine fineI [([(x5 + 10)], []), ([(x5 + 15)], []), ([], [1]), ([], [2])] rfl (by simp only [MT, sevalprocAttr]; first | done | omega) ?_
       obtain rfl := Option.some.inj hm1
       obtain rfl := hO0 _ rfl
       try dsimp only at hm0
       obtain rfl := Option.some.inj hm0
       simp only [kk0, e4, e9, e12, e13, e17, e19, xbb, ↓EVd, isCall, sevalprocAttr]
       all_goals first | done | rfl | exact xj (by simp only [CLO]) | exact xv (by simp only [CLO]) (Sub.tup (Subs.cons (Sub.refl _) (Subs.cons (Sub.refl _) (Subs.nil))))
     obtain rfl := Option.some.inj hm1
     simp only [kk0, e4, e9, e12, e13, e17, xbb, ↓EVd, isCall, sevalprocAttr]
     refine TI.here (hI0 _ rfl _ ⟨?_, ?_, ?_, ?_, ?_, ?_, ?_, ?_, ?_, ?_, ?_, ?_, ?_, ?_⟩)
     all_goals try simp only [kk0, e4, e9, e12, e13, e17, xbb, ↓EVd, isCall, sevalprocAttr]
     all_goals first | omega | exact lq (by omega) | exact nq (by omega) | rfl | (congr 1; omega)
   obtain rfl := Option.some.inj hm1
   simp only [kk0, e4, e9, xbb, ↓EVd, isCall, sevalprocAttr]
   refine TI.here (hJ0_0 _ ⟨⟨?_, ?_, ?_, ?_, ?_, ?_⟩, hO0 _ rfl⟩)
   all_goals try simp only [kk0, e4, e9, xbb, ↓EVd, isCall, sevalprocAttr]
   all_goals first | omega | exact lq (by omega) | exact nq (by omega) | rfl | (congr 1; omega)
 have e21 : (.agg [int 0, int 0] : AV) = xg (⟨0, 0⟩ : Place) := _root_.id rfl
 obtain rfl := Option.some.inj hm0
 simp only [e4, e21, xbb, ↓EVd, isCall, sevalprocAttr]
 all_goals first | done | rfl | exact xj (by simp only [CLO]) | exact xv (by simp only [CLO]) (Sub.tup (Subs.cons (Sub.refl _) (Subs.cons (Sub.agg (Subs.cons (Sub.refl _) (Subs.cons (Sub.refl _) (Subs.cons (Sub.refl _) (Subs.cons (Sub.refl _) (Subs.cons (Sub.nilS _) (Subs.cons (Sub.nilS _) (Subs.cons (Sub.refl _) (Subs.cons (Sub.refl _) (Subs.cons (Sub.refl _) (Subs.cons (Sub.refl _) (Subs.cons (Sub.refl _) (Subs.cons (Sub.refl _) (Subs.cons (Sub.refl _) (Subs.nil))))))))))))))) (Subs.nil))))
def xud (a0 : Stack) (a1 : List Place) (a2 : ByteArray) : (List Place × Int) → Option (St (List Place × Int) ((List Place) ⊕ ((List Place) ⊕ (Int × List Place))))
 | (v3, v4) => if v4 < (a1.length : Int) then (ix a1 v4).bind fun v13 => (xrd a0.lowers v13 a2).bind fun v16 => if v16.2.kind = 0 then some (.nx (v3, (wr (v4 + 1))))
 else if v16.2.kind = 1 then (ap 16 v3 ([v16.1] : List Place)).bind fun _ => (xzc v16.2).bind fun v26 => if (!v26) = true then some (.nx ((v3 ++ ([v16.1] : List Place)), (wr (v4 + 1))))
 else some (.out (.inr (.inl (v3 ++ ([v16.1] : List Place)))))
 else if v16.2.kind = 2 then if (v3.length : Int) = 0 then some (.out (.inr (.inr (v16.2.kind, ([v16.1] : List Place)))))
 else some (.out (.inr (.inl v3)))
 else if v16.2.kind = 3 then if (v3.length : Int) = 0 then some (.out (.inr (.inr (v16.2.kind, ([v16.1] : List Place)))))
 else some (.out (.inr (.inl v3)))
 else some (.out (.inr (.inl v3)))
 else some (.out (.inl v3))
def xqd (a0 : Stack) (a1 : List Place) (a2 : ByteArray) : Option (Int × List Place) := (iter (xud a0 a1 a2) big ([], 0)).bind fun o => (match o with
 | (.inl v7) => if (v7.length : Int) = 0 then some (0, [])
 else some (1, v7)
 | (.inr (.inl v10)) => if (v10.length : Int) = 0 then some (0, [])
 else some (1, v10)
 | (.inr (.inr r)) => some r)
def xn := aI (aI (aI (aI (@EV) (@R3)) (aI (@R9) (@R26))) (aI (aI (@R27) (@R29)) (aI (@R30) (@R45)))) (aI (aI (aI (@R68) (@R106)) (aI (@DBranch) (@DStack))) (aI (aI (@DPlace) (@DEntry)) (aI (@DAttr) (aI (@DNode) (@mixed)))))
set_option maxHeartbeats 2000000 in
theorem xuh (a0 : Stack) (a1 : List Place) (a2 : ByteArray) (r : Int × List Place) (hm0 : xqd a0 a1 a2 = some r) : Ok Tryz.prog 31 [xi a0, .sl 2 (a1.map xg), str a2] (.tup [int r.1, .sl 2 (r.2.map xg)]) := by
 unfold xqd at hm0
 refine okG xrw ?_
 unfold x5q
 simp only [xn, ↓EVd, isCall, sevalprocAttr]
 refine x77 0 rfl ?_
 intro F0 hF0
 obtain ⟨o1, ho1, hm0⟩ := bsE hm0
 simp only [xn, ↓EVd, isCall, sevalprocAttr]
 refine cwp_cx 0 (fun s => ∃ v7 : List Place, ∃ l6 : Nat, (s.T 9 = .msl l6 v7.length ∧ s.H l6 = some (.row 45 2 (v7.map xg)) ∧ Lq l6 s.nx) ∧ (.inl v7) = o1) ?_ fun J1_0 hJ1_0 => ?_
 · rintro T1 H1 x5 ⟨v7, l6, kk1_0, rfl⟩
   dsimp only [Lq, Nq] at kk1_0
   try dsimp only at hm0
   rcases iteE hm0 with ⟨e39, hm0⟩ | ⟨e39, hm0⟩
   · obtain rfl := Option.some.inj hm0
     simp only [kk1_0, e39, xn, ↓EVd, isCall, sevalprocAttr]
     all_goals first | done | rfl | exact xj (by simp only [CLO]) | exact xv (by simp only [CLO]) (Sub.tup (Subs.cons (Sub.refl _) (Subs.cons (Sub.nilS _) (Subs.nil))))
   obtain rfl := Option.some.inj hm0
   simp only [kk1_0, e39, xn, ↓EVd, isCall, sevalprocAttr]
   all_goals first | done | rfl | exact x3l 9 (by simp only [kk1_0, e39, FZ, CLO, xn, ↓EVd, isCall, sevalprocAttr]) (Sub.tup (Subs.cons (Sub.refl _) (Subs.cons (Sub.refl _) (Subs.nil))))
 refine cwp_cg 0 (fun s => ∃ v10 : List Place, ∃ l9 : Nat, (s.T 9 = .msl l9 v10.length ∧ s.H l9 = some (.row 45 2 (v10.map xg)) ∧ Lq l9 s.nx) ∧ (.inr (.inl v10)) = o1) ?_ fun J1_1 hJ1_1 => ?_
 · rintro T1 H1 x8 ⟨v10, l9, kk1_1, rfl⟩
   dsimp only [Lq, Nq] at kk1_1
   try dsimp only at hm0
   simp only [kk1_1, xn, ↓EVd, isCall, sevalprocAttr]
   refine hF0 _ ?_
   rcases iteE hm0 with ⟨e41, hm0⟩ | ⟨e41, hm0⟩
   · obtain rfl := Option.some.inj hm0
     simp only [kk1_1, e41, xn, ↓EVd, isCall, sevalprocAttr]
     all_goals first | done | rfl | exact xj (by simp only [CLO]) | exact xv (by simp only [CLO]) (Sub.tup (Subs.cons (Sub.refl _) (Subs.cons (Sub.nilS _) (Subs.nil))))
   obtain rfl := Option.some.inj hm0
   simp only [kk1_1, e41, xn, ↓EVd, isCall, sevalprocAttr]
   all_goals first | done | rfl | exact x3l 9 (by simp only [kk1_1, e41, FZ, CLO, xn, ↓EVd, isCall, sevalprocAttr]) (Sub.tup (Subs.cons (Sub.refl _) (Subs.cons (Sub.refl _) (Subs.nil))))
 refine cwp_lp ho1 (fun (v3, v4) s => ∃ l2 : Nat, s.T 2 = str a2 ∧ s.T 8 = .sl 1 (a0.lowers.map xk) ∧ s.T 9 = .msl l2 v3.length ∧ s.T 16 = .sl 2 (a1.map xg) ∧ s.T 17 = int (a1.length : Int) ∧ s.T 18 = int v4 ∧ s.H l2 = some (.row 45 2 (v3.map xg)) ∧ Lq l2 s.nx) ?_ ?_
 · refine TI.by (Tn.adopt 9 45 2 (by simp only [xn, ↓EVd, isCall, sevalprocAttr])) ?_
   refine TI.here ⟨10, ?_, ?_, ?_, ?_, ?_, ?_, ?_, ?_⟩
   all_goals try simp only [xn, ↓EVd, isCall, sevalprocAttr]
   all_goals first | omega | exact lq (by omega) | exact nq (by omega) | rfl | (congr 1; omega)
 rintro I1 ⟨v3, v4⟩ T1 H1 x1 st1 ⟨l2, kk1⟩ hm1 hI1 hO1
 dsimp only [Lq, Nq] at kk1
 simp only [xud] at hm1
 rcases iteE hm1 with ⟨e12, hm1⟩ | ⟨e12, hm1⟩
 · obtain ⟨v13, e15, hm1⟩ := ixE xg hm1
   obtain ⟨v16, h17, hm1⟩ := bsE hm1
   simp only [kk1, e12, e15, xn, ↓EVd, isCall, sevalprocAttr]
   refine qc (x8p _ _ _ _ h17) rfl ?_
   rcases iteE hm1 with ⟨e19, hm1⟩ | ⟨e19, hm1⟩
   · obtain rfl := Option.some.inj hm1
     simp only [kk1, e12, e15, e19, xn, ↓EVd, isCall, sevalprocAttr]
     refine TI.here (hI1 _ rfl _ ⟨l2, ?_, ?_, ?_, ?_, ?_, ?_, ?_, ?_⟩)
     all_goals try simp only [kk1, e12, e15, e19, xn, ↓EVd, isCall, sevalprocAttr]
     all_goals first | omega | exact lq (by omega) | exact nq (by omega) | rfl | (congr 1; omega)
   rcases iteE hm1 with ⟨e21, hm1⟩ | ⟨e21, hm1⟩
   · obtain ⟨e24, hm1⟩ := apE hm1
     try simp only [ZL] at e24
     obtain ⟨v26, h27, hm1⟩ := bsE hm1
     simp only [kk1, e12, e15, e19, e21, e24, xn, ↓EVd, isCall, sevalprocAttr]
     refine qc (xkn _ _ h27) rfl ?_
     rcases itbE hm1 with ⟨e29, hm1⟩ | ⟨e29, hm1⟩
     · obtain rfl := Option.some.inj hm1
       simp only [kk1, e12, e15, e19, e21, e24, e29, xn, ↓EVd, isCall, sevalprocAttr]
       refine TI.here (hI1 _ rfl _ ⟨(x1 + 25), ?_, ?_, ?_, ?_, ?_, ?_, ?_, ?_⟩)
       all_goals try simp only [kk1, e12, e15, e19, e21, e24, e29, xn, ↓EVd, isCall, sevalprocAttr]
       all_goals first | omega | exact lq (by omega) | exact nq (by omega) | rfl | (congr 1; omega)
     obtain rfl := Option.some.inj hm1
     simp only [kk1, e12, e15, e19, e21, e24, e29, xn, ↓EVd, isCall, sevalprocAttr]
     refine TI.here (hJ1_1 _ ⟨(v3 ++ ([v16.1] : List Place)), (x1 + 25), ⟨?_, ?_, ?_⟩, hO1 _ rfl⟩)
     all_goals try simp only [kk1, e12, e15, e19, e21, e24, e29, xn, ↓EVd, isCall, sevalprocAttr]
     all_goals first | omega | exact lq (by omega) | exact nq (by omega) | rfl | (congr 1; omega)
   rcases iteE hm1 with ⟨e31, hm1⟩ | ⟨e31, hm1⟩
   · rcases iteE hm1 with ⟨e33, hm1⟩ | ⟨e33, hm1⟩
     · obtain rfl := Option.some.inj hm1
       obtain rfl := hO1 _ rfl
       try dsimp only at hm0
       obtain rfl := Option.some.inj hm0
       simp only [kk1, e12, e15, e19, e21, e31, e33, xn, ↓EVd, isCall, sevalprocAttr]
       all_goals first | done | rfl | exact x3l 9 (by simp only [kk1, e12, e15, e19, e21, e31, e33, FZ, CLO, xn, ↓EVd, isCall, sevalprocAttr]) (Sub.tup (Subs.cons (Sub.refl _) (Subs.cons (Sub.refl _) (Subs.nil))))
     obtain rfl := Option.some.inj hm1
     simp only [kk1, e12, e15, e19, e21, e31, e33, xn, ↓EVd, isCall, sevalprocAttr]
     refine TI.here (hJ1_1 _ ⟨v3, l2, ⟨?_, ?_, ?_⟩, hO1 _ rfl⟩)
     all_goals try simp only [kk1, e12, e15, e19, e21, e31, e33, xn, ↓EVd, isCall, sevalprocAttr]
     all_goals first | omega | exact lq (by omega) | exact nq (by omega) | rfl | (congr 1; omega)
   rcases iteE hm1 with ⟨e35, hm1⟩ | ⟨e35, hm1⟩
   · rcases iteE hm1 with ⟨e37, hm1⟩ | ⟨e37, hm1⟩
     · obtain rfl := Option.some.inj hm1
       obtain rfl := hO1 _ rfl
       try dsimp only at hm0
       obtain rfl := Option.some.inj hm0
       simp only [kk1, e12, e15, e19, e21, e31, e35, e37, xn, ↓EVd, isCall, sevalprocAttr]
       all_goals first | done | rfl | exact x3l 9 (by simp only [kk1, e12, e15, e19, e21, e31, e35, e37, FZ, CLO, xn, ↓EVd, isCall, sevalprocAttr]) (Sub.tup (Subs.cons (Sub.refl _) (Subs.cons (Sub.refl _) (Subs.nil))))
     obtain rfl := Option.some.inj hm1
     simp only [kk1, e12, e15, e19, e21, e31, e35, e37, xn, ↓EVd, isCall, sevalprocAttr]
     refine TI.here (hJ1_1 _ ⟨v3, l2, ⟨?_, ?_, ?_⟩, hO1 _ rfl⟩)
     all_goals try simp only [kk1, e12, e15, e19, e21, e31, e35, e37, xn, ↓EVd, isCall, sevalprocAttr]
     all_goals first | omega | exact lq (by omega) | exact nq (by omega) | rfl | (congr 1; omega)
   obtain rfl := Option.some.inj hm1
   simp only [kk1, e12, e15, e19, e21, e31, e35, xn, ↓EVd, isCall, sevalprocAttr]
   refine TI.here (hJ1_1 _ ⟨v3, l2, ⟨?_, ?_, ?_⟩, hO1 _ rfl⟩)
   all_goals try simp only [kk1, e12, e15, e19, e21, e31, e35, xn, ↓EVd, isCall, sevalprocAttr]
   all_goals first | omega | exact lq (by omega) | exact nq (by omega) | rfl | (congr 1; omega)
 obtain rfl := Option.some.inj hm1
 simp only [kk1, e12, xn, ↓EVd, isCall, sevalprocAttr]
 refine TI.here (hJ1_0 _ ⟨v3, l2, ⟨?_, ?_, ?_⟩, hO1 _ rfl⟩)
 all_goals try simp only [kk1, e12, xn, ↓EVd, isCall, sevalprocAttr]
 all_goals first | omega | exact lq (by omega) | exact nq (by omega) | rfl | (congr 1; omega)
def xvd (a0 : Stack) (a2 : List ByteArray) : (List Place × Int) → Option (St (List Place × Int) ((List Place) ⊕ (List Place × Bool)))
 | (v4, v5) => if v5 < (a2.length : Int) then (ix a2 v5).bind fun v10 => (xqd a0 v4 v10).bind fun v13 => if v13.1 = 1 then some (.nx (v13.2, (wr (v5 + 1))))
 else some (.out (.inr ([], false)))
 else some (.out (.inl v4))
def xig (a0 : Stack) (a1 : List Place) (a2 : List ByteArray) : Option (List Place × Bool) := (cloneM 16 a1).bind fun v1 => (iter (xvd a0 a2) big (v1, 0)).bind fun o => (match o with
 | (.inl v7) => some (v7, true)
 | (.inr r) => some r)
def xvc := aI (aI (aI (@EV) (aI (@R3) (@R9))) (aI (@R29) (aI (@R30) (@R42)))) (aI (aI (@R45) (aI (@DBranch) (@DStack))) (aI (aI (@DPlace) (@DEntry)) (aI (@DAttr) (@DNode))))
set_option maxHeartbeats 2000000 in
theorem xxw (a0 : Stack) (a1 : List Place) (a2 : List ByteArray) (r : List Place × Bool) (hm0 : xig a0 a1 a2 = some r) : Ok Tryz.prog 85 [xi a0, .sl 2 (a1.map xg), .sl 1 (a2.map str)] (.tup [.sl 2 (r.1.map xg), bool r.2]) := by
 unfold xig at hm0
 refine okG xlw ?_
 unfold xsr
 obtain ⟨v1, h2, hm0⟩ := bsE hm0
 simp only [xvc, ↓EVd, isCall, sevalprocAttr]
 refine qc (xs2 xvg xbh x4h x1s xwr rfl (by decide) xg _ _ h2 (fun z => by simp only [CLO])) rfl ?_
 obtain ⟨o0, ho0, hm0⟩ := bsE hm0
 simp only [xvc, ↓EVd, isCall, sevalprocAttr]
 refine cwp_cx 0 (fun s => ∃ v7 : List Place, (s.T 8 = .sl 2 (v7.map xg)) ∧ (.inl v7) = o0) ?_ fun J0_0 hJ0_0 => ?_
 · rintro T0 H0 x6 ⟨v7, kk0_0, rfl⟩
   dsimp only [Lq, Nq] at kk0_0
   try dsimp only at hm0
   obtain rfl := Option.some.inj hm0
   simp only [kk0_0, xvc, ↓EVd, isCall, sevalprocAttr]
   all_goals first | done | rfl | exact xj (by simp only [CLO]) | exact xv (by simp only [CLO]) (Sub.tup (Subs.cons (Sub.refl _) (Subs.cons (Sub.refl _) (Subs.nil))))
 refine cwp_lp ho0 (fun (v4, v5) s => s.T 3 = .loc 0 6 0 0 ∧ s.T 8 = .sl 2 (v4.map xg) ∧ s.T 15 = .sl 1 (a2.map str) ∧ s.T 16 = int (a2.length : Int) ∧ s.T 17 = int v5 ∧ s.H 0 = some (.row 29 6 [xi a0]) ∧ Lq 0 s.nx) ?_ ?_
 · refine TI.here ⟨?_, ?_, ?_, ?_, ?_, ?_, ?_⟩
   all_goals try simp only [xvc, ↓EVd, isCall, sevalprocAttr]
   all_goals first | omega | exact lq (by omega) | exact nq (by omega) | rfl | (congr 1; omega)
 rintro I0 ⟨v4, v5⟩ T0 H0 x3 st0 kk0 hm1 hI0 hO0
 dsimp only [Lq, Nq] at kk0
 simp only [xvd] at hm1
 rcases iteE hm1 with ⟨e9, hm1⟩ | ⟨e9, hm1⟩
 · obtain ⟨v10, e12, hm1⟩ := ixE str hm1
   obtain ⟨v13, h14, hm1⟩ := bsE hm1
   simp only [kk0, e9, e12, xvc, ↓EVd, isCall, sevalprocAttr]
   refine qc (xuh _ _ _ _ h14) rfl ?_
   rcases iteE hm1 with ⟨e16, hm1⟩ | ⟨e16, hm1⟩
   · obtain rfl := Option.some.inj hm1
     simp only [kk0, e9, e12, e16, xvc, ↓EVd, isCall, sevalprocAttr]
     refine TI.here (hI0 _ rfl _ ⟨?_, ?_, ?_, ?_, ?_, ?_, ?_⟩)
     all_goals try simp only [kk0, e9, e12, e16, xvc, ↓EVd, isCall, sevalprocAttr]
     all_goals first | omega | exact lq (by omega) | exact nq (by omega) | rfl | (congr 1; omega)
   obtain rfl := Option.some.inj hm1
   obtain rfl := hO0 _ rfl
   try dsimp only at hm0
   obtain rfl := Option.some.inj hm0
   simp only [kk0, e9, e12, e16, xvc, ↓EVd, isCall, sevalprocAttr]
   all_goals first | done | rfl | exact xj (by simp only [CLO]) | exact xv (by simp only [CLO]) (Sub.tup (Subs.cons (Sub.nilS _) (Subs.cons (Sub.refl _) (Subs.nil))))
 obtain rfl := Option.some.inj hm1
 simp only [kk0, e9, xvc, ↓EVd, isCall, sevalprocAttr]
 refine TI.here (hJ0_0 _ ⟨v4, ?_, hO0 _ rfl⟩)
 all_goals try simp only [kk0, e9, xvc, ↓EVd, isCall, sevalprocAttr]
 all_goals first | omega | exact lq (by omega) | exact nq (by omega) | rfl | (congr 1; omega)
def xgd (a0 : Stack) : (List Place × Int) → Option (St (List Place × Int) (List Place))
 | (v3, v4) => if v4 < (a0.lowers.length : Int) then (xyb a0.lowers (⟨(wr (v4 + 1)), 1⟩ : Place)).bind fun v11 => if v11.kind = 1 then (ap 16 v3 ([(⟨(wr (v4 + 1)), 1⟩ : Place)] : List Place)).bind fun _ => (xzc v11).bind fun v19 => if v19 = true then some (.out (v3 ++ ([(⟨(wr (v4 + 1)), 1⟩ : Place)] : List Place)))
 else some (.nx ((v3 ++ ([(⟨(wr (v4 + 1)), 1⟩ : Place)] : List Place)), (wr (v4 + 1))))
 else some (.nx (v3, (wr (v4 + 1))))
 else some (.out v3)
def xzd (a0 : Stack) : Option (List Place) := (iter (xgd a0) big ([], 0)).bind fun o => (match o with
 | v7 => some v7)
def xob := aI (aI (aI (@EV) (aI (@R3) (@R26))) (aI (aI (@R27) (@R29)) (aI (@R30) (@R45)))) (aI (aI (aI (@R68) (@R106)) (aI (@DBranch) (@DStack))) (aI (aI (@DPlace) (@DEntry)) (aI (@DAttr) (@DNode))))
set_option maxHeartbeats 2000000 in
theorem xok (a0 : Stack) (r : List Place) (hm0 : xzd a0 = some r) : Ok Tryz.prog 56 [xi a0] (.sl 2 (r.map xg)) := by
 unfold xzd at hm0
 refine okG x9u ?_
 unfold xup
 obtain ⟨o0, ho0, hm0⟩ := bsE hm0
 simp only [xob, ↓EVd, isCall, sevalprocAttr]
 refine cwp_cx 0 (fun s => ∃ v7 : List Place, ∃ l6 : Nat, (s.T 4 = .msl l6 v7.length ∧ s.H l6 = some (.row 45 2 (v7.map xg)) ∧ Lq l6 s.nx) ∧ v7 = o0) ?_ fun J0_0 hJ0_0 => ?_
 · rintro T0 H0 x5 ⟨v7, l6, kk0_0, rfl⟩
   dsimp only [Lq, Nq] at kk0_0
   try dsimp only at hm0
   obtain rfl := Option.some.inj hm0
   simp only [kk0_0, xob, ↓EVd, isCall, sevalprocAttr]
   all_goals first | done | rfl | exact frzR_e (by simp only [kk0_0, FZ, CLO, xob, ↓EVd, isCall, sevalprocAttr])
 refine cwp_lp ho0 (fun (v3, v4) s => ∃ l2 : Nat, s.T 3 = .sl 1 (a0.lowers.map xk) ∧ s.T 4 = .msl l2 v3.length ∧ s.T 11 = int (a0.lowers.length : Int) ∧ s.T 12 = int v4 ∧ s.H l2 = some (.row 45 2 (v3.map xg)) ∧ Lq l2 s.nx) ?_ ?_
 · refine TI.by (Tn.adopt 4 45 2 (by simp only [xob, ↓EVd, isCall, sevalprocAttr])) ?_
   refine TI.here ⟨9, ?_, ?_, ?_, ?_, ?_, ?_⟩
   all_goals try simp only [xob, ↓EVd, isCall, sevalprocAttr]
   all_goals first | omega | exact lq (by omega) | exact nq (by omega) | rfl | (congr 1; omega)
 rintro I0 ⟨v3, v4⟩ T0 H0 x1 st0 ⟨l2, kk0⟩ hm1 hI0 hO0
 dsimp only [Lq, Nq] at kk0
 simp only [xgd] at hm1
 rcases iteE hm1 with ⟨e9, hm1⟩ | ⟨e9, hm1⟩
 · have e10 : (.agg [int (wr (v4 + 1)), int 1] : AV) = xg (⟨(wr (v4 + 1)), 1⟩ : Place) := _root_.id rfl
   obtain ⟨v11, h12, hm1⟩ := bsE hm1
   simp only [kk0, e9, e10, xob, ↓EVd, isCall, sevalprocAttr]
   refine qc (xse _ _ _ h12) rfl ?_
   rcases iteE hm1 with ⟨e14, hm1⟩ | ⟨e14, hm1⟩
   · obtain ⟨e17, hm1⟩ := apE hm1
     try simp only [ZL] at e17
     obtain ⟨v19, h20, hm1⟩ := bsE hm1
     simp only [kk0, e9, e10, e14, e17, xob, ↓EVd, isCall, sevalprocAttr]
     refine qc (xkn _ _ h20) rfl ?_
     rcases itbE hm1 with ⟨e22, hm1⟩ | ⟨e22, hm1⟩
     · obtain rfl := Option.some.inj hm1
       simp only [kk0, e9, e10, e14, e17, e22, xob, ↓EVd, isCall, sevalprocAttr]
       refine TI.here (hJ0_0 _ ⟨(v3 ++ ([(⟨(wr (v4 + 1)), 1⟩ : Place)] : List Place)), (x1 + 19), ⟨?_, ?_, ?_⟩, hO0 _ rfl⟩)
       all_goals try simp only [kk0, e9, e10, e14, e17, e22, xob, ↓EVd, isCall, sevalprocAttr]
       all_goals first | omega | exact lq (by omega) | exact nq (by omega) | rfl | (congr 1; omega)
     obtain rfl := Option.some.inj hm1
     simp only [kk0, e9, e10, e14, e17, e22, xob, ↓EVd, isCall, sevalprocAttr]
     refine TI.here (hI0 _ rfl _ ⟨(x1 + 19), ?_, ?_, ?_, ?_, ?_, ?_⟩)
     all_goals try simp only [kk0, e9, e10, e14, e17, e22, xob, ↓EVd, isCall, sevalprocAttr]
     all_goals first | omega | exact lq (by omega) | exact nq (by omega) | rfl | (congr 1; omega)
   obtain rfl := Option.some.inj hm1
   simp only [kk0, e9, e10, e14, xob, ↓EVd, isCall, sevalprocAttr]
   refine TI.here (hI0 _ rfl _ ⟨l2, ?_, ?_, ?_, ?_, ?_, ?_⟩)
   all_goals try simp only [kk0, e9, e10, e14, xob, ↓EVd, isCall, sevalprocAttr]
   all_goals first | omega | exact lq (by omega) | exact nq (by omega) | rfl | (congr 1; omega)
 obtain rfl := Option.some.inj hm1
 simp only [kk0, e9, xob, ↓EVd, isCall, sevalprocAttr]
 refine TI.here (hJ0_0 _ ⟨v3, l2, ⟨?_, ?_, ?_⟩, hO0 _ rfl⟩)
 all_goals try simp only [kk0, e9, xob, ↓EVd, isCall, sevalprocAttr]
 all_goals first | omega | exact lq (by omega) | exact nq (by omega) | rfl | (congr 1; omega)
def xbd (a0 : ByteArray) (a1 : Stack) (a2 : List Place) : Option (Bool) := (xqd a1 a2 a0).bind fun v1 => if v1.1 = 0 then some true
 else some false
def xej := aI (aI (aI (@EV) (aI (@R3) (@R9))) (aI (@R29) (aI (@R30) (@R45)))) (aI (aI (@DBranch) (aI (@DStack) (@DPlace))) (aI (@DEntry) (aI (@DAttr) (@DNode))))
set_option maxHeartbeats 2000000 in
theorem x5s (a0 : ByteArray) (a1 : Stack) (a2 : List Place) (r : Bool) (hm0 : xbd a0 a1 a2 = some r) : Ok Tryz.prog 90 [str a0, .ptr (xi a1) 0, .ptr (.sl 2 (a2.map xg)) 0] (bool r) := by
 unfold xbd at hm0
 refine okG xjt ?_
 unfold xpn
 obtain ⟨v1, h2, hm0⟩ := bsE hm0
 simp only [xej, ↓EVd, isCall, sevalprocAttr]
 refine qc (xuh _ _ _ _ h2) rfl ?_
 rcases iteE hm0 with ⟨e4, hm0⟩ | ⟨e4, hm0⟩
 · obtain rfl := Option.some.inj hm0
   simp only [e4, xej, ↓EVd, isCall, sevalprocAttr]
   all_goals first | done | rfl
 obtain rfl := Option.some.inj hm0
 simp only [e4, xej, ↓EVd, isCall, sevalprocAttr]
 all_goals first | done | rfl
def xce (v13 : Node) : (List ByteArray × Int) → Option (St (List ByteArray × Int) (List ByteArray))
 | (v19, v20) => if v20 < (v13.entries.length : Int) then (ix v13.entries v20).bind fun v26 => (ap 16 v19 ([v26.name] : List ByteArray)).bind fun _ => some (.nx ((v19 ++ ([v26.name] : List ByteArray)), (wr (v20 + 1))))
 else some (.out v19)
def xae (a0 : Stack) (a1 : List Place) : (List ByteArray × Int) → Option (St (List ByteArray × Int) (List ByteArray))
 | (v3, v4) => if v4 < (a1.length : Int) then (ix a1 v4).bind fun v10 => (xyb a0.lowers v10).bind fun v13 => if v13.kind = 1 then (iter (xce v13) big (v3, 0)).bind fun o => (match o with
 | v23 => some (.nx (v23, (wr (v4 + 1)))))
 else some (.nx (v3, (wr (v4 + 1))))
 else some (.out v3)
def xvh (a0 : Stack) (a1 : List Place) : Option (List ByteArray) := (iter (xae a0 a1) big ([], 0)).bind fun o => (match o with
 | v7 => (xjc v7).bind fun v33 => (x3e (fun z => xbd z a0 a1) v33).bind fun v35 => some v35)
def xhe (a0 : List ByteArray) (a1 : List ByteArray) : Int → Option (St (Int) ((Unit) ⊕ (Bool)))
 | v4 => if v4 < (a0.length : Int) then (ix a0 v4).bind fun v8 => (ix a1 v4).bind fun v11 => if v8 = v11 then some (.nx (wr (v4 + 1)))
 else some (.out (.inr false))
 else some (.out (.inl ()))
def xhd (a0 : List ByteArray) (a1 : List ByteArray) : Option (Bool) := if (a0.length : Int) = (a1.length : Int) then (iter (xhe a0 a1) big 0).bind fun o => (match o with
 | (.inl _) => some true
 | (.inr r) => some r)
 else some false
def xeb := aI (aI (@EV) (@R3)) (aI (@R9) (aI (@R42) (@mixed)))
set_option maxHeartbeats 2000000 in
theorem xqj (a0 : List ByteArray) (a1 : List ByteArray) (r : Bool) (hm0 : xhd a0 a1 = some r) : Ok Tryz.prog 15 [.sl 1 (a0.map str), .sl 1 (a1.map str)] (bool r) := by
 unfold xhd at hm0
 refine okG xnj ?_
 unfold x9e
 rcases iteE hm0 with ⟨e2, hm0⟩ | ⟨e2, hm0⟩
 · obtain ⟨o0, ho0, hm0⟩ := bsE hm0
   simp only [e2, xeb, ↓EVd, isCall, sevalprocAttr]
   refine cwp_cx 0 (fun s => (.inl ()) = o0) ?_ fun J0_0 hJ0_0 => ?_
   · rintro T0 H0 x5 rfl
     try dsimp only at hm0
     obtain rfl := Option.some.inj hm0
     simp only [e2, xeb, ↓EVd, isCall, sevalprocAttr]
     all_goals first | done | rfl
   refine cwp_lp ho0 (fun v4 s => s.T 0 = .sl 1 (a0.map str) ∧ s.T 1 = .sl 1 (a1.map str) ∧ s.T 12 = int (a0.length : Int) ∧ s.T 13 = int v4) ?_ ?_
   · refine TI.here ⟨?_, ?_, ?_, ?_⟩
     all_goals try simp only [e2, xeb, ↓EVd, isCall, sevalprocAttr]
     all_goals first | omega | exact lq (by omega) | exact nq (by omega) | rfl | (congr 1; omega)
   rintro I0 v4 T0 H0 x3 st0 kk0 hm1 hI0 hO0
   dsimp only [Lq, Nq] at kk0
   simp only [xhe] at hm1
   rcases iteE hm1 with ⟨e7, hm1⟩ | ⟨e7, hm1⟩
   · obtain ⟨v8, e10, hm1⟩ := ixE str hm1
     obtain ⟨v11, e13, hm1⟩ := ixE str hm1
     rcases iteE hm1 with ⟨e15, hm1⟩ | ⟨e15, hm1⟩
     · obtain rfl := Option.some.inj hm1
       simp only [kk0, e2, e7, e10, e13, e15, xeb, ↓EVd, isCall, sevalprocAttr]
       refine TI.here (hI0 _ rfl _ ⟨?_, ?_, ?_, ?_⟩)
       all_goals try simp only [kk0, e2, e7, e10, e13, e15, xeb, ↓EVd, isCall, sevalprocAttr]
       all_goals first | omega | exact lq (by omega) | exact nq (by omega) | rfl | (congr 1; omega)
     obtain rfl := Option.some.inj hm1
     obtain rfl := hO0 _ rfl
     try dsimp only at hm0
     obtain rfl := Option.some.inj hm0
     simp only [kk0, e2, e7, e10, e13, e15, xeb, ↓EVd, isCall, sevalprocAttr]
     all_goals first | done | rfl
   obtain rfl := Option.some.inj hm1
   simp only [kk0, e2, e7, xeb, ↓EVd, isCall, sevalprocAttr]
   refine TI.here (hJ0_0 _ (hO0 _ rfl))
 obtain rfl := Option.some.inj hm0
 simp only [e2, xeb, ↓EVd, isCall, sevalprocAttr]
 all_goals first | done | rfl
def x9b (a0 : List ByteArray) (a1 : ByteArray) : Int → Option (St (Int) ((Unit) ⊕ (Int)))
 | v2 => if v2 < (a0.length : Int) then (ix a0 v2).bind fun v6 => if a1 = v6 then some (.out (.inr v2))
 else some (.nx (wr (v2 + 1)))
 else some (.out (.inl ()))
def xnc (a0 : List ByteArray) (a1 : ByteArray) : Option (Int) := (iter (x9b a0 a1) big 0).bind fun o => (match o with
 | (.inl _) => some (-1)
 | (.inr r) => some r)
def xkb := aI (aI (@EV) (@R3)) (aI (@R9) (@R42))
set_option maxHeartbeats 2000000 in
theorem xoj (a0 : List ByteArray) (a1 : ByteArray) (r : Int) (hm0 : xnc a0 a1 = some r) : Ok Tryz.prog 65 [.sl 1 (a0.map str), str a1] (int r) := by
 unfold xnc at hm0
 refine okG xrj ?_
 unfold x5e
 obtain ⟨o0, ho0, hm0⟩ := bsE hm0
 simp only [xkb, ↓EVd, isCall, sevalprocAttr]
 refine cwp_cx 0 (fun s => (.inl ()) = o0) ?_ fun J0_0 hJ0_0 => ?_
 · rintro T0 H0 x3 rfl
   try dsimp only at hm0
   obtain rfl := Option.some.inj hm0
   simp only [xkb, ↓EVd, isCall, sevalprocAttr]
   all_goals first | done | rfl
 refine cwp_lp ho0 (fun v2 s => s.T 0 = .sl 1 (a0.map str) ∧ s.T 1 = str a1 ∧ s.T 7 = int (a0.length : Int) ∧ s.T 8 = int v2) ?_ ?_
 · refine TI.here ⟨?_, ?_, ?_, ?_⟩
   all_goals try simp only [xkb, ↓EVd, isCall, sevalprocAttr]
   all_goals first | omega | exact lq (by omega) | exact nq (by omega) | rfl | (congr 1; omega)
 rintro I0 v2 T0 H0 x1 st0 kk0 hm1 hI0 hO0
 dsimp only [Lq, Nq] at kk0
 simp only [x9b] at hm1
 rcases iteE hm1 with ⟨e5, hm1⟩ | ⟨e5, hm1⟩
 · obtain ⟨v6, e8, hm1⟩ := ixE str hm1
   rcases iteE hm1 with ⟨e10, hm1⟩ | ⟨e10, hm1⟩
   · obtain rfl := Option.some.inj hm1
     obtain rfl := hO0 _ rfl
     try dsimp only at hm0
     obtain rfl := Option.some.inj hm0
     simp only [kk0, e5, e8, e10, xkb, ↓EVd, isCall, sevalprocAttr]
     all_goals first | done | rfl
   obtain rfl := Option.some.inj hm1
   simp only [kk0, e5, e8, e10, xkb, ↓EVd, isCall, sevalprocAttr]
   refine TI.here (hI0 _ rfl _ ⟨?_, ?_, ?_, ?_⟩)
   all_goals try simp only [kk0, e5, e8, e10, xkb, ↓EVd, isCall, sevalprocAttr]
   all_goals first | omega | exact lq (by omega) | exact nq (by omega) | rfl | (congr 1; omega)
 obtain rfl := Option.some.inj hm1
 simp only [kk0, e5, xkb, ↓EVd, isCall, sevalprocAttr]
 refine TI.here (hJ0_0 _ (hO0 _ rfl))
def xub (a0 : List ByteArray) (a1 : ByteArray) : Option (Bool) := (xnc a0 a1).bind fun v1 => if 0 ≤ v1 then some true
 else some false
def x4c := aI (aI (@EV) (@R3)) (aI (@R9) (@R42))
set_option maxHeartbeats 2000000 in
theorem x1h (a0 : List ByteArray) (a1 : ByteArray) (r : Bool) (hm0 : xub a0 a1 = some r) : Ok Tryz.prog 29 [.sl 1 (a0.map str), str a1] (bool r) := by
 unfold xub at hm0
 refine okG xzh ?_
 unfold xie
 obtain ⟨v1, h2, hm0⟩ := bsE hm0
 simp only [x4c, ↓EVd, isCall, sevalprocAttr]
 refine qc (xoj _ _ _ h2) rfl ?_
 rcases iteE hm0 with ⟨e4, hm0⟩ | ⟨e4, hm0⟩
 · obtain rfl := Option.some.inj hm0
   simp only [e4, x4c, ↓EVd, isCall, sevalprocAttr]
   all_goals first | done | rfl
 obtain rfl := Option.some.inj hm0
 simp only [e4, x4c, ↓EVd, isCall, sevalprocAttr]
 all_goals first | done | rfl
end Go.Proofs.YtapdjibjnfeipaaGreatDoor.AL

/- Plain laws: sorted texts, each once. -/
set_option linter.all false
namespace Go.Proofs.YtapdjibjnfeipaaGreatDoor.AL
open Go Go.Proofs
abbrev Rising (l : List ByteArray) : Prop := l.Pairwise (fun a b => bl a < bl b)
theorem xtt {a b : List ByteArray} (ha : Rising a) (hb : Rising b) (h : ∀ x, x ∈ a ↔ x ∈ b) : a = b := by
  have nd : ∀ {l : List ByteArray}, Rising l → l.Nodup := fun h => List.Pairwise.imp (by rintro x y hxy rfl; exact List.lt_irrefl _ hxy) h
  have hp : a.Perm b := (List.perm_ext_iff_of_nodup (nd ha) (nd hb)).2 h
  refine List.Perm.eq_of_pairwise (le := fun a b => bl a < bl b) (fun x y _ _ h1 h2 => absurd (List.lt_trans h1 h2) (List.lt_irrefl _)) ha hb hp
def sortQ (l : List ByteArray) : List ByteArray := cmpB (sortB l)
theorem xfj (l : List ByteArray) : Rising (sortQ l) := xgz _ (xpm l)
theorem xhi (l : List ByteArray) (x : ByteArray) : x ∈ sortQ l ↔ x ∈ l := by
  unfold sortQ
  rw [xd4, (xhf l).mem_iff]
theorem xsn (l : List ByteArray) : (sortQ l).length ≤ l.length := by
  have := xdt (sortB l)
  rw [(xhf l).length_eq] at this
  exact this
theorem xox {l : List ByteArray} (h : l.length ≤ 1000000) : xjc l = some (sortQ l) := by
  have hs := (xhf l).length_eq
  unfold xjc xrb xcc cloneM ck
  rw [ap_of (by simp; omega) (by decide)]
  simp only [Option.bind_some, List.nil_append]
  rw [if_pos (by omega)]
  simp only [Option.bind_some]
  rw [if_pos (by omega)]
  rfl
end Go.Proofs.YtapdjibjnfeipaaGreatDoor.AL

/- Plain laws: what a list of texts contains. -/
set_option linter.all false
namespace Go.Proofs.YtapdjibjnfeipaaGreatDoor.AL
open Go Go.Proofs
theorem xrx {l : List ByteArray} (x : ByteArray) (hl : l.length ≤ 1000000) : ∃ b, xub l x = some b ∧ (b = true ↔ x ∈ l) := by
  unfold xub xnc
  obtain ⟨r, h1, h2⟩ := xbl (B := x9b l x) (R := fun r => (r = .inl () ∧ x ∉ l) ∨ ∃ i : Nat, r = .inr (i : Int) ∧ x ∈ l) (fun i t => t = (i : Int) ∧ i ≤ l.length ∧ ∀ q (h : q < l.length), q < i → ¬ x = l[q]) l.length (by
    rintro i t ⟨rfl, hi, hq⟩
    refine ⟨hi, ?_⟩
    simp only [x9b]
    by_cases hlt : i < l.length
    · rw [if_pos (by omega), ix_at hlt]
      simp only [Option.bind_some]
      by_cases he : x = l[i]
      · rw [if_pos he]
        exact .inr ⟨_, rfl, .inr ⟨i, rfl, by rw [he]; exact List.getElem_mem hlt⟩⟩
      · rw [if_neg he, wr_suc (by omega)]
        refine .inl ⟨_, rfl, rfl, by omega, fun q h hqi => ?_⟩
        by_cases e : q = i
        · subst e; exact he
        · exact hq q h (by omega)
    · rw [if_neg (by omega)]
      refine .inr ⟨_, rfl, .inl ⟨rfl, fun hm => ?_⟩⟩
      obtain ⟨q, hql, rfl⟩ := List.getElem_of_mem hm
      exact hq q hql (by omega) rfl) big 0 0 ⟨rfl, by omega, fun q h hq => by omega⟩ (by rw [big_eq]; omega)
  rw [h1]
  simp only [Option.bind_some]
  rcases h2 with ⟨rfl, h2⟩ | ⟨i, rfl, h2⟩
  · exact ⟨false, rfl, by simp [h2]⟩
  · simp only [Option.bind_some]
    rw [if_pos (by omega)]
    exact ⟨true, rfl, by simp [h2]⟩
end Go.Proofs.YtapdjibjnfeipaaGreatDoor.AL

/- Plain laws: places compared. -/
set_option linter.all false
namespace Go.Proofs.YtapdjibjnfeipaaGreatDoor.AL
open Go Go.Proofs
end Go.Proofs.YtapdjibjnfeipaaGreatDoor.AL


/- Plain laws of chapter 16: nodes, entries, what a name tells, where names lead, roots. -/
set_option linter.all false
namespace Go.Proofs.YtapdjibjnfeipaaGreatDoor.AL
open Go Go.Proofs
def foldE {α σ ρ : Type} (step : σ → α → σ ⊕ ρ) : List α → σ → σ ⊕ ρ
  | [], s => .inl s
  | x :: xs, s => match step s x with
    | .inl s' => foldE step xs s'
    | .inr r => .inr r
theorem x0v {α σ ρ : Type} {step : σ → α → σ ⊕ ρ} {R : ρ → Prop} : ∀ (xs : List α) (s : σ), (∀ s x r, x ∈ xs → step s x = .inr r → R r) → ∀ r, foldE step xs s = .inr r → R r
  | [], s, h, r, e => by cases e
  | x :: xs, s, h, r, e => by
    unfold foldE at e
    split at e
    · exact x0v xs _ (fun s y r hy => h s y r (by simp [hy])) r e
    · rename_i r' he
      injection e with e
      subst e
      exact h s x _ (by simp) he
theorem xsl {α σ ρ S τ : Type} {B : S → Option (St S τ)} (mk : Nat → σ → S) (xs : List α) (step : σ → α → σ ⊕ ρ) (fin : σ ⊕ ρ → τ) (I : Nat → σ → Prop)
    (hs : ∀ i s (h : i < xs.length), I i s → match step s xs[i] with
      | .inl s' => B (mk i s) = some (.nx (mk (i + 1) s')) ∧ I (i + 1) s'
      | .inr r => B (mk i s) = some (.out (fin (.inr r))))
    (he : ∀ s, I xs.length s → B (mk xs.length s) = some (.out (fin (.inl s)))) {s0 : σ} (h0 : I 0 s0) {fuel : Nat} (hf : xs.length < fuel) : iter B fuel (mk 0 s0) = some (fin (foldE step xs s0)) := by
  have key : ∀ (d i : Nat) (s : σ) (fuel : Nat), d + i = xs.length → I i s → d < fuel → iter B fuel (mk i s) = some (fin (foldE step (xs.drop i) s)) := by
    intro d
    induction d with
    | zero =>
      intro i s fuel hd hi hf
      obtain rfl : i = xs.length := by omega
      cases fuel with
      | zero => omega
      | succ fuel =>
        rw [xag, he s hi]
        simp [foldE]
    | succ d ih =>
      intro i s fuel hd hi hf
      cases fuel with
      | zero => omega
      | succ fuel =>
        have hlt : i < xs.length := by omega
        have h1 := hs i s hlt hi
        rw [xag, List.drop_eq_getElem_cons hlt]
        unfold foldE
        split at h1
        · rename_i s' hst
          rw [h1.1]
          exact ih (i + 1) _ fuel (by omega) h1.2 (by omega)
        · rename_i r hst
          rw [h1]
          rfl
  have := key xs.length 0 s0 fuel (by omega) h0 hf
  simpa using this
theorem xg3 {α ρ : Type} {xs : List α} {B : Int → Option (St Int (Unit ⊕ ρ))} (g : α → Option ρ) (hl : xs.length ≤ 1000000000)
    (hB : ∀ i (h : i < xs.length), B (i : Int) = some (match g xs[i] with | some r => .out (.inr r) | none => .nx ((i + 1 : Nat) : Int))) (hE : B (xs.length : Int) = some (.out (.inl ()))) :
    iter B big 0 = some (match xs.findSome? g with | some r => .inr r | none => .inl ()) := by
  have := xsl (B := B) (σ := Unit) (fun i _ => (i : Int)) xs (fun _ x => match g x with | some r => .inr r | none => .inl ()) (fun o => o) (fun _ _ => True) (by
    intro i s h _
    have := hB i h
    cases hg : g xs[i] with
    | none => rw [hg] at this; exact ⟨this, trivial⟩
    | some r => rw [hg] at this; exact this) (fun _ _ => hE) (s0 := ()) trivial (fuel := big) (by rw [big_eq]; omega)
  have e0 : ((0 : Nat) : Int) = 0 := rfl
  rw [show (0 : Int) = ((0 : Nat) : Int) from rfl, this]
  congr 1
  clear this hB hE hl
  induction xs with
  | nil => rfl
  | cons x xs ih =>
    unfold foldE
    rw [List.findSome?_cons]
    cases hg : g x with
    | none => simpa using ih
    | some r => rfl
def zN : Node := ⟨0, 0, 0, 0, [], [], ⟨0, 0, xl, ⟨0, 0, 0⟩, 0⟩⟩
structure PQ (bs : List Branch) : Prop where
  len : bs.length ≤ 3
  nodes : ∀ b ∈ bs, b.nodes.length ≤ 24 ∧ ∀ n ∈ b.nodes, NB n
def nodeQ (bs : List Branch) (x : Place) : Node :=
  if x.layer < 1 then zN else if (bs.length : Int) < x.layer then zN else
    if x.ino < 1 then zN else if ((((bs[(x.layer - 1).toNat]?).getD ⟨[]⟩).nodes.length : Nat) : Int) < x.ino then zN else (((bs[(x.layer - 1).toNat]?).getD ⟨[]⟩).nodes[(x.ino - 1).toNat]?).getD zN
theorem x5r {bs : List Branch} (h : PQ bs) (x : Place) : xyb bs x = some (nodeQ bs x) := by
  unfold xyb nodeQ
  by_cases h1 : x.layer < 1
  · rw [if_pos h1, if_pos h1]; rfl
  rw [if_neg h1, if_neg h1]
  by_cases h2 : (bs.length : Int) < x.layer
  · rw [if_pos h2, if_pos h2]; rfl
  rw [if_neg h2, if_neg h2]
  have hl := h.len
  have hlt : (x.layer - 1).toNat < bs.length := by omega
  rw [wr_in (by omega) (by omega), ix_of (by omega) (by omega)]
  simp only [Option.bind_some]
  rw [List.getElem?_eq_getElem hlt]
  simp only [Option.getD_some]
  have hb := (h.nodes _ (List.getElem_mem hlt)).1
  generalize bs[(x.layer - 1).toNat] = b at hb
  by_cases h3 : x.ino < 1
  · rw [if_pos h3, if_pos h3]; rfl
  rw [if_neg h3, if_neg h3]
  by_cases h4 : (b.nodes.length : Int) < x.ino
  · rw [if_pos h4, if_pos h4]; rfl
  rw [if_neg h4, if_neg h4]
  have hlt2 : (x.ino - 1).toNat < b.nodes.length := by omega
  rw [wr_in (by omega) (by omega), ix_of (by omega) (by omega)]
  simp only [Option.bind_some]
  rw [List.getElem?_eq_getElem hlt2]
  rfl
theorem zN_nb : NB zN := ⟨by simp [zN], by simp [zN], by simp [zN]⟩
theorem x2m {bs : List Branch} (h : PQ bs) (x : Place) : NB (nodeQ bs x) := by
  unfold nodeQ
  split
  · exact zN_nb
  split
  · exact zN_nb
  split
  · exact zN_nb
  split
  · exact zN_nb
  rename_i h1 h2 h3 h4
  have hlt : (x.layer - 1).toNat < bs.length := by omega
  rw [List.getElem?_eq_getElem hlt] at h4 ⊢
  simp only [Option.getD_some] at h4 ⊢
  have hlt2 : (x.ino - 1).toNat < bs[(x.layer - 1).toNat].nodes.length := by omega
  rw [List.getElem?_eq_getElem hlt2]
  exact (h.nodes _ (List.getElem_mem hlt)).2 _ (List.getElem_mem hlt2)
theorem bitsQ (k : Fin 32) : bAnd .i64 (k.val : Int) 1 = 0 ↔ ¬ (wr ((k.val : Int).tdiv 1)).tmod 2 = 1 := by
  revert k
  decide +kernel
def opqQ (n : Node) : Bool := decide ((wr (n.attr.has.tdiv 1)).tmod 2 = 1 ∧ n.attr.opaque0 = 121)
theorem x7o {n : Node} (h : NB n) : xzc n = some (opqQ n) := by
  unfold xzc opqQ
  rw [if_pos h.has0]
  have e : ((n.attr.has.toNat : Nat) : Int) = n.attr.has := by have := h.has0; omega
  have hb := bitsQ ⟨n.attr.has.toNat, by have := h.has0; have := h.has1; omega⟩
  simp only [e] at hb
  by_cases hc : bAnd .i64 n.attr.has 1 = 0
  · rw [if_pos hc]
    exact congrArg some (decide_eq_false fun hh => hb.1 hc hh.1).symm
  · rw [if_neg hc]
    have hq : (wr (n.attr.has.tdiv 1)).tmod 2 = 1 := by
      rcases Decidable.em ((wr (n.attr.has.tdiv 1)).tmod 2 = 1) with h | h
      · exact h
      · exact absurd (hb.2 h) hc
    by_cases ho : n.attr.opaque0 = 121
    · rw [if_pos ho]; exact congrArg some (decide_eq_true ⟨hq, ho⟩).symm
    · rw [if_neg ho]; exact congrArg some (decide_eq_false fun hh => ho hh.2).symm
def entG (bs : List Branch) (x : Place) (nm : ByteArray) (e : Entry) : Option (Place × Node) :=
  if e.name = nm then if (nodeQ bs ⟨x.layer, e.ino⟩).kind = 0 then none else some (⟨x.layer, e.ino⟩, nodeQ bs ⟨x.layer, e.ino⟩) else none
def entQ (bs : List Branch) (x : Place) (nm : ByteArray) : Option (Place × Node) :=
  if (nodeQ bs x).kind = 1 then (nodeQ bs x).entries.findSome? (entG bs x nm) else none
theorem xw4 {bs : List Branch} (h : PQ bs) (x : Place) (nm : ByteArray) : xrd bs x nm = some ((entQ bs x nm).getD (⟨0, 0⟩, zN)) := by
  unfold xrd entQ
  rw [x5r h]
  simp only [Option.bind_some]
  have hn := (x2m h x).ents
  by_cases hk : (nodeQ bs x).kind = 1
  · rw [if_pos hk, if_pos hk, xg3 (entG bs x nm) (xs := (nodeQ bs x).entries) (by omega)]
    · cases (nodeQ bs x).entries.findSome? (entG bs x nm) <;> rfl
    · intro i hi
      simp only [xwd]
      rw [if_pos (by omega), ix_at hi]
      simp only [Option.bind_some]
      rw [x5r h, wr_suc (by omega)]
      simp only [Option.bind_some, entG]
      by_cases h1 : (nodeQ bs x).entries[i].name = nm
      · rw [if_pos h1, if_pos h1]
        by_cases h2 : (nodeQ bs ⟨x.layer, (nodeQ bs x).entries[i].ino⟩).kind = 0
        · rw [if_pos h2, if_pos h2]
        · rw [if_neg h2, if_neg h2]
      · rw [if_neg h1, if_neg h1]
    · simp only [xwd]
      rw [if_neg (by omega)]
  · rw [if_neg hk, if_neg hk]; rfl
theorem xyv {bs : List Branch} {x : Place} {nm : ByteArray} {p : Place × Node} (h : entQ bs x nm = some p) : p.2 = nodeQ bs p.1 ∧ ¬ p.2.kind = 0 ∧ (nodeQ bs x).kind = 1 ∧ ∃ e ∈ (nodeQ bs x).entries, e.name = nm := by
  unfold entQ at h
  split at h
  · rename_i hk
    obtain ⟨e, he, h1⟩ := List.exists_of_findSome?_eq_some h
    unfold entG at h1
    split at h1
    · rename_i hn
      split at h1
      · cases h1
      · rename_i h2
        injection h1 with h1
        subst h1
        exact ⟨rfl, h2, hk, e, he, hn⟩
    · cases h1
  · cases h
def stepQ (bs : List Branch) (nm : ByteArray) (d : List Place) (x : Place) : List Place ⊕ (Int × List Place) :=
  match entQ bs x nm with
  | none => .inl d
  | some (y, n) => if n.kind = 1 then (if opqQ n = true then .inr (1, d ++ [y]) else .inl (d ++ [y])) else if 0 < (d.length : Int) then .inr (1, d) else if n.kind = 2 ∨ n.kind = 3 then .inr (n.kind, [y]) else .inr (0, [])
def endQ (o : List Place ⊕ (Int × List Place)) : Int × List Place := match o with
  | .inl d => if 0 < (d.length : Int) then (1, d) else (0, [])
  | .inr r => r
def findQ (bs : List Branch) (l : List Place) (nm : ByteArray) : Int × List Place := endQ (foldE (stepQ bs nm) l [])
structure FQ' (n : Nat) (r : Int × List Place) : Prop where
  some : r.1 = 0 ∨ 0 < r.2.length
  nil : r.1 = 0 → r.2 = []
  kinds : r.1 = 0 ∨ r.1 = 1 ∨ r.1 = 2 ∨ r.1 = 3
  one : ¬ r.1 = 1 → r.2.length ≤ 1
theorem xs3 {bs : List Branch} {nm : ByteArray} {d : List Place} {x : Place} {r : Int × List Place} (h : stepQ bs nm d x = .inr r) : FQ' 0 r := by
  unfold stepQ at h
  split at h
  · cases h
  · rename_i y n he
    split at h
    · split at h
      · injection h with h; subst h; exact ⟨.inr (by simp), fun e => (by cases e), by simp, fun e => absurd rfl e⟩
      · cases h
    · split at h
      · injection h with h; subst h; exact ⟨.inr (by simp only; omega), fun e => (by cases e), by simp, fun e => absurd rfl e⟩
      · split at h
        · rename_i hk
          injection h with h
          subst h
          exact ⟨.inr (by simp), fun e => (by simp only at e; omega), by simp only; omega, fun _ => by simp⟩
        · injection h with h; subst h; exact ⟨.inl rfl, fun _ => rfl, by simp, fun _ => by simp⟩
theorem xnt (bs : List Branch) (l : List Place) (nm : ByteArray) : FQ' 0 (findQ bs l nm) := by
  unfold findQ endQ
  split
  · rename_i d hd
    split
    · exact ⟨.inr (by simp only; omega), fun e => (by cases e), by simp, fun e => absurd rfl e⟩
    · exact ⟨.inl rfl, fun _ => rfl, by simp, fun _ => by simp⟩
  · rename_i r hr
    exact x0v (R := FQ' 0) l [] (fun s x r _ h => xs3 h) r hr
theorem xeq {bs : List Branch} {nm : ByteArray} : ∀ (l : List Place) (d : List Place), (∀ d', foldE (stepQ bs nm) l d = .inl d' → d'.length ≤ d.length + l.length) ∧ (∀ r, foldE (stepQ bs nm) l d = .inr r → r.2.length ≤ d.length + l.length)
  | [], d => ⟨fun d' e => by injection e with e; subst e; simp, fun r e => by cases e⟩
  | x :: l, d => by
    have key : (∃ r, stepQ bs nm d x = .inr r ∧ foldE (stepQ bs nm) (x :: l) d = .inr r ∧ r.2.length ≤ d.length + 1) ∨ (∃ d1, stepQ bs nm d x = .inl d1 ∧ d1.length ≤ d.length + 1 ∧ foldE (stepQ bs nm) (x :: l) d = foldE (stepQ bs nm) l d1) := by
      cases hs : stepQ bs nm d x with
      | inl d1 =>
        refine .inr ⟨d1, rfl, ?_, by rw [foldE, hs]⟩
        unfold stepQ at hs
        split at hs
        · injection hs with hs; subst hs; omega
        · split at hs
          · split at hs
            · cases hs
            · injection hs with hs; subst hs; simp
          · split at hs
            · cases hs
            · split at hs <;> cases hs
      | inr r =>
        refine .inl ⟨r, rfl, by rw [foldE, hs], ?_⟩
        unfold stepQ at hs
        split at hs
        · cases hs
        · split at hs
          · split at hs
            · injection hs with hs; subst hs; simp
            · cases hs
          · split at hs
            · injection hs with hs; subst hs; simp
            · split at hs <;> (injection hs with hs; subst hs; simp)
    rcases key with ⟨r, h1, h2, h3⟩ | ⟨d1, h1, h2, h3⟩
    · refine ⟨fun d' e => (by rw [h2] at e; cases e), fun r' e => ?_⟩
      rw [h2] at e
      injection e with e
      subst e
      simp only [List.length_cons]; omega
    · obtain ⟨g1, g2⟩ := xeq l d1
      refine ⟨fun d' e => ?_, fun r e => ?_⟩
      · rw [h3] at e; have := g1 d' e; simp only [List.length_cons]; omega
      · rw [h3] at e; have := g2 r e; simp only [List.length_cons]; omega
theorem xmr (bs : List Branch) (l : List Place) (nm : ByteArray) : (findQ bs l nm).2.length ≤ l.length := by
  obtain ⟨g1, g2⟩ := xeq (bs := bs) (nm := nm) l []
  unfold findQ endQ
  split
  · rename_i d hd
    have := g1 d hd
    split
    · simpa using this
    · simp
  · rename_i r hr
    have := g2 r hr
    simpa using this
theorem xew {bs : List Branch} {nm : ByteArray} : ∀ (l : List Place) (d : List Place), (∀ x ∈ l, entQ bs x nm = none) → foldE (stepQ bs nm) l d = .inl d
  | [], d, _ => rfl
  | x :: l, d, h => by
    unfold foldE stepQ
    rw [h x (by simp)]
    exact xew l d fun y hy => h y (by simp [hy])
theorem xp1 {bs : List Branch} {l : List Place} {nm : ByteArray} (h : ¬ (findQ bs l nm).1 = 0) : ∃ x ∈ l, ∃ p, entQ bs x nm = some p := by
  rcases Classical.em (∃ x ∈ l, ∃ p, entQ bs x nm = some p) with h1 | h1
  · exact h1
  · exfalso
    apply h
    unfold findQ
    rw [xew l [] (fun x hx => by
      cases he : entQ bs x nm with
      | none => rfl
      | some p => exact absurd ⟨x, hx, p, he⟩ h1)]
    rfl
def outQ (o : List Place ⊕ (Int × List Place)) : (List Place) ⊕ ((List Place) ⊕ (Int × List Place)) := match o with
  | .inl d => .inl d
  | .inr r => if r.1 = 0 ∨ r.1 = 1 then .inr (.inl r.2) else .inr (.inr r)
theorem x4r {s : Stack} (h : PQ s.lowers) {l : List Place} (hl : l.length ≤ 1000) (nm : ByteArray) : xqd s l nm = some (findQ s.lowers l nm) := by
  unfold xqd
  have := xsl (B := xud s l nm) (fun i d => (d, (i : Int))) l (stepQ s.lowers nm) outQ (fun i d => d.length ≤ i) (by
    intro i d hi hd
    have hb : xud s l nm (d, (i : Int)) = some (match stepQ s.lowers nm d l[i] with | .inl d' => .nx (d', ((i + 1 : Nat) : Int)) | .inr r => .out (outQ (.inr r))) := by
      simp only [xud]
      rw [if_pos (by omega), ix_at hi]
      simp only [Option.bind_some]
      rw [xw4 h, wr_suc (by omega)]
      simp only [Option.bind_some, stepQ]
      cases he : entQ s.lowers l[i] nm with
      | none => simp [zN]
      | some p =>
        obtain ⟨y, n⟩ := p
        obtain ⟨e1, e2, _⟩ := xyv he
        simp only at e1 e2
        subst e1
        simp only [Option.getD_some]
        rw [if_neg e2]
        by_cases hk : (nodeQ s.lowers y).kind = 1
        · rw [if_pos hk, if_pos hk, ap_of (by simp; omega) (by decide)]
          simp only [Option.bind_some]
          rw [x7o (x2m h y)]
          simp only [Option.bind_some]
          cases ho : opqQ (nodeQ s.lowers y) with
          | true => simp [outQ]
          | false => simp
        · rw [if_neg hk, if_neg hk]
          by_cases h0 : 0 < (d.length : Int)
          · have hd0 : ¬ (d.length : Int) = 0 := by omega
            rw [if_pos h0, if_neg hd0]
            have ho : outQ (.inr (1, d)) = .inr (.inl d) := by simp [outQ]
            show _ = some (St.out (outQ (.inr (1, d))))
            rw [ho]
            split
            · rfl
            · split <;> rfl
          · have hd0 : (d.length : Int) = 0 := by omega
            have hd1 : d = [] := List.eq_nil_of_length_eq_zero (by omega)
            rw [if_neg h0, if_pos hd0]
            have ho : ∀ k : Int, ¬ k = 0 → ¬ k = 1 → outQ (.inr (k, [y])) = .inr (.inr (k, [y])) := fun k g1 g2 => if_neg (by rintro (g | g); exact g1 g; exact g2 g)
            have ho0 : outQ (.inr (0, [])) = .inr (.inl []) := by simp [outQ]
            by_cases h2 : (nodeQ s.lowers y).kind = 2
            · rw [if_pos h2, if_pos (Or.inl h2)]
              show _ = some (St.out (outQ (.inr (_, [y]))))
              rw [ho _ e2 hk]
            · rw [if_neg h2]
              by_cases h3 : (nodeQ s.lowers y).kind = 3
              · rw [if_pos h3, if_pos (Or.inr h3)]
                show _ = some (St.out (outQ (.inr (_, [y]))))
                rw [ho _ e2 hk]
              · rw [if_neg h3, if_neg (by omega)]
                show _ = some (St.out (outQ (.inr (0, []))))
                rw [ho0, hd1]
    split
    · rename_i d' hs
      rw [hs] at hb
      refine ⟨hb, ?_⟩
      have := (xeq (bs := s.lowers) (nm := nm) [l[i]] d).1 d' (by rw [foldE, hs]; rfl)
      simp at this
      omega
    · rename_i r hs
      rw [hs] at hb
      exact hb) (by
    intro d hd
    simp only [xud]
    rw [if_neg (by omega)]
    rfl) (s0 := []) (Nat.le_refl _) (fuel := big) (by rw [big_eq]; omega)
  have e0 : ((0 : Nat) : Int) = 0 := rfl
  rw [e0] at this
  rw [this]
  simp only [Option.bind_some]
  have hp := xnt s.lowers l nm
  unfold findQ endQ at *
  cases hf : foldE (stepQ s.lowers nm) l [] with
  | inl d =>
    simp only [outQ]
    by_cases h0 : (d.length : Int) = 0
    · rw [if_pos h0, if_neg (by omega)]
    · rw [if_neg h0, if_pos (by omega)]
  | inr r =>
    rw [hf] at hp
    simp only at hp
    simp only [outQ]
    obtain ⟨k, d⟩ := r
    by_cases h1 : k = 0 ∨ k = 1
    · rw [if_pos h1]
      simp only
      rcases h1 with h1 | h1
      · subst h1
        have := hp.nil rfl
        simp only at this
        subst this
        rfl
      · subst h1
        have : 0 < d.length := by rcases hp.some with h | h; cases h; exact h
        rw [if_neg (by omega)]
    · rw [if_neg h1]
def stepL (bs : List Branch) (d : List Place) (nm : ByteArray) : List Place ⊕ (List Place × Bool) := if (findQ bs d nm).1 = 1 then .inl (findQ bs d nm).2 else .inr ([], false)
def lookQ (bs : List Branch) (l : List Place) (nms : List ByteArray) : List Place × Bool := match foldE (stepL bs) nms l with
  | .inl d => (d, true)
  | .inr r => r
theorem xky {n : Nat} {α : Type} {l : List α} (h : l.length * n ≤ 140737488355328) (hn : 0 < n) : cloneM n l = some l := by
  unfold cloneM
  rw [ap_of (by simpa using h) hn]
  rfl
theorem xp7 {s : Stack} (h : PQ s.lowers) {l : List Place} (hl : l.length ≤ 1000) {nms : List ByteArray} (hn : nms.length ≤ 1000) : xig s l nms = some (lookQ s.lowers l nms) := by
  unfold xig
  rw [xky (by omega) (by decide)]
  simp only [Option.bind_some]
  have := xsl (B := xvd s nms) (fun i d => (d, (i : Int))) nms (stepL s.lowers) (fun o => o) (fun i d => d.length ≤ 1000) (by
    intro i d hi hd
    have hb : xvd s nms (d, (i : Int)) = some (match stepL s.lowers d nms[i] with | .inl d' => .nx (d', ((i + 1 : Nat) : Int)) | .inr r => .out (.inr r)) := by
      simp only [xvd]
      rw [if_pos (by omega), ix_at hi]
      simp only [Option.bind_some]
      rw [x4r h hd, wr_suc (by omega)]
      simp only [Option.bind_some, stepL]
      split <;> rfl
    split
    · rename_i d' hs
      rw [hs] at hb
      refine ⟨hb, ?_⟩
      unfold stepL at hs
      split at hs
      · injection hs with hs
        subst hs
        exact Nat.le_trans (xmr _ _ _) hd
      · cases hs
    · rename_i r hs
      rw [hs] at hb
      exact hb) (by
    intro d hd
    simp only [xvd]
    rw [if_neg (by omega)]) (s0 := l) hl (fuel := big) (by rw [big_eq]; omega)
  have e0 : ((0 : Nat) : Int) = 0 := rfl
  rw [e0] at this
  rw [this]
  simp only [Option.bind_some]
  unfold lookQ
  cases foldE (stepL s.lowers) nms l <;> rfl
theorem x5v {bs : List Branch} : ∀ (nms : List ByteArray) (l : List Place), (lookQ bs l nms).1.length ≤ l.length
  | [], l => Nat.le_refl _
  | n :: nms, l => by
    have := x5v nms (findQ bs l n).2 (bs := bs)
    unfold lookQ at this ⊢
    unfold foldE
    by_cases h : (findQ bs l n).1 = 1
    · have e : stepL bs l n = .inl (findQ bs l n).2 := if_pos h
      rw [e]
      exact Nat.le_trans this (xmr _ _ _)
    · have e : stepL bs l n = .inr ([], false) := if_neg h
      rw [e]
      exact Nat.zero_le _
def stepO (bs : List Branch) (d : List Place) (i : Nat) : List Place ⊕ List Place :=
  if (nodeQ bs ⟨((i + 1 : Nat) : Int), 1⟩).kind = 1 then (if opqQ (nodeQ bs ⟨((i + 1 : Nat) : Int), 1⟩) = true then .inr (d ++ [⟨((i + 1 : Nat) : Int), 1⟩]) else .inl (d ++ [⟨((i + 1 : Nat) : Int), 1⟩])) else .inl d
def rootsQ (bs : List Branch) : List Place := match foldE (stepO bs) (List.range bs.length) [] with
  | .inl d => d
  | .inr d => d
theorem xsv {bs : List Branch} {d d' : List Place} {i : Nat} (h : stepO bs d i = .inl d') : d'.length ≤ d.length + 1 := by
  unfold stepO at h
  split at h
  · split at h
    · cases h
    · injection h with h; subst h; simp
  · injection h with h; subst h; omega
theorem xzy {s : Stack} (h : PQ s.lowers) : xzd s = some (rootsQ s.lowers) := by
  unfold xzd
  have hl := h.len
  have := xsl (B := xgd s) (fun i d => (d, (i : Int))) (List.range s.lowers.length) (stepO s.lowers) (fun o => match o with | .inl d => d | .inr d => d) (fun i d => d.length ≤ i) (by
    intro i d hi hd
    have hi' : i < s.lowers.length := by simpa using hi
    rw [List.getElem_range]
    have hb : xgd s (d, (i : Int)) = some (match stepO s.lowers d i with | .inl d' => .nx (d', ((i + 1 : Nat) : Int)) | .inr r => .out r) := by
      simp only [xgd]
      rw [if_pos (by omega), wr_suc (by omega), x5r h]
      simp only [Option.bind_some, stepO]
      by_cases hk : (nodeQ s.lowers ⟨((i + 1 : Nat) : Int), 1⟩).kind = 1
      · rw [if_pos hk, if_pos hk, ap_of (by simp; omega) (by decide)]
        simp only [Option.bind_some]
        rw [x7o (x2m h _)]
        simp only [Option.bind_some]
        split <;> rfl
      · rw [if_neg hk, if_neg hk]
    split
    · rename_i d' hs
      rw [hs] at hb
      have := xsv hs
      exact ⟨hb, by omega⟩
    · rename_i r hs
      rw [hs] at hb
      exact hb) (by
    intro d hd
    simp only [xgd, List.length_range]
    rw [if_neg (by omega)]) (s0 := []) (Nat.le_refl _) (fuel := big) (by rw [big_eq]; simp; omega)
  have e0 : ((0 : Nat) : Int) = 0 := rfl
  rw [e0] at this
  rw [this]
  rfl
theorem xep {bs : List Branch} (h : PQ bs) : (rootsQ bs).length ≤ 3 := by
  have hl := h.len
  have key : ∀ (xs : List Nat) (d : List Place), (match foldE (stepO bs) xs d with | .inl d => d | .inr d => d).length ≤ d.length + xs.length := by
    intro xs
    induction xs with
    | nil => intro d; simp [foldE]
    | cons x xs ih =>
      intro d
      unfold foldE
      cases hs : stepO bs d x with
      | inl d' =>
        have h1 := xsv hs
        have h2 := ih d'
        simp only [List.length_cons]
        omega
      | inr d' =>
        unfold stepO at hs
        split at hs
        · split at hs
          · injection hs with hs; subst hs; simp
          · cases hs
        · cases hs
  have := key (List.range bs.length) []
  simp only [List.length_range, List.length_nil] at this
  unfold rootsQ
  omega
end Go.Proofs.YtapdjibjnfeipaaGreatDoor.AL

/- Plain laws of chapter 16: names, and the two laws. -/
set_option linter.all false
namespace Go.Proofs.YtapdjibjnfeipaaGreatDoor.AL
open Go Go.Proofs
theorem xet {α : Type} {p : α → Option Bool} (f : α → Bool) : ∀ (l : List α), (∀ x ∈ l, p x = some (f x)) → delM p l = some (l.filter fun x => !f x)
  | [], _ => rfl
  | x :: l, h => by
    unfold delM
    rw [h x (by simp), xet f l fun y hy => h y (by simp [hy])]
    simp only [Option.bind_some, List.filter_cons]
    cases f x <;> rfl
def fndQ (bs : List Branch) (l : List Place) (nm : ByteArray) : Bool := !decide ((findQ bs l nm).1 = 0)
def addQ (bs : List Branch) (p : ByteArray → Bool) (d : List ByteArray) (x : Place) : List ByteArray := if (nodeQ bs x).kind = 1 then d ++ ((nodeQ bs x).entries.map (·.name)).filter p else d
def allQ (bs : List Branch) (p : ByteArray → Bool) (l : List Place) : List ByteArray := l.foldl (addQ bs p) []
theorem x2o (bs : List Branch) (p : ByteArray → Bool) (nm : ByteArray) : ∀ (l : List Place) (d : List ByteArray), nm ∈ l.foldl (addQ bs p) d ↔ nm ∈ d ∨ (p nm = true ∧ ∃ x ∈ l, (nodeQ bs x).kind = 1 ∧ ∃ e ∈ (nodeQ bs x).entries, e.name = nm)
  | [], d => by simp
  | x :: l, d => by
    rw [List.foldl_cons, x2o bs p nm l]
    have h1 : nm ∈ addQ bs p d x ↔ nm ∈ d ∨ (p nm = true ∧ (nodeQ bs x).kind = 1 ∧ ∃ e ∈ (nodeQ bs x).entries, e.name = nm) := by
      unfold addQ
      split
      · rename_i hk
        simp only [List.mem_append, List.mem_filter, List.mem_map, hk, true_and]
        constructor
        · rintro (h | ⟨h1, h2⟩)
          · exact .inl h
          · exact .inr ⟨h2, h1⟩
        · rintro (h | ⟨h1, h2⟩)
          · exact .inl h
          · exact .inr ⟨h2, h1⟩
      · rename_i hk
        simp [hk]
    rw [h1]
    constructor
    · rintro ((h | ⟨h1, h2⟩) | ⟨h1, y, hy, h2⟩)
      · exact .inl h
      · exact .inr ⟨h1, x, by simp, h2⟩
      · exact .inr ⟨h1, y, by simp [hy], h2⟩
    · rintro (h | ⟨g1, y, hy, g2⟩)
      · exact .inl (.inl h)
      · rcases List.mem_cons.1 hy with rfl | hy
        · exact .inl (.inr ⟨g1, g2⟩)
        · exact .inr ⟨g1, y, hy, g2⟩
theorem xyy {bs : List Branch} (h : PQ bs) (p : ByteArray → Bool) (d : List ByteArray) (x : Place) : (addQ bs p d x).length ≤ d.length + 16 := by
  unfold addQ
  split
  · have h1 := (x2m h x).ents
    have h2 := List.length_filter_le p ((nodeQ bs x).entries.map (·.name))
    simp only [List.length_append, List.length_map] at *
    omega
  · omega
theorem xft {bs : List Branch} (h : PQ bs) (p : ByteArray → Bool) : ∀ (l : List Place) (d : List ByteArray), (l.foldl (addQ bs p) d).length ≤ d.length + 16 * l.length
  | [], d => by simp
  | x :: l, d => by
    have h1 := xft h p l (addQ bs p d x)
    have h2 := xyy h p d x
    simp only [List.foldl_cons, List.length_cons]
    omega
def namesQ (bs : List Branch) (l : List Place) : List ByteArray := sortQ (allQ bs (fndQ bs l) l)
theorem xk1 (es : List Entry) : ∀ (d : List ByteArray), es.foldl (fun d e => d ++ [e.name]) d = d ++ es.map (·.name) := by
  induction es with
  | nil => intro d; simp
  | cons e es ih => intro d; rw [List.foldl_cons, ih]; simp
theorem xy1 {n : Node} (h : NB n) {d : List ByteArray} (hd : d.length ≤ 1000000) : iter (xce n) big (d, 0) = some (d ++ n.entries.map (·.name)) := by
  have hn := h.ents
  have := xir (B := xce n) (fun i d => (d, (i : Int))) n.entries (fun d e => d ++ [e.name]) (fun d => d) (fun i d' => d'.length ≤ d.length + i) (by
    intro i d' hi hd'
    simp only [xce]
    refine ⟨?_, by simp; omega⟩
    rw [if_pos (by omega), ix_at hi]
    simp only [Option.bind_some]
    rw [ap_of (by simp; omega) (by decide), wr_suc (by omega)]
    rfl) (by
    intro d' hd'
    simp only [xce]
    rw [if_neg (by omega)]) (s0 := d) (Nat.le_refl _) (fuel := big) (by rw [big_eq]; omega)
  have e0 : ((0 : Nat) : Int) = 0 := rfl
  rw [e0] at this
  rw [this.1, xk1]
theorem xa3 {s : Stack} (h : PQ s.lowers) {l : List Place} (hl : l.length ≤ 1000) (nm : ByteArray) : xbd nm s l = some (!fndQ s.lowers l nm) := by
  unfold xbd fndQ
  rw [x4r h hl]
  simp only [Option.bind_some]
  by_cases hk : (findQ s.lowers l nm).1 = 0 <;> simp [hk]
theorem xlz (l : List ByteArray) : l.filter (fun _ => true) = l := by simp
theorem xy3 {s : Stack} (h : PQ s.lowers) {l : List Place} (hl : l.length ≤ 1000) : xvh s l = some (namesQ s.lowers l) := by
  unfold xvh
  have := xir (B := xae s l) (fun i d => (d, (i : Int))) l (addQ s.lowers fun _ => true) (fun d => d) (fun i d => d.length ≤ 16 * i) (by
    intro i d hi hd
    refine ⟨?_, by have := xyy h (fun _ => true) d l[i]; omega⟩
    simp only [xae]
    rw [if_pos (by omega), ix_at hi]
    simp only [Option.bind_some]
    rw [x5r h, wr_suc (by omega)]
    simp only [Option.bind_some, addQ]
    by_cases hk : (nodeQ s.lowers l[i]).kind = 1
    · rw [if_pos hk, if_pos hk, xy1 (x2m h _) (by omega), xlz]
      rfl
    · rw [if_neg hk, if_neg hk]) (by
    intro d hd
    simp only [xae]
    rw [if_neg (by omega)]) (s0 := []) (Nat.le_refl _) (fuel := big) (by rw [big_eq]; omega)
  have e0 : ((0 : Nat) : Int) = 0 := rfl
  rw [e0] at this
  rw [this.1]
  simp only [Option.bind_some]
  have hlen := xft h (fun _ => true) l []
  simp only [List.length_nil] at hlen
  change (List.length (allQ s.lowers (fun _ => true) l)) ≤ _ at hlen
  change (xjc (allQ s.lowers (fun _ => true) l)).bind _ = _
  rw [xox (by omega)]
  simp only [Option.bind_some]
  have hsl := xsn (allQ s.lowers (fun _ => true) l)
  unfold x3e ck
  rw [if_pos (by omega)]
  simp only [Option.bind_some]
  rw [xet (fun z => !fndQ s.lowers l z) _ fun x _ => xa3 h hl x]
  simp only [Option.bind_some, Bool.not_not]
  congr 1
  refine xtt (List.Pairwise.filter _ (xfj _)) (xfj _) fun x => ?_
  unfold namesQ
  rw [List.mem_filter, xhi, xhi]
  unfold allQ
  rw [x2o, x2o]
  simp only [List.not_mem_nil, false_or, true_and]
  exact ⟨fun ⟨a, b⟩ => ⟨b, a⟩, fun ⟨a, b⟩ => ⟨b, a⟩⟩
theorem x8t {bs : List Branch} (h : PQ bs) (l : List Place) : (namesQ bs l).length ≤ 16 * l.length := by
  have h1 := xsn (allQ bs (fndQ bs l) l)
  have h2 := xft h (fndQ bs l) l []
  simp only [List.length_nil] at h2
  unfold namesQ
  unfold allQ at *
  omega
theorem x90 {bs : List Branch} (l : List Place) (nm : ByteArray) : nm ∈ namesQ bs l ↔ ¬ (findQ bs l nm).1 = 0 := by
  unfold namesQ
  rw [xhi]
  unfold allQ
  rw [x2o]
  simp only [List.not_mem_nil, false_or]
  constructor
  · rintro ⟨h, _⟩
    simpa [fndQ] using h
  · intro h
    refine ⟨by simp [fndQ, h], ?_⟩
    obtain ⟨x, hx, p, hp⟩ := xp1 h
    obtain ⟨_, _, h3, h4⟩ := xyv hp
    exact ⟨x, hx, h3, h4⟩
theorem SB.pq {s : Stack} (h : SB s) : PQ s.lowers := ⟨h.low, fun b hb => h.lows b hb⟩
end Go.Proofs.YtapdjibjnfeipaaGreatDoor.AL

/- Plain laws: names. -/
set_option linter.all false
namespace Go.Proofs.YtapdjibjnfeipaaGreatDoor.AL
open Go Go.Proofs
def letP (n : Int) : Bool := decide ((97 ≤ n ∧ n ≤ 122) ∨ (48 ≤ n ∧ n ≤ 57) ∨ n = 46 ∨ n = 95 ∨ n = 45)
theorem xh2 (n : Int) : xjd n = some (letP n) := by
  unfold xjd letP
  repeat' split
  all_goals (congr 1; symm; first | (apply decide_eq_true; omega) | (apply decide_eq_false; omega))
theorem xn1 (n : Int) : xwh n = some (letP n) := xh2 n
def rightP (s : ByteArray) : Bool := decide (1 ≤ s.size ∧ s.size ≤ 12 ∧ ¬ s = ⟨#[46]⟩ ∧ ¬ s = ⟨#[46, 46]⟩) && s.data.toList.all fun b => letP b.toNat
theorem bsize (s : ByteArray) : s.data.toList.length = s.size := by simp
theorem xxs (s : ByteArray) : ∀ (f pos : Nat), pos ≤ s.size → s.size ≤ f + pos → (Lib.idxFuncFrom (fun x => !letP (x : Int)) true s f pos < 0 ↔ ∀ j (h : j < s.data.toList.length), pos ≤ j → letP (s.data.toList[j]).toNat = true)
  | 0, pos, h1, h2 => by
    have hb := bsize s
    simp only [Lib.idxFuncFrom]
    exact ⟨fun _ j h hj => by omega, fun _ => by omega⟩
  | f + 1, pos, h1, h2 => by
    have hb := bsize s
    unfold Lib.idxFuncFrom
    by_cases hlt : pos < s.size
    · rw [if_pos hlt]
      have hg : s[pos]'hlt = s.data.toList[pos]'(by omega) := rfl
      by_cases ha : (s[pos]'hlt).toNat < 128
      · rw [decode_ascii s pos hlt ha]
        simp only
        by_cases hl : letP ((s[pos]'hlt).toNat : Int) = true
        · rw [if_neg (by simp [hl])]
          rw [xxs s f (pos + 1) (by omega) (by omega)]
          constructor
          · intro h j hj hpj
            by_cases e : j = pos
            · subst e; rw [← hg]; exact hl
            · exact h j hj (by omega)
          · intro h j hj hpj
            exact h j hj (by omega)
        · rw [if_pos (by simpa using hl)]
          constructor
          · intro h; omega
          · intro h
            have := h pos (by omega) (Nat.le_refl _)
            rw [← hg] at this
            exact absurd this hl
      · obtain ⟨d1, d2⟩ := decode_high s pos hlt (by omega)
        have hno : letP (((Utf8.decode s pos).1 : Nat) : Int) = false := by
          unfold letP
          apply decide_eq_false
          omega
        rw [if_pos (by simp [hno])]
        constructor
        · intro h; omega
        · intro h
          have := h pos (by omega) (Nat.le_refl _)
          rw [← hg] at this
          unfold letP at this
          have := of_decide_eq_true this
          omega
    · rw [if_neg hlt]
      exact ⟨fun _ j h hj => by omega, fun _ => by omega⟩
theorem x1v (s : ByteArray) : x1e s = some (rightP s) := by
  have hb := bsize s
  unfold x1e rightP
  by_cases h1 : (s.size : Int) = 0
  · rw [if_pos h1, decide_eq_false (by omega)]; rfl
  rw [if_neg h1]
  by_cases h2 : 12 < (s.size : Int)
  · rw [if_pos h2, decide_eq_false (by omega)]; rfl
  rw [if_neg h2]
  by_cases h3 : s = ⟨#[46]⟩
  · rw [if_pos h3, decide_eq_false (fun h => h.2.2.1 h3)]; rfl
  rw [if_neg h3]
  by_cases h4 : s = ⟨#[46, 46]⟩
  · rw [if_pos h4, decide_eq_false (fun h => h.2.2.2 h4)]; rfl
  rw [if_neg h4, decide_eq_true ⟨by omega, by omega, h3, h4⟩]
  have hp : ∀ x : Int, xid x = some (!letP x) := fun x => by unfold xid; rw [xn1]; rfl
  unfold idxFM ck
  rw [if_pos (fun x => by show (xid _).isSome = true; rw [hp]; rfl)]
  simp only [Option.bind_some, hp, Option.getD_some]
  have key := xxs s s.size 0 (by omega) (by omega)
  unfold Lib.idxFunc
  by_cases ha : (s.data.toList.all fun b => letP b.toNat) = true
  · rw [if_pos (key.2 fun j h _ => List.all_eq_true.1 ha _ (List.getElem_mem h)), ha]; rfl
  · rw [if_neg (fun h => ha (List.all_eq_true.2 fun b hb' => by obtain ⟨j, hj, rfl⟩ := List.getElem_of_mem hb'; exact key.1 h j hj (by omega)))]
    simp only [Bool.not_eq_true] at ha
    rw [ha]; rfl
end Go.Proofs.YtapdjibjnfeipaaGreatDoor.AL

/- Plain laws: the parts of a path. -/
set_option linter.all false
namespace Go.Proofs.YtapdjibjnfeipaaGreatDoor.AL
open Go Go.Proofs
def mkB (l : List UInt8) : ByteArray := ⟨l.toArray⟩
theorem xut (l : List UInt8) : (mkB l).data.toList = l := rfl
theorem x74 (a : List UInt8) : (mkB a).size = a.length := by simp [mkB, ByteArray.size]
def splitL : List UInt8 → List (List UInt8)
  | [] => [[]]
  | b :: l => if b = 47 then [] :: splitL l else match splitL l with
    | [] => [[b]]
    | h :: t => (b :: h) :: t
theorem xar (b : UInt8) (l : List UInt8) : List.isPrefixOf [47] (b :: l) = ((47 : UInt8) == b) := by simp [List.isPrefixOf]
theorem xcp (b : UInt8) (l sub : List UInt8) : Lib.index (b :: l) sub = if sub.isPrefixOf (b :: l) = true then 0 else if (Lib.index l sub == -1) = true then -1 else Lib.index l sub + 1 := rfl
theorem xvt : ∀ l : List UInt8, Lib.splitK [47] 0 (l.count 47) l = splitL l
  | [] => rfl
  | b :: l => by
    have ih := xvt l
    unfold splitL
    by_cases hb : b = 47
    · subst hb
      rw [if_pos rfl, List.count_cons_self]
      unfold Lib.splitK
      have hi : Lib.index (47 :: l) [47] = 0 := by rw [xcp, xar]; rfl
      rw [hi]
      simp only [Int.reduceNeg, Int.reduceBEq, Bool.false_eq_true, if_false]
      rw [← ih]
      rfl
    · rw [if_neg hb, List.count_cons_of_ne hb]
      have hp : List.isPrefixOf [47] (b :: l) = false := by rw [xar]; exact beq_eq_false_iff_ne.2 (fun h => hb h.symm)
      have hg := Lib.index_ge l [47]
      by_cases hm : Lib.index l [47] = -1
      · have hi : Lib.index (b :: l) [47] = -1 := by rw [xcp, hp, hm]; rfl
        have e1 : ∀ k, Lib.splitK [47] 0 k (b :: l) = [b :: l] := by
          intro k
          cases k with
          | zero => rfl
          | succ k => unfold Lib.splitK; rw [hi]; rfl
        have e2 : ∀ k, Lib.splitK [47] 0 k l = [l] := by
          intro k
          cases k with
          | zero => rfl
          | succ k => unfold Lib.splitK; rw [hm]; rfl
        rw [e2] at ih
        rw [e1, ← ih]
      · have hi : Lib.index (b :: l) [47] = Lib.index l [47] + 1 := by
          have : (Lib.index l [47] == -1) = false := beq_eq_false_iff_ne.2 hm
          rw [xcp, hp, this]
          rfl
        have hc := Lib.count_hit (s := l) (sub := [47]) (i := (Lib.index l [47]).toNat) (by simp) (by omega)
        rw [Lib.count_one] at hc
        obtain ⟨k, hk⟩ : ∃ k, l.count 47 = k + 1 := ⟨l.count 47 - 1, by omega⟩
        rw [hk] at ih ⊢
        unfold Lib.splitK at ih ⊢
        have n1 : ¬ (Lib.index l [47] == -1) = true := by simpa using hm
        have n2 : ¬ (Lib.index (b :: l) [47] == -1) = true := by rw [hi]; simp; omega
        rw [if_neg n1] at ih
        rw [if_neg n2, ← ih, hi]
        have e : (Lib.index l [47] + 1).toNat = (Lib.index l [47]).toNat + 1 := by omega
        rw [e]
        simp
def partsP (s : ByteArray) : List ByteArray := (splitL (s.data.toList.drop 1)).map mkB
def absP (s : ByteArray) : Bool := List.isPrefixOf [47] s.data.toList
theorem xn0 {s : ByteArray} (hs : s.size ≤ 2000000) : xog s = some (if absP s = true then (partsP s, true) else ([], false)) := by
  have hb := bsize s
  unfold xog xfe
  simp only [Option.bind_some]
  have hd : (ByteArray.mk #[47]).data.toList = [47] := rfl
  have hh : Lib.hasPrefix s.data.toList [47] = absP s := rfl
  rw [hh]
  by_cases ha : absP s = true
  · rw [ha, if_neg (by simp), if_pos rfl]
    have ht : Lib.trimPrefix s.data.toList [47] = s.data.toList.drop 1 := by unfold Lib.trimPrefix; rw [hh, if_pos ha]; rfl
    rw [ht]
    unfold x7f ck
    have hsz : (⟨(s.data.toList.drop 1).toArray⟩ : ByteArray).size = s.size - 1 := by
      have := x74 (s.data.toList.drop 1)
      rw [List.length_drop, hb] at this
      exact this
    rw [if_pos ⟨by rw [hsz]; omega, by decide⟩]
    simp only [Option.bind_some]
    congr 2
    have h1 := Lib.splitB_data (ByteArray.mk #[47]) 0 (Lib.countB (mkB (s.data.toList.drop 1)) (ByteArray.mk #[47])) (mkB (s.data.toList.drop 1))
    rw [hd, xut] at h1
    have h2 : Lib.countB (mkB (s.data.toList.drop 1)) (ByteArray.mk #[47]) = (s.data.toList.drop 1).count 47 := by
      show Lib.count (mkB (s.data.toList.drop 1)).data.toList (ByteArray.mk #[47]).data.toList = _
      rw [hd, xut, Lib.count_one]
    rw [h2, xvt] at h1
    unfold partsP
    rw [← h1, List.map_map]
    have h3 : (mkB ∘ fun x : ByteArray => x.data.toList) = id := by funext x; rfl
    rw [h3, List.map_id]
    show Lib.splitB _ 0 (Lib.countB (mkB (s.data.toList.drop 1)) _) _ = _
    rw [h2]
    rfl
  · rw [if_neg ha]
    simp only [Bool.not_eq_true] at ha
    rw [ha]
    rfl
end Go.Proofs.YtapdjibjnfeipaaGreatDoor.AL

/- Plain laws: the document's parts, and joins. -/
set_option linter.all false
namespace Go.Proofs.YtapdjibjnfeipaaGreatDoor.AL
open Go Go.Proofs
end Go.Proofs.YtapdjibjnfeipaaGreatDoor.AL

/- Plain laws: paths: split, cleaned, redirects, beginnings. -/
set_option linter.all false
namespace Go.Proofs.YtapdjibjnfeipaaGreatDoor.AL
open Go Go.Proofs
theorem xgu : ∀ l : List UInt8, (splitL l).length ≤ l.length + 1
  | [] => by simp [splitL]
  | b :: l => by
    have ih := xgu l
    unfold splitL
    split
    · simp; omega
    · split
      · simp
      · rename_i h t e
        rw [e] at ih
        simp only [List.length_cons] at ih ⊢
        omega
theorem xfu (s : ByteArray) : (partsP s).length ≤ s.size + 1 := by
  have := xgu (s.data.toList.drop 1)
  have hb := bsize s
  unfold partsP
  simp only [List.length_map, List.length_drop] at this ⊢
  omega
def rootB : ByteArray := ⟨#[47]⟩
def splitP (s : ByteArray) : List ByteArray × Bool := if s = rootB then ([], true) else if absP s = true ∧ (partsP s).all rightP = true then (partsP s, true) else ([], false)
theorem x40 {s : ByteArray} (hs : s.size ≤ 2000000) : xmg s = some (splitP s) := by
  have hl := xfu s
  unfold xmg splitP
  rw [xn0 hs]
  simp only [Option.bind_some]
  by_cases h1 : s = rootB
  · have h1' : s = ByteArray.mk #[47] := h1
    rw [if_pos h1', if_pos h1]
  · have h1' : ¬ s = ByteArray.mk #[47] := h1
    rw [if_neg h1', if_neg h1]
    by_cases ha : absP s = true
    · rw [if_pos ha, if_neg (by simp), xng (f := fun z => !rightP z) _ (fun z _ => by unfold x7e; rw [x1v]; rfl) (by show (partsP s).length < _; omega)]
      simp only [Option.bind_some]
      by_cases hr : (partsP s).all rightP = true
      · have : ¬ ((partsP s).any fun z => !rightP z) = true := by
          rw [List.all_eq_true] at hr
          simp only [List.any_eq_true, not_exists, not_and]
          intro x hx
          simp [hr x hx]
        rw [if_neg this, if_pos ⟨ha, hr⟩]
      · have : ((partsP s).any fun z => !rightP z) = true := by
          simp only [Bool.not_eq_true, List.all_eq_false] at hr
          obtain ⟨x, hx, hn⟩ := hr
          exact List.any_eq_true.2 ⟨x, hx, by simpa using hn⟩
        rw [if_pos this, if_neg (fun h => hr h.2)]
    · rw [if_neg ha, if_pos (by simp), if_neg (fun h => ha h.1)]
def redirP (s : ByteArray) : List ByteArray × Bool × Bool := if 24 < s.size then ([], false, false) else if absP s = true then ((splitP s).1, (splitP s).2, (splitP s).2) else if rightP s = true then ([s], false, true) else ([], false, false)
theorem xiw {s : ByteArray} (hs : s.size ≤ 2000000) : xad s = some (redirP s) := by
  unfold xad redirP xge
  by_cases h1 : 24 < s.size
  · rw [if_pos (by omega), if_pos h1]
  · rw [if_neg (by omega), if_neg h1]
    simp only [Option.bind_some]
    have hh : Lib.hasPrefix s.data.toList (ByteArray.mk #[47]).data.toList = absP s := rfl
    rw [hh]
    by_cases ha : absP s = true
    · rw [if_pos ha, if_pos ha, x40 hs]; rfl
    · rw [if_neg ha, if_neg ha, x1v]
      simp only [Option.bind_some]
      by_cases hr : rightP s = true
      · rw [if_pos hr, if_pos hr]
      · rw [if_neg hr, if_neg hr]
end Go.Proofs.YtapdjibjnfeipaaGreatDoor.AL

