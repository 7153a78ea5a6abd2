/- A law of the given program is proved: part 40 of 49. -/
import Derived.Laws.RangeAny
import Derived.Lib.SplitLaws
import Derived.Lib.Join
import Derived.Test.YtmacnoajlofdbaaDoorA39
set_option linter.all false
/- Models of functions, and that the functions are as their models: written by gen.py. -/
set_option linter.all false
set_option maxRecDepth 100000
namespace Go.Proofs.YtmacnoajlofdbaaDoor.AL
open Go Go.Proofs
def x5c (a0 : List Branch) (a1 : Place) : Option (Node) := if a1.layer < 1 then some (⟨0, 0, 0, 0, [], [], (⟨0, 0, xl, (⟨0, 0, 0⟩ : Origin), 0⟩ : Attr)⟩ : Node)
 else if (a0.length : Int) < a1.layer then some (⟨0, 0, 0, 0, [], [], (⟨0, 0, xl, (⟨0, 0, 0⟩ : Origin), 0⟩ : Attr)⟩ : Node)
 else (ix a0 (wr (a1.layer - 1))).bind fun v5 => if a1.ino < 1 then some (⟨0, 0, 0, 0, [], [], (⟨0, 0, xl, (⟨0, 0, 0⟩ : Origin), 0⟩ : Attr)⟩ : Node)
 else if (v5.nodes.length : Int) < a1.ino then some (⟨0, 0, 0, 0, [], [], (⟨0, 0, xl, (⟨0, 0, 0⟩ : Origin), 0⟩ : Attr)⟩ : Node)
 else (ix v5.nodes (wr (a1.ino - 1))).bind fun v12 => some v12
def xxe := aI (aI (aI (@EV) (aI (@R3) (@R24))) (aI (@R26) (aI (@R47) (@R65)))) (aI (aI (@R142) (aI (@DBranch) (@DOrigin))) (aI (aI (@DAttr) (@DNode)) (aI (@DPlace) (@DEntry))))
set_option maxHeartbeats 2000000 in
theorem xzh (a0 : List Branch) (a1 : Place) (r : Node) (hm0 : x5c a0 a1 = some r) : Ok Tryd.prog 82 [.sl 1 (a0.map xk), xj a1] (xe r) := by
 unfold x5c at hm0
 refine okG x1p ?_
 unfold x4k
 rcases iteE hm0 with ⟨e2, hm0⟩ | ⟨e2, hm0⟩
 · obtain rfl := Option.some.inj hm0
   simp only [e2, xxe, ↓EVd, isCall, sevalprocAttr]
   all_goals first | done | rfl | exact xg (by simp only [CLO]) | exact xgb (by simp only [CLO]) (Sub.agg (Subs.cons (Sub.refl _) (Subs.cons (Sub.refl _) (Subs.cons (Sub.refl _) (Subs.cons (Sub.refl _) (Subs.cons (Sub.nilS _) (Subs.cons (Sub.nilS _) (Subs.cons (Sub.refl _) (Subs.cons (Sub.refl _) (Subs.cons (Sub.refl _) (Subs.cons (Sub.refl _) (Subs.cons (Sub.refl _) (Subs.cons (Sub.refl _) (Subs.cons (Sub.refl _) (Subs.nil)))))))))))))))
 rcases iteE hm0 with ⟨e4, hm0⟩ | ⟨e4, hm0⟩
 · obtain rfl := Option.some.inj hm0
   simp only [e2, e4, xxe, ↓EVd, isCall, sevalprocAttr]
   all_goals first | done | rfl | exact xg (by simp only [CLO]) | exact xgb (by simp only [CLO]) (Sub.agg (Subs.cons (Sub.refl _) (Subs.cons (Sub.refl _) (Subs.cons (Sub.refl _) (Subs.cons (Sub.refl _) (Subs.cons (Sub.nilS _) (Subs.cons (Sub.nilS _) (Subs.cons (Sub.refl _) (Subs.cons (Sub.refl _) (Subs.cons (Sub.refl _) (Subs.cons (Sub.refl _) (Subs.cons (Sub.refl _) (Subs.cons (Sub.refl _) (Subs.cons (Sub.refl _) (Subs.nil)))))))))))))))
 obtain ⟨v5, e7, hm0⟩ := ixE xk hm0
 rcases iteE hm0 with ⟨e9, hm0⟩ | ⟨e9, hm0⟩
 · obtain rfl := Option.some.inj hm0
   simp only [e2, e4, e7, e9, xxe, ↓EVd, isCall, sevalprocAttr]
   all_goals first | done | rfl | exact xg (by simp only [CLO]) | exact xgb (by simp only [CLO]) (Sub.agg (Subs.cons (Sub.refl _) (Subs.cons (Sub.refl _) (Subs.cons (Sub.refl _) (Subs.cons (Sub.refl _) (Subs.cons (Sub.nilS _) (Subs.cons (Sub.nilS _) (Subs.cons (Sub.refl _) (Subs.cons (Sub.refl _) (Subs.cons (Sub.refl _) (Subs.cons (Sub.refl _) (Subs.cons (Sub.refl _) (Subs.cons (Sub.refl _) (Subs.cons (Sub.refl _) (Subs.nil)))))))))))))))
 rcases iteE hm0 with ⟨e11, hm0⟩ | ⟨e11, hm0⟩
 · obtain rfl := Option.some.inj hm0
   simp only [e2, e4, e7, e9, e11, xxe, ↓EVd, isCall, sevalprocAttr]
   all_goals first | done | rfl | exact xg (by simp only [CLO]) | exact xgb (by simp only [CLO]) (Sub.agg (Subs.cons (Sub.refl _) (Subs.cons (Sub.refl _) (Subs.cons (Sub.refl _) (Subs.cons (Sub.refl _) (Subs.cons (Sub.nilS _) (Subs.cons (Sub.nilS _) (Subs.cons (Sub.refl _) (Subs.cons (Sub.refl _) (Subs.cons (Sub.refl _) (Subs.cons (Sub.refl _) (Subs.cons (Sub.refl _) (Subs.cons (Sub.refl _) (Subs.cons (Sub.refl _) (Subs.nil)))))))))))))))
 obtain ⟨v12, e14, hm0⟩ := ixE xe hm0
 obtain rfl := Option.some.inj hm0
 simp only [e2, e4, e7, e9, e11, e14, xxe, ↓EVd, isCall, sevalprocAttr]
 all_goals first | done | rfl | exact xg (by simp only [CLO])
def xqd (a0 : Node) : Option (Bool) := if 0 ≤ a0.attr.has then if (bAnd .i64 a0.attr.has 1) = 0 then some false
 else if a0.attr.opaque0 = 121 then some true
 else some false
 else some false
def xai := aI (aI (aI (@EV) (@R3)) (aI (@R45) (@R47))) (aI (aI (@DOrigin) (@DAttr)) (aI (@DNode) (@DEntry)))
set_option maxHeartbeats 2000000 in
theorem xcm (a0 : Node) (r : Bool) (hm0 : xqd a0 = some r) : Ok Tryd.prog 83 [xe a0] (bool r) := by
 unfold xqd at hm0
 refine okG xau ?_
 unfold xbn
 rcases iteE hm0 with ⟨e2, hm0⟩ | ⟨e2, hm0⟩
 · rcases iteE hm0 with ⟨e4, hm0⟩ | ⟨e4, hm0⟩
   · obtain rfl := Option.some.inj hm0
     simp only [e2, e4, xai, ↓EVd, isCall, sevalprocAttr]
     all_goals first | done | rfl
   rcases iteE hm0 with ⟨e6, hm0⟩ | ⟨e6, hm0⟩
   · obtain rfl := Option.some.inj hm0
     simp only [e2, e4, e6, xai, ↓EVd, isCall, sevalprocAttr]
     all_goals first | done | rfl
   obtain rfl := Option.some.inj hm0
   simp only [e2, e4, e6, xai, ↓EVd, isCall, sevalprocAttr]
   all_goals first | done | rfl
 obtain rfl := Option.some.inj hm0
 simp only [e2, xai, ↓EVd, isCall, sevalprocAttr]
 all_goals first | done | rfl
def xme (a0 : List Branch) (a1 : Place) (a2 : ByteArray) (v1 : Node) : Int → Option (St (Int) ((Unit) ⊕ (Place × Node)))
 | v6 => if v6 < (v1.entries.length : Int) then (ix v1.entries v6).bind fun v10 => (x5c a0 (⟨a1.layer, v10.ino⟩ : Place)).bind fun v14 => if v10.name = a2 then if v14.kind = 0 then some (.nx (wr (v6 + 1)))
 else some (.out (.inr ((⟨a1.layer, v10.ino⟩ : Place), v14)))
 else some (.nx (wr (v6 + 1)))
 else some (.out (.inl ()))
def xie (a0 : List Branch) (a1 : Place) (a2 : ByteArray) : Option (Place × Node) := (x5c a0 a1).bind fun v1 => if v1.kind = 1 then (iter (xme a0 a1 a2 v1) big 0).bind fun o => (match o with
 | (.inl _) => some ((⟨0, 0⟩ : Place), (⟨0, 0, 0, 0, [], [], (⟨0, 0, xl, (⟨0, 0, 0⟩ : Origin), 0⟩ : Attr)⟩ : Node))
 | (.inr r) => some r)
 else some ((⟨0, 0⟩ : Place), (⟨0, 0, 0, 0, [], [], (⟨0, 0, xl, (⟨0, 0, 0⟩ : Origin), 0⟩ : Attr)⟩ : Node))
def xkb := aI (aI (aI (aI (@EV) (@R3)) (aI (@R9) (@R26))) (aI (aI (@R41) (@R47)) (aI (@R65) (@R74)))) (aI (aI (aI (@R142) (@DBranch)) (aI (@DOrigin) (@DAttr))) (aI (aI (@DNode) (@DPlace)) (aI (@DEntry) (@mixed))))
set_option maxHeartbeats 2000000 in
theorem xip (a0 : List Branch) (a1 : Place) (a2 : ByteArray) (r : Place × Node) (hm0 : xie a0 a1 a2 = some r) : Ok Tryd.prog 88 [.sl 1 (a0.map xk), xj a1, str a2] (.tup [xj r.1, xe r.2]) := by
 unfold xie at hm0
 refine okG xgp ?_
 unfold xpk
 obtain ⟨v1, h2, hm0⟩ := bsE hm0
 simp only [xkb, ↓EVd, isCall, sevalprocAttr]
 refine qc (xzh _ _ _ h2) rfl ?_
 rcases iteE hm0 with ⟨e4, hm0⟩ | ⟨e4, hm0⟩
 · obtain ⟨o0, ho0, hm0⟩ := bsE hm0
   simp only [e4, xkb, ↓EVd, isCall, sevalprocAttr]
   refine cwp_cx 0 (fun s => (s.T 6 = .loc 1 2 0 0 ∧ s.T 7 = .loc 2 13 0 0 ∧ s.H 1 = some (.row 65 2 [.agg [int 0, int 0]]) ∧ s.H 2 = some (.row 47 13 [.agg [int 0, int 0, int 0, int 0, nilS, nilS, int 0, int 0, str xl, int 0, int 0, int 0, int 0]]) ∧ Lq 1 s.nx ∧ Lq 2 s.nx) ∧ (.inl ()) = o0) ?_ fun J0_0 hJ0_0 => ?_
   · rintro T0 H0 x7 ⟨kk0_0, rfl⟩
     dsimp only [Lq, Nq] at kk0_0
     try dsimp only at hm0
     have e20 : (.agg [int 0, int 0] : AV) = xj (⟨0, 0⟩ : Place) := _root_.id rfl
     obtain rfl := Option.some.inj hm0
     simp only [kk0_0, e4, e20, xkb, ↓EVd, isCall, sevalprocAttr]
     all_goals first | done | rfl | exact xg (by simp only [CLO]) | exact xgb (by simp only [CLO]) (Sub.tup (Subs.cons (Sub.refl _) (Subs.cons (Sub.agg (Subs.cons (Sub.refl _) (Subs.cons (Sub.refl _) (Subs.cons (Sub.refl _) (Subs.cons (Sub.refl _) (Subs.cons (Sub.nilS _) (Subs.cons (Sub.nilS _) (Subs.cons (Sub.refl _) (Subs.cons (Sub.refl _) (Subs.cons (Sub.refl _) (Subs.cons (Sub.refl _) (Subs.cons (Sub.refl _) (Subs.cons (Sub.refl _) (Subs.cons (Sub.refl _) (Subs.nil))))))))))))))) (Subs.nil))))
   refine cwp_lp ho0 (fun v6 s => s.T 0 = .sl 1 (a0.map xk) ∧ s.T 2 = str a2 ∧ s.T 4 = .loc 0 2 0 0 ∧ s.T 6 = .loc 1 2 0 0 ∧ s.T 7 = .loc 2 13 0 0 ∧ s.T 22 = .sl 3 (v1.entries.map xp) ∧ s.T 23 = int (v1.entries.length : Int) ∧ s.T 24 = int v6 ∧ s.H 0 = some (.row 65 2 [xj a1]) ∧ s.H 1 = some (.row 65 2 [.agg [int 0, int 0]]) ∧ s.H 2 = some (.row 47 13 [.agg [int 0, int 0, int 0, int 0, nilS, nilS, int 0, int 0, str xl, int 0, int 0, int 0, int 0]]) ∧ Lq 0 s.nx ∧ Lq 1 s.nx ∧ Lq 2 s.nx) ?_ ?_
   · refine TI.here ⟨?_, ?_, ?_, ?_, ?_, ?_, ?_, ?_, ?_, ?_, ?_, ?_, ?_, ?_⟩
     all_goals try simp only [e4, xkb, ↓EVd, isCall, sevalprocAttr]
     all_goals first | omega | exact lq (by omega) | exact nq (by omega) | rfl | (congr 1; omega)
   rintro I0 v6 T0 H0 x5 st0 kk0 hm1 hI0 hO0
   dsimp only [Lq, Nq] at kk0
   simp only [xme] at hm1
   rcases iteE hm1 with ⟨e9, hm1⟩ | ⟨e9, hm1⟩
   · obtain ⟨v10, e12, hm1⟩ := ixE xp hm1
     have e13 : (.agg [int a1.layer, int v10.ino] : AV) = xj (⟨a1.layer, v10.ino⟩ : Place) := _root_.id rfl
     obtain ⟨v14, h15, hm1⟩ := bsE hm1
     simp only [kk0, e4, e9, e12, e13, xkb, ↓EVd, isCall, sevalprocAttr]
     refine qc (xzh _ _ _ h15) rfl ?_
     rcases iteE hm1 with ⟨e17, hm1⟩ | ⟨e17, hm1⟩
     · rcases iteE hm1 with ⟨e19, hm1⟩ | ⟨e19, hm1⟩
       · obtain rfl := Option.some.inj hm1
         simp only [kk0, e4, e9, e12, e13, e17, e19, xkb, ↓EVd, isCall, sevalprocAttr]
         refine TI.here (hI0 _ rfl _ ⟨?_, ?_, ?_, ?_, ?_, ?_, ?_, ?_, ?_, ?_, ?_, ?_, ?_, ?_⟩)
         all_goals try simp only [kk0, e4, e9, e12, e13, e17, e19, xkb, ↓EVd, isCall, sevalprocAttr]
         all_goals first | omega | exact lq (by omega) | exact nq (by omega) | rfl | (congr 1; omega)
       simp only [kk0, e4, e9, e12, e13, e17, e19, xkb, ↓EVd, isCall, sevalprocAttr]
       refine fineI [([(x5 + 10)], []), ([(x5 + 15)], []), ([], [1]), ([], [2])] rfl (by simp only [MT, sevalprocAttr]; first | done | omega) ?_
       obtain rfl := Option.some.inj hm1
       obtain rfl := hO0 _ rfl
       try dsimp only at hm0
       obtain rfl := Option.some.inj hm0
       simp only [kk0, e4, e9, e12, e13, e17, e19, xkb, ↓EVd, isCall, sevalprocAttr]
       all_goals first | done | rfl | exact xg (by simp only [CLO]) | exact xgb (by simp only [CLO]) (Sub.tup (Subs.cons (Sub.refl _) (Subs.cons (Sub.refl _) (Subs.nil))))
     obtain rfl := Option.some.inj hm1
     simp only [kk0, e4, e9, e12, e13, e17, xkb, ↓EVd, isCall, sevalprocAttr]
     refine TI.here (hI0 _ rfl _ ⟨?_, ?_, ?_, ?_, ?_, ?_, ?_, ?_, ?_, ?_, ?_, ?_, ?_, ?_⟩)
     all_goals try simp only [kk0, e4, e9, e12, e13, e17, xkb, ↓EVd, isCall, sevalprocAttr]
     all_goals first | omega | exact lq (by omega) | exact nq (by omega) | rfl | (congr 1; omega)
   obtain rfl := Option.some.inj hm1
   simp only [kk0, e4, e9, xkb, ↓EVd, isCall, sevalprocAttr]
   refine TI.here (hJ0_0 _ ⟨⟨?_, ?_, ?_, ?_, ?_, ?_⟩, hO0 _ rfl⟩)
   all_goals try simp only [kk0, e4, e9, xkb, ↓EVd, isCall, sevalprocAttr]
   all_goals first | omega | exact lq (by omega) | exact nq (by omega) | rfl | (congr 1; omega)
 have e21 : (.agg [int 0, int 0] : AV) = xj (⟨0, 0⟩ : Place) := _root_.id rfl
 obtain rfl := Option.some.inj hm0
 simp only [e4, e21, xkb, ↓EVd, isCall, sevalprocAttr]
 all_goals first | done | rfl | exact xg (by simp only [CLO]) | exact xgb (by simp only [CLO]) (Sub.tup (Subs.cons (Sub.refl _) (Subs.cons (Sub.agg (Subs.cons (Sub.refl _) (Subs.cons (Sub.refl _) (Subs.cons (Sub.refl _) (Subs.cons (Sub.refl _) (Subs.cons (Sub.nilS _) (Subs.cons (Sub.nilS _) (Subs.cons (Sub.refl _) (Subs.cons (Sub.refl _) (Subs.cons (Sub.refl _) (Subs.cons (Sub.refl _) (Subs.cons (Sub.refl _) (Subs.cons (Sub.refl _) (Subs.cons (Sub.refl _) (Subs.nil))))))))))))))) (Subs.nil))))
def xne (a0 : Stack) (a1 : List Place) (a2 : ByteArray) : (List Place × Int) → Option (St (List Place × Int) ((List Place) ⊕ ((List Place) ⊕ (Int × List Place))))
 | (v3, v4) => if v4 < (a1.length : Int) then (ix a1 v4).bind fun v13 => (xie a0.lowers v13 a2).bind fun v16 => if v16.2.kind = 0 then some (.nx (v3, (wr (v4 + 1))))
 else if v16.2.kind = 1 then (ap 16 v3 ([v16.1] : List Place)).bind fun _ => (xqd v16.2).bind fun v26 => if (!v26) = true then some (.nx ((v3 ++ ([v16.1] : List Place)), (wr (v4 + 1))))
 else some (.out (.inr (.inl (v3 ++ ([v16.1] : List Place)))))
 else if v16.2.kind = 2 then if (v3.length : Int) = 0 then some (.out (.inr (.inr (v16.2.kind, ([v16.1] : List Place)))))
 else some (.out (.inr (.inl v3)))
 else if v16.2.kind = 3 then if (v3.length : Int) = 0 then some (.out (.inr (.inr (v16.2.kind, ([v16.1] : List Place)))))
 else some (.out (.inr (.inl v3)))
 else some (.out (.inr (.inl v3)))
 else some (.out (.inl v3))
def xhg (a0 : Stack) (a1 : List Place) (a2 : ByteArray) : Option (Int × List Place) := (iter (xne a0 a1 a2) big ([], 0)).bind fun o => (match o with
 | (.inl v7) => if (v7.length : Int) = 0 then some (0, [])
 else some (1, v7)
 | (.inr (.inl v10)) => if (v10.length : Int) = 0 then some (0, [])
 else some (1, v10)
 | (.inr (.inr r)) => some r)
def xu := aI (aI (aI (aI (@EV) (@R3)) (aI (@R9) (@R26))) (aI (aI (@R27) (@R29)) (aI (@R47) (aI (@R63) (@R65))))) (aI (aI (aI (@R142) (@DBranch)) (aI (@DStack) (@DOrigin))) (aI (aI (@DAttr) (@DNode)) (aI (@DPlace) (aI (@DEntry) (@mixed)))))
set_option maxHeartbeats 2000000 in
theorem xap (a0 : Stack) (a1 : List Place) (a2 : ByteArray) (r : Int × List Place) (hm0 : xhg a0 a1 a2 = some r) : Ok Tryd.prog 84 [xx a0, .sl 2 (a1.map xj), str a2] (.tup [int r.1, .sl 2 (r.2.map xj)]) := by
 unfold xhg at hm0
 refine okG xjy ?_
 unfold x1q
 simp only [xu, ↓EVd, isCall, sevalprocAttr]
 refine x6bb 0 rfl ?_
 intro F0 hF0
 obtain ⟨o1, ho1, hm0⟩ := bsE hm0
 simp only [xu, ↓EVd, isCall, sevalprocAttr]
 refine cwp_cx 0 (fun s => ∃ v7 : List Place, ∃ l6 : Nat, (s.T 9 = .msl l6 v7.length ∧ s.H l6 = some (.row 65 2 (v7.map xj)) ∧ Lq l6 s.nx) ∧ (.inl v7) = o1) ?_ fun J1_0 hJ1_0 => ?_
 · rintro T1 H1 x5 ⟨v7, l6, kk1_0, rfl⟩
   dsimp only [Lq, Nq] at kk1_0
   try dsimp only at hm0
   rcases iteE hm0 with ⟨e39, hm0⟩ | ⟨e39, hm0⟩
   · obtain rfl := Option.some.inj hm0
     simp only [kk1_0, e39, xu, ↓EVd, isCall, sevalprocAttr]
     all_goals first | done | rfl | exact xg (by simp only [CLO]) | exact xgb (by simp only [CLO]) (Sub.tup (Subs.cons (Sub.refl _) (Subs.cons (Sub.nilS _) (Subs.nil))))
   obtain rfl := Option.some.inj hm0
   simp only [kk1_0, e39, xu, ↓EVd, isCall, sevalprocAttr]
   all_goals first | done | rfl | exact xik 9 (by simp only [kk1_0, e39, FZ, CLO, xu, ↓EVd, isCall, sevalprocAttr]) (Sub.tup (Subs.cons (Sub.refl _) (Subs.cons (Sub.refl _) (Subs.nil))))
 refine cwp_cg 0 (fun s => ∃ v10 : List Place, ∃ l9 : Nat, (s.T 9 = .msl l9 v10.length ∧ s.H l9 = some (.row 65 2 (v10.map xj)) ∧ Lq l9 s.nx) ∧ (.inr (.inl v10)) = o1) ?_ fun J1_1 hJ1_1 => ?_
 · rintro T1 H1 x8 ⟨v10, l9, kk1_1, rfl⟩
   dsimp only [Lq, Nq] at kk1_1
   try dsimp only at hm0
   simp only [kk1_1, xu, ↓EVd, isCall, sevalprocAttr]
   refine hF0 _ ?_
   rcases iteE hm0 with ⟨e41, hm0⟩ | ⟨e41, hm0⟩
   · obtain rfl := Option.some.inj hm0
     simp only [kk1_1, e41, xu, ↓EVd, isCall, sevalprocAttr]
     all_goals first | done | rfl | exact xg (by simp only [CLO]) | exact xgb (by simp only [CLO]) (Sub.tup (Subs.cons (Sub.refl _) (Subs.cons (Sub.nilS _) (Subs.nil))))
   obtain rfl := Option.some.inj hm0
   simp only [kk1_1, e41, xu, ↓EVd, isCall, sevalprocAttr]
   all_goals first | done | rfl | exact xik 9 (by simp only [kk1_1, e41, FZ, CLO, xu, ↓EVd, isCall, sevalprocAttr]) (Sub.tup (Subs.cons (Sub.refl _) (Subs.cons (Sub.refl _) (Subs.nil))))
 refine cwp_lp ho1 (fun (v3, v4) s => ∃ l2 : Nat, s.T 2 = str a2 ∧ s.T 8 = .sl 1 (a0.lowers.map xk) ∧ s.T 9 = .msl l2 v3.length ∧ s.T 16 = .sl 2 (a1.map xj) ∧ s.T 17 = int (a1.length : Int) ∧ s.T 18 = int v4 ∧ s.H l2 = some (.row 65 2 (v3.map xj)) ∧ Lq l2 s.nx) ?_ ?_
 · refine TI.by (Tn.adopt 9 65 2 (by simp only [xu, ↓EVd, isCall, sevalprocAttr])) ?_
   refine TI.here ⟨10, ?_, ?_, ?_, ?_, ?_, ?_, ?_, ?_⟩
   all_goals try simp only [xu, ↓EVd, isCall, sevalprocAttr]
   all_goals first | omega | exact lq (by omega) | exact nq (by omega) | rfl | (congr 1; omega)
 rintro I1 ⟨v3, v4⟩ T1 H1 x1 st1 ⟨l2, kk1⟩ hm1 hI1 hO1
 dsimp only [Lq, Nq] at kk1
 simp only [xne] at hm1
 rcases iteE hm1 with ⟨e12, hm1⟩ | ⟨e12, hm1⟩
 · obtain ⟨v13, e15, hm1⟩ := ixE xj hm1
   obtain ⟨v16, h17, hm1⟩ := bsE hm1
   simp only [kk1, e12, e15, xu, ↓EVd, isCall, sevalprocAttr]
   refine qc (xip _ _ _ _ h17) rfl ?_
   rcases iteE hm1 with ⟨e19, hm1⟩ | ⟨e19, hm1⟩
   · obtain rfl := Option.some.inj hm1
     simp only [kk1, e12, e15, e19, xu, ↓EVd, isCall, sevalprocAttr]
     refine TI.here (hI1 _ rfl _ ⟨l2, ?_, ?_, ?_, ?_, ?_, ?_, ?_, ?_⟩)
     all_goals try simp only [kk1, e12, e15, e19, xu, ↓EVd, isCall, sevalprocAttr]
     all_goals first | omega | exact lq (by omega) | exact nq (by omega) | rfl | (congr 1; omega)
   rcases iteE hm1 with ⟨e21, hm1⟩ | ⟨e21, hm1⟩
   · obtain ⟨e24, hm1⟩ := apE hm1
     try simp only [ZL] at e24
     obtain ⟨v26, h27, hm1⟩ := bsE hm1
     simp only [kk1, e12, e15, e19, e21, e24, xu, ↓EVd, isCall, sevalprocAttr]
     refine qc (xcm _ _ h27) rfl ?_
     rcases itbE hm1 with ⟨e29, hm1⟩ | ⟨e29, hm1⟩
     · obtain rfl := Option.some.inj hm1
       simp only [kk1, e12, e15, e19, e21, e24, e29, xu, ↓EVd, isCall, sevalprocAttr]
       refine TI.here (hI1 _ rfl _ ⟨(x1 + 25), ?_, ?_, ?_, ?_, ?_, ?_, ?_, ?_⟩)
       all_goals try simp only [kk1, e12, e15, e19, e21, e24, e29, xu, ↓EVd, isCall, sevalprocAttr]
       all_goals first | omega | exact lq (by omega) | exact nq (by omega) | rfl | (congr 1; omega)
     obtain rfl := Option.some.inj hm1
     simp only [kk1, e12, e15, e19, e21, e24, e29, xu, ↓EVd, isCall, sevalprocAttr]
     refine TI.here (hJ1_1 _ ⟨(v3 ++ ([v16.1] : List Place)), (x1 + 25), ⟨?_, ?_, ?_⟩, hO1 _ rfl⟩)
     all_goals try simp only [kk1, e12, e15, e19, e21, e24, e29, xu, ↓EVd, isCall, sevalprocAttr]
     all_goals first | omega | exact lq (by omega) | exact nq (by omega) | rfl | (congr 1; omega)
   rcases iteE hm1 with ⟨e31, hm1⟩ | ⟨e31, hm1⟩
   · rcases iteE hm1 with ⟨e33, hm1⟩ | ⟨e33, hm1⟩
     · obtain rfl := Option.some.inj hm1
       obtain rfl := hO1 _ rfl
       try dsimp only at hm0
       obtain rfl := Option.some.inj hm0
       simp only [kk1, e12, e15, e19, e21, e31, e33, xu, ↓EVd, isCall, sevalprocAttr]
       all_goals first | done | rfl | exact xik 9 (by simp only [kk1, e12, e15, e19, e21, e31, e33, FZ, CLO, xu, ↓EVd, isCall, sevalprocAttr]) (Sub.tup (Subs.cons (Sub.refl _) (Subs.cons (Sub.refl _) (Subs.nil))))
     obtain rfl := Option.some.inj hm1
     simp only [kk1, e12, e15, e19, e21, e31, e33, xu, ↓EVd, isCall, sevalprocAttr]
     refine TI.here (hJ1_1 _ ⟨v3, l2, ⟨?_, ?_, ?_⟩, hO1 _ rfl⟩)
     all_goals try simp only [kk1, e12, e15, e19, e21, e31, e33, xu, ↓EVd, isCall, sevalprocAttr]
     all_goals first | omega | exact lq (by omega) | exact nq (by omega) | rfl | (congr 1; omega)
   rcases iteE hm1 with ⟨e35, hm1⟩ | ⟨e35, hm1⟩
   · rcases iteE hm1 with ⟨e37, hm1⟩ | ⟨e37, hm1⟩
     · obtain rfl := Option.some.inj hm1
       obtain rfl := hO1 _ rfl
       try dsimp only at hm0
       obtain rfl := Option.some.inj hm0
       simp only [kk1, e12, e15, e19, e21, e31, e35, e37, xu, ↓EVd, isCall, sevalprocAttr]
       all_goals first | done | rfl | exact xik 9 (by simp only [kk1, e12, e15, e19, e21, e31, e35, e37, FZ, CLO, xu, ↓EVd, isCall, sevalprocAttr]) (Sub.tup (Subs.cons (Sub.refl _) (Subs.cons (Sub.refl _) (Subs.nil))))
     obtain rfl := Option.some.inj hm1
     simp only [kk1, e12, e15, e19, e21, e31, e35, e37, xu, ↓EVd, isCall, sevalprocAttr]
     refine TI.here (hJ1_1 _ ⟨v3, l2, ⟨?_, ?_, ?_⟩, hO1 _ rfl⟩)
     all_goals try simp only [kk1, e12, e15, e19, e21, e31, e35, e37, xu, ↓EVd, isCall, sevalprocAttr]
     all_goals first | omega | exact lq (by omega) | exact nq (by omega) | rfl | (congr 1; omega)
   obtain rfl := Option.some.inj hm1
   simp only [kk1, e12, e15, e19, e21, e31, e35, xu, ↓EVd, isCall, sevalprocAttr]
   refine TI.here (hJ1_1 _ ⟨v3, l2, ⟨?_, ?_, ?_⟩, hO1 _ rfl⟩)
   all_goals try simp only [kk1, e12, e15, e19, e21, e31, e35, xu, ↓EVd, isCall, sevalprocAttr]
   all_goals first | omega | exact lq (by omega) | exact nq (by omega) | rfl | (congr 1; omega)
 obtain rfl := Option.some.inj hm1
 simp only [kk1, e12, xu, ↓EVd, isCall, sevalprocAttr]
 refine TI.here (hJ1_0 _ ⟨v3, l2, ⟨?_, ?_, ?_⟩, hO1 _ rfl⟩)
 all_goals try simp only [kk1, e12, xu, ↓EVd, isCall, sevalprocAttr]
 all_goals first | omega | exact lq (by omega) | exact nq (by omega) | rfl | (congr 1; omega)
def xqe (a0 : Stack) (a2 : List ByteArray) : (List Place × Int) → Option (St (List Place × Int) ((List Place) ⊕ (List Place × Bool)))
 | (v4, v5) => if v5 < (a2.length : Int) then (ix a2 v5).bind fun v10 => (xhg a0 v4 v10).bind fun v13 => if v13.1 = 1 then some (.nx (v13.2, (wr (v5 + 1))))
 else some (.out (.inr ([], false)))
 else some (.out (.inl v4))
def xvh (a0 : Stack) (a1 : List Place) (a2 : List ByteArray) : Option (List Place × Bool) := (cloneM 16 a1).bind fun v1 => (iter (xqe a0 a2) big (v1, 0)).bind fun o => (match o with
 | (.inl v7) => some (v7, true)
 | (.inr r) => some r)
def xbd := aI (aI (aI (@EV) (aI (@R3) (@R9))) (aI (aI (@R29) (@R61)) (aI (@R63) (@R65)))) (aI (aI (@DBranch) (aI (@DStack) (@DOrigin))) (aI (aI (@DAttr) (@DNode)) (aI (@DPlace) (@DEntry))))
set_option maxHeartbeats 2000000 in
theorem xby (a0 : Stack) (a1 : List Place) (a2 : List ByteArray) (r : List Place × Bool) (hm0 : xvh a0 a1 a2 = some r) : Ok Tryd.prog 74 [xx a0, .sl 2 (a1.map xj), .sl 1 (a2.map str)] (.tup [.sl 2 (r.1.map xj), bool r.2]) := by
 unfold xvh at hm0
 refine okG xuy ?_
 unfold xhq
 obtain ⟨v1, h2, hm0⟩ := bsE hm0
 simp only [xbd, ↓EVd, isCall, sevalprocAttr]
 refine qc (xj5 xhi x8h xkj x4s x7r rfl (by decide) xj _ _ h2 (fun z => by simp only [CLO])) rfl ?_
 obtain ⟨o0, ho0, hm0⟩ := bsE hm0
 simp only [xbd, ↓EVd, isCall, sevalprocAttr]
 refine cwp_cx 0 (fun s => ∃ v7 : List Place, (s.T 8 = .sl 2 (v7.map xj)) ∧ (.inl v7) = o0) ?_ fun J0_0 hJ0_0 => ?_
 · rintro T0 H0 x6 ⟨v7, kk0_0, rfl⟩
   dsimp only [Lq, Nq] at kk0_0
   try dsimp only at hm0
   obtain rfl := Option.some.inj hm0
   simp only [kk0_0, xbd, ↓EVd, isCall, sevalprocAttr]
   all_goals first | done | rfl | exact xg (by simp only [CLO]) | exact xgb (by simp only [CLO]) (Sub.tup (Subs.cons (Sub.refl _) (Subs.cons (Sub.refl _) (Subs.nil))))
 refine cwp_lp ho0 (fun (v4, v5) s => s.T 3 = .loc 0 6 0 0 ∧ s.T 8 = .sl 2 (v4.map xj) ∧ s.T 15 = .sl 1 (a2.map str) ∧ s.T 16 = int (a2.length : Int) ∧ s.T 17 = int v5 ∧ s.H 0 = some (.row 29 6 [xx a0]) ∧ Lq 0 s.nx) ?_ ?_
 · refine TI.here ⟨?_, ?_, ?_, ?_, ?_, ?_, ?_⟩
   all_goals try simp only [xbd, ↓EVd, isCall, sevalprocAttr]
   all_goals first | omega | exact lq (by omega) | exact nq (by omega) | rfl | (congr 1; omega)
 rintro I0 ⟨v4, v5⟩ T0 H0 x3 st0 kk0 hm1 hI0 hO0
 dsimp only [Lq, Nq] at kk0
 simp only [xqe] at hm1
 rcases iteE hm1 with ⟨e9, hm1⟩ | ⟨e9, hm1⟩
 · obtain ⟨v10, e12, hm1⟩ := ixE str hm1
   obtain ⟨v13, h14, hm1⟩ := bsE hm1
   simp only [kk0, e9, e12, xbd, ↓EVd, isCall, sevalprocAttr]
   refine qc (xap _ _ _ _ h14) rfl ?_
   rcases iteE hm1 with ⟨e16, hm1⟩ | ⟨e16, hm1⟩
   · obtain rfl := Option.some.inj hm1
     simp only [kk0, e9, e12, e16, xbd, ↓EVd, isCall, sevalprocAttr]
     refine TI.here (hI0 _ rfl _ ⟨?_, ?_, ?_, ?_, ?_, ?_, ?_⟩)
     all_goals try simp only [kk0, e9, e12, e16, xbd, ↓EVd, isCall, sevalprocAttr]
     all_goals first | omega | exact lq (by omega) | exact nq (by omega) | rfl | (congr 1; omega)
   obtain rfl := Option.some.inj hm1
   obtain rfl := hO0 _ rfl
   try dsimp only at hm0
   obtain rfl := Option.some.inj hm0
   simp only [kk0, e9, e12, e16, xbd, ↓EVd, isCall, sevalprocAttr]
   all_goals first | done | rfl | exact xg (by simp only [CLO]) | exact xgb (by simp only [CLO]) (Sub.tup (Subs.cons (Sub.nilS _) (Subs.cons (Sub.refl _) (Subs.nil))))
 obtain rfl := Option.some.inj hm1
 simp only [kk0, e9, xbd, ↓EVd, isCall, sevalprocAttr]
 refine TI.here (hJ0_0 _ ⟨v4, ?_, hO0 _ rfl⟩)
 all_goals try simp only [kk0, e9, xbd, ↓EVd, isCall, sevalprocAttr]
 all_goals first | omega | exact lq (by omega) | exact nq (by omega) | rfl | (congr 1; omega)
def x4d (a0 : Stack) : (List Place × Int) → Option (St (List Place × Int) (List Place))
 | (v3, v4) => if v4 < (a0.lowers.length : Int) then (x5c a0.lowers (⟨(wr (v4 + 1)), 1⟩ : Place)).bind fun v11 => if v11.kind = 1 then (ap 16 v3 ([(⟨(wr (v4 + 1)), 1⟩ : Place)] : List Place)).bind fun _ => (xqd v11).bind fun v19 => if v19 = true then some (.out (v3 ++ ([(⟨(wr (v4 + 1)), 1⟩ : Place)] : List Place)))
 else some (.nx ((v3 ++ ([(⟨(wr (v4 + 1)), 1⟩ : Place)] : List Place)), (wr (v4 + 1))))
 else some (.nx (v3, (wr (v4 + 1))))
 else some (.out v3)
def xte (a0 : Stack) : Option (List Place) := (iter (x4d a0) big ([], 0)).bind fun o => (match o with
 | v7 => some v7)
def x0b := aI (aI (aI (aI (@EV) (@R3)) (aI (@R26) (@R27))) (aI (aI (@R29) (@R47)) (aI (@R63) (@R65)))) (aI (aI (aI (@R142) (@DBranch)) (aI (@DStack) (@DOrigin))) (aI (aI (@DAttr) (@DNode)) (aI (@DPlace) (@DEntry))))
set_option maxHeartbeats 2000000 in
theorem xgk (a0 : Stack) (r : List Place) (hm0 : xte a0 = some r) : Ok Tryd.prog 72 [xx a0] (.sl 2 (r.map xj)) := by
 unfold xte at hm0
 refine okG xfw ?_
 unfold xep
 obtain ⟨o0, ho0, hm0⟩ := bsE hm0
 simp only [x0b, ↓EVd, isCall, sevalprocAttr]
 refine cwp_cx 0 (fun s => ∃ v7 : List Place, ∃ l6 : Nat, (s.T 4 = .msl l6 v7.length ∧ s.H l6 = some (.row 65 2 (v7.map xj)) ∧ Lq l6 s.nx) ∧ v7 = o0) ?_ fun J0_0 hJ0_0 => ?_
 · rintro T0 H0 x5 ⟨v7, l6, kk0_0, rfl⟩
   dsimp only [Lq, Nq] at kk0_0
   try dsimp only at hm0
   obtain rfl := Option.some.inj hm0
   simp only [kk0_0, x0b, ↓EVd, isCall, sevalprocAttr]
   all_goals first | done | rfl | exact frzR_e (by simp only [kk0_0, FZ, CLO, x0b, ↓EVd, isCall, sevalprocAttr])
 refine cwp_lp ho0 (fun (v3, v4) s => ∃ l2 : Nat, s.T 3 = .sl 1 (a0.lowers.map xk) ∧ s.T 4 = .msl l2 v3.length ∧ s.T 11 = int (a0.lowers.length : Int) ∧ s.T 12 = int v4 ∧ s.H l2 = some (.row 65 2 (v3.map xj)) ∧ Lq l2 s.nx) ?_ ?_
 · refine TI.by (Tn.adopt 4 65 2 (by simp only [x0b, ↓EVd, isCall, sevalprocAttr])) ?_
   refine TI.here ⟨9, ?_, ?_, ?_, ?_, ?_, ?_⟩
   all_goals try simp only [x0b, ↓EVd, isCall, sevalprocAttr]
   all_goals first | omega | exact lq (by omega) | exact nq (by omega) | rfl | (congr 1; omega)
 rintro I0 ⟨v3, v4⟩ T0 H0 x1 st0 ⟨l2, kk0⟩ hm1 hI0 hO0
 dsimp only [Lq, Nq] at kk0
 simp only [x4d] at hm1
 rcases iteE hm1 with ⟨e9, hm1⟩ | ⟨e9, hm1⟩
 · have e10 : (.agg [int (wr (v4 + 1)), int 1] : AV) = xj (⟨(wr (v4 + 1)), 1⟩ : Place) := _root_.id rfl
   obtain ⟨v11, h12, hm1⟩ := bsE hm1
   simp only [kk0, e9, e10, x0b, ↓EVd, isCall, sevalprocAttr]
   refine qc (xzh _ _ _ h12) rfl ?_
   rcases iteE hm1 with ⟨e14, hm1⟩ | ⟨e14, hm1⟩
   · obtain ⟨e17, hm1⟩ := apE hm1
     try simp only [ZL] at e17
     obtain ⟨v19, h20, hm1⟩ := bsE hm1
     simp only [kk0, e9, e10, e14, e17, x0b, ↓EVd, isCall, sevalprocAttr]
     refine qc (xcm _ _ h20) rfl ?_
     rcases itbE hm1 with ⟨e22, hm1⟩ | ⟨e22, hm1⟩
     · obtain rfl := Option.some.inj hm1
       simp only [kk0, e9, e10, e14, e17, e22, x0b, ↓EVd, isCall, sevalprocAttr]
       refine TI.here (hJ0_0 _ ⟨(v3 ++ ([(⟨(wr (v4 + 1)), 1⟩ : Place)] : List Place)), (x1 + 19), ⟨?_, ?_, ?_⟩, hO0 _ rfl⟩)
       all_goals try simp only [kk0, e9, e10, e14, e17, e22, x0b, ↓EVd, isCall, sevalprocAttr]
       all_goals first | omega | exact lq (by omega) | exact nq (by omega) | rfl | (congr 1; omega)
     obtain rfl := Option.some.inj hm1
     simp only [kk0, e9, e10, e14, e17, e22, x0b, ↓EVd, isCall, sevalprocAttr]
     refine TI.here (hI0 _ rfl _ ⟨(x1 + 19), ?_, ?_, ?_, ?_, ?_, ?_⟩)
     all_goals try simp only [kk0, e9, e10, e14, e17, e22, x0b, ↓EVd, isCall, sevalprocAttr]
     all_goals first | omega | exact lq (by omega) | exact nq (by omega) | rfl | (congr 1; omega)
   obtain rfl := Option.some.inj hm1
   simp only [kk0, e9, e10, e14, x0b, ↓EVd, isCall, sevalprocAttr]
   refine TI.here (hI0 _ rfl _ ⟨l2, ?_, ?_, ?_, ?_, ?_, ?_⟩)
   all_goals try simp only [kk0, e9, e10, e14, x0b, ↓EVd, isCall, sevalprocAttr]
   all_goals first | omega | exact lq (by omega) | exact nq (by omega) | rfl | (congr 1; omega)
 obtain rfl := Option.some.inj hm1
 simp only [kk0, e9, x0b, ↓EVd, isCall, sevalprocAttr]
 refine TI.here (hJ0_0 _ ⟨v3, l2, ⟨?_, ?_, ?_⟩, hO0 _ rfl⟩)
 all_goals try simp only [kk0, e9, x0b, ↓EVd, isCall, sevalprocAttr]
 all_goals first | omega | exact lq (by omega) | exact nq (by omega) | rfl | (congr 1; omega)
def xdc (a0 : List Place) (a1 : List Place) : Int → Option (St (Int) ((Unit) ⊕ (Bool)))
 | v4 => if v4 < (a0.length : Int) then (ix a0 v4).bind fun v8 => (ix a1 v4).bind fun v11 => if (decide (v8 = v11)) = true then some (.nx (wr (v4 + 1)))
 else some (.out (.inr false))
 else some (.out (.inl ()))
def x2b (a0 : List Place) (a1 : List Place) : Option (Bool) := if (a0.length : Int) = (a1.length : Int) then (iter (xdc a0 a1) big 0).bind fun o => (match o with
 | (.inl _) => some true
 | (.inr r) => some r)
 else some false
def xeb := aI (aI (@EV) (aI (@R3) (@R63))) (aI (aI (@R65) (@DPlace)) (aI (@eq65) (@mixed)))
set_option maxHeartbeats 2000000 in
theorem x4h (a0 : List Place) (a1 : List Place) (r : Bool) (hm0 : x2b a0 a1 = some r) : Ok Tryd.prog 20 [.sl 2 (a0.map xj), .sl 2 (a1.map xj)] (bool r) := by
 unfold x2b at hm0
 refine okG x9h ?_
 unfold xue
 rcases iteE hm0 with ⟨e2, hm0⟩ | ⟨e2, hm0⟩
 · obtain ⟨o0, ho0, hm0⟩ := bsE hm0
   simp only [e2, xeb, ↓EVd, isCall, sevalprocAttr]
   refine cwp_cx 0 (fun s => (.inl ()) = o0) ?_ fun J0_0 hJ0_0 => ?_
   · rintro T0 H0 x5 rfl
     try dsimp only at hm0
     obtain rfl := Option.some.inj hm0
     simp only [e2, xeb, ↓EVd, isCall, sevalprocAttr]
     all_goals first | done | rfl
   refine cwp_lp ho0 (fun v4 s => s.T 0 = .sl 2 (a0.map xj) ∧ s.T 1 = .sl 2 (a1.map xj) ∧ s.T 12 = int (a0.length : Int) ∧ s.T 13 = int v4) ?_ ?_
   · refine TI.here ⟨?_, ?_, ?_, ?_⟩
     all_goals try simp only [e2, xeb, ↓EVd, isCall, sevalprocAttr]
     all_goals first | omega | exact lq (by omega) | exact nq (by omega) | rfl | (congr 1; omega)
   rintro I0 v4 T0 H0 x3 st0 kk0 hm1 hI0 hO0
   dsimp only [Lq, Nq] at kk0
   simp only [xdc] at hm1
   rcases iteE hm1 with ⟨e7, hm1⟩ | ⟨e7, hm1⟩
   · obtain ⟨v8, e10, hm1⟩ := ixE xj hm1
     obtain ⟨v11, e13, hm1⟩ := ixE xj hm1
     rcases itbE hm1 with ⟨e15, hm1⟩ | ⟨e15, hm1⟩
     · obtain rfl := Option.some.inj hm1
       simp only [kk0, e2, e7, e10, e13, e15, xeb, ↓EVd, isCall, sevalprocAttr]
       refine TI.here (hI0 _ rfl _ ⟨?_, ?_, ?_, ?_⟩)
       all_goals try simp only [kk0, e2, e7, e10, e13, e15, xeb, ↓EVd, isCall, sevalprocAttr]
       all_goals first | omega | exact lq (by omega) | exact nq (by omega) | rfl | (congr 1; omega)
     obtain rfl := Option.some.inj hm1
     obtain rfl := hO0 _ rfl
     try dsimp only at hm0
     obtain rfl := Option.some.inj hm0
     simp only [kk0, e2, e7, e10, e13, e15, xeb, ↓EVd, isCall, sevalprocAttr]
     all_goals first | done | rfl
   obtain rfl := Option.some.inj hm1
   simp only [kk0, e2, e7, xeb, ↓EVd, isCall, sevalprocAttr]
   refine TI.here (hJ0_0 _ (hO0 _ rfl))
 obtain rfl := Option.some.inj hm0
 simp only [e2, xeb, ↓EVd, isCall, sevalprocAttr]
 all_goals first | done | rfl
def x1b (a0 : List Finding) (a1 : List Finding) : Int → Option (St (Int) ((Unit) ⊕ (Bool)))
 | v4 => if v4 < (a0.length : Int) then (ix a0 v4).bind fun v8 => (ix a1 v4).bind fun v11 => if (decide (v8 = v11)) = true then some (.nx (wr (v4 + 1)))
 else some (.out (.inr false))
 else some (.out (.inl ()))
def xvb (a0 : List Finding) (a1 : List Finding) : Option (Bool) := if (a0.length : Int) = (a1.length : Int) then (iter (x1b a0 a1) big 0).bind fun o => (match o with
 | (.inl _) => some true
 | (.inr r) => some r)
 else some false
def xz := aI (aI (@EV) (aI (@R3) (@R35))) (aI (aI (@R38) (@DFinding)) (aI (@eq38) (@mixed)))
set_option maxHeartbeats 2000000 in
theorem x7g (a0 : List Finding) (a1 : List Finding) (r : Bool) (hm0 : xvb a0 a1 = some r) : Ok Tryd.prog 17 [.sl 4 (a0.map xq), .sl 4 (a1.map xq)] (bool r) := by
 unfold xvb at hm0
 refine okG x6g ?_
 unfold x2d
 rcases iteE hm0 with ⟨e2, hm0⟩ | ⟨e2, hm0⟩
 · obtain ⟨o0, ho0, hm0⟩ := bsE hm0
   simp only [e2, xz, ↓EVd, isCall, sevalprocAttr]
   refine cwp_cx 0 (fun s => (.inl ()) = o0) ?_ fun J0_0 hJ0_0 => ?_
   · rintro T0 H0 x5 rfl
     try dsimp only at hm0
     obtain rfl := Option.some.inj hm0
     simp only [e2, xz, ↓EVd, isCall, sevalprocAttr]
     all_goals first | done | rfl
   refine cwp_lp ho0 (fun v4 s => s.T 0 = .sl 4 (a0.map xq) ∧ s.T 1 = .sl 4 (a1.map xq) ∧ s.T 12 = int (a0.length : Int) ∧ s.T 13 = int v4) ?_ ?_
   · refine TI.here ⟨?_, ?_, ?_, ?_⟩
     all_goals try simp only [e2, xz, ↓EVd, isCall, sevalprocAttr]
     all_goals first | omega | exact lq (by omega) | exact nq (by omega) | rfl | (congr 1; omega)
   rintro I0 v4 T0 H0 x3 st0 kk0 hm1 hI0 hO0
   dsimp only [Lq, Nq] at kk0
   simp only [x1b] at hm1
   rcases iteE hm1 with ⟨e7, hm1⟩ | ⟨e7, hm1⟩
   · obtain ⟨v8, e10, hm1⟩ := ixE xq hm1
     obtain ⟨v11, e13, hm1⟩ := ixE xq hm1
     rcases itbE hm1 with ⟨e15, hm1⟩ | ⟨e15, hm1⟩
     · obtain rfl := Option.some.inj hm1
       simp only [kk0, e2, e7, e10, e13, e15, xz, ↓EVd, isCall, sevalprocAttr]
       refine TI.here (hI0 _ rfl _ ⟨?_, ?_, ?_, ?_⟩)
       all_goals try simp only [kk0, e2, e7, e10, e13, e15, xz, ↓EVd, isCall, sevalprocAttr]
       all_goals first | omega | exact lq (by omega) | exact nq (by omega) | rfl | (congr 1; omega)
     obtain rfl := Option.some.inj hm1
     obtain rfl := hO0 _ rfl
     try dsimp only at hm0
     obtain rfl := Option.some.inj hm0
     simp only [kk0, e2, e7, e10, e13, e15, xz, ↓EVd, isCall, sevalprocAttr]
     all_goals first | done | rfl
   obtain rfl := Option.some.inj hm1
   simp only [kk0, e2, e7, xz, ↓EVd, isCall, sevalprocAttr]
   refine TI.here (hJ0_0 _ (hO0 _ rfl))
 obtain rfl := Option.some.inj hm0
 simp only [e2, xz, ↓EVd, isCall, sevalprocAttr]
 all_goals first | done | rfl
end Go.Proofs.YtmacnoajlofdbaaDoor.AL


/- Plain laws of chapter 16: nodes, entries, what a name tells, where names lead, roots. -/
set_option linter.all false
namespace Go.Proofs.YtmacnoajlofdbaaDoor.AL
open Go Go.Proofs
def foldE {α σ ρ : Type} (step : σ → α → σ ⊕ ρ) : List α → σ → σ ⊕ ρ
  | [], s => .inl s
  | x :: xs, s => match step s x with
    | .inl s' => foldE step xs s'
    | .inr r => .inr r
theorem xbx {α σ ρ : Type} {step : σ → α → σ ⊕ ρ} {R : ρ → Prop} : ∀ (xs : List α) (s : σ), (∀ s x r, x ∈ xs → step s x = .inr r → R r) → ∀ r, foldE step xs s = .inr r → R r
  | [], s, h, r, e => by cases e
  | x :: xs, s, h, r, e => by
    unfold foldE at e
    split at e
    · exact xbx xs _ (fun s y r hy => h s y r (by simp [hy])) r e
    · rename_i r' he
      injection e with e
      subst e
      exact h s x _ (by simp) he
theorem xal {α σ ρ S τ : Type} {B : S → Option (St S τ)} (mk : Nat → σ → S) (xs : List α) (step : σ → α → σ ⊕ ρ) (fin : σ ⊕ ρ → τ) (I : Nat → σ → Prop)
    (hs : ∀ i s (h : i < xs.length), I i s → match step s xs[i] with
      | .inl s' => B (mk i s) = some (.nx (mk (i + 1) s')) ∧ I (i + 1) s'
      | .inr r => B (mk i s) = some (.out (fin (.inr r))))
    (he : ∀ s, I xs.length s → B (mk xs.length s) = some (.out (fin (.inl s)))) {s0 : σ} (h0 : I 0 s0) {fuel : Nat} (hf : xs.length < fuel) : iter B fuel (mk 0 s0) = some (fin (foldE step xs s0)) := by
  have key : ∀ (d i : Nat) (s : σ) (fuel : Nat), d + i = xs.length → I i s → d < fuel → iter B fuel (mk i s) = some (fin (foldE step (xs.drop i) s)) := by
    intro d
    induction d with
    | zero =>
      intro i s fuel hd hi hf
      obtain rfl : i = xs.length := by omega
      cases fuel with
      | zero => omega
      | succ fuel =>
        rw [xtg, he s hi]
        simp [foldE]
    | succ d ih =>
      intro i s fuel hd hi hf
      cases fuel with
      | zero => omega
      | succ fuel =>
        have hlt : i < xs.length := by omega
        have h1 := hs i s hlt hi
        rw [xtg, List.drop_eq_getElem_cons hlt]
        unfold foldE
        split at h1
        · rename_i s' hst
          rw [h1.1]
          exact ih (i + 1) _ fuel (by omega) h1.2 (by omega)
        · rename_i r hst
          rw [h1]
          rfl
  have := key xs.length 0 s0 fuel (by omega) h0 hf
  simpa using this
theorem xd6 {α ρ : Type} {xs : List α} {B : Int → Option (St Int (Unit ⊕ ρ))} (g : α → Option ρ) (hl : xs.length ≤ 1000000000)
    (hB : ∀ i (h : i < xs.length), B (i : Int) = some (match g xs[i] with | some r => .out (.inr r) | none => .nx ((i + 1 : Nat) : Int))) (hE : B (xs.length : Int) = some (.out (.inl ()))) :
    iter B big 0 = some (match xs.findSome? g with | some r => .inr r | none => .inl ()) := by
  have := xal (B := B) (σ := Unit) (fun i _ => (i : Int)) xs (fun _ x => match g x with | some r => .inr r | none => .inl ()) (fun o => o) (fun _ _ => True) (by
    intro i s h _
    have := hB i h
    cases hg : g xs[i] with
    | none => rw [hg] at this; exact ⟨this, trivial⟩
    | some r => rw [hg] at this; exact this) (fun _ _ => hE) (s0 := ()) trivial (fuel := big) (by rw [big_eq]; omega)
  have e0 : ((0 : Nat) : Int) = 0 := rfl
  rw [show (0 : Int) = ((0 : Nat) : Int) from rfl, this]
  congr 1
  clear this hB hE hl
  induction xs with
  | nil => rfl
  | cons x xs ih =>
    unfold foldE
    rw [List.findSome?_cons]
    cases hg : g x with
    | none => simpa using ih
    | some r => rfl
def zN : Node := ⟨0, 0, 0, 0, [], [], ⟨0, 0, xl, ⟨0, 0, 0⟩, 0⟩⟩
structure PQ (bs : List Branch) : Prop where
  len : bs.length ≤ 3
  nodes : ∀ b ∈ bs, b.nodes.length ≤ 24 ∧ ∀ n ∈ b.nodes, NB n
def nodeQ (bs : List Branch) (x : Place) : Node :=
  if x.layer < 1 then zN else if (bs.length : Int) < x.layer then zN else
    if x.ino < 1 then zN else if ((((bs[(x.layer - 1).toNat]?).getD ⟨[]⟩).nodes.length : Nat) : Int) < x.ino then zN else (((bs[(x.layer - 1).toNat]?).getD ⟨[]⟩).nodes[(x.ino - 1).toNat]?).getD zN
theorem x8v {bs : List Branch} (h : PQ bs) (x : Place) : x5c bs x = some (nodeQ bs x) := by
  unfold x5c nodeQ
  by_cases h1 : x.layer < 1
  · rw [if_pos h1, if_pos h1]; rfl
  rw [if_neg h1, if_neg h1]
  by_cases h2 : (bs.length : Int) < x.layer
  · rw [if_pos h2, if_pos h2]; rfl
  rw [if_neg h2, if_neg h2]
  have hl := h.len
  have hlt : (x.layer - 1).toNat < bs.length := by omega
  rw [wr_in (by omega) (by omega), ix_of (by omega) (by omega)]
  simp only [Option.bind_some]
  rw [List.getElem?_eq_getElem hlt]
  simp only [Option.getD_some]
  have hb := (h.nodes _ (List.getElem_mem hlt)).1
  generalize bs[(x.layer - 1).toNat] = b at hb
  by_cases h3 : x.ino < 1
  · rw [if_pos h3, if_pos h3]; rfl
  rw [if_neg h3, if_neg h3]
  by_cases h4 : (b.nodes.length : Int) < x.ino
  · rw [if_pos h4, if_pos h4]; rfl
  rw [if_neg h4, if_neg h4]
  have hlt2 : (x.ino - 1).toNat < b.nodes.length := by omega
  rw [wr_in (by omega) (by omega), ix_of (by omega) (by omega)]
  simp only [Option.bind_some]
  rw [List.getElem?_eq_getElem hlt2]
  rfl
theorem zN_nb : NB zN := ⟨by simp [zN], by simp [zN], by simp [zN]⟩
theorem x2t {bs : List Branch} (h : PQ bs) (x : Place) : NB (nodeQ bs x) := by
  unfold nodeQ
  split
  · exact zN_nb
  split
  · exact zN_nb
  split
  · exact zN_nb
  split
  · exact zN_nb
  rename_i h1 h2 h3 h4
  have hlt : (x.layer - 1).toNat < bs.length := by omega
  rw [List.getElem?_eq_getElem hlt] at h4 ⊢
  simp only [Option.getD_some] at h4 ⊢
  have hlt2 : (x.ino - 1).toNat < bs[(x.layer - 1).toNat].nodes.length := by omega
  rw [List.getElem?_eq_getElem hlt2]
  exact (h.nodes _ (List.getElem_mem hlt)).2 _ (List.getElem_mem hlt2)
theorem bitsQ (k : Fin 32) : bAnd .i64 (k.val : Int) 1 = 0 ↔ ¬ (wr ((k.val : Int).tdiv 1)).tmod 2 = 1 := by
  revert k
  decide +kernel
def opqQ (n : Node) : Bool := decide ((wr (n.attr.has.tdiv 1)).tmod 2 = 1 ∧ n.attr.opaque0 = 121)
theorem xeo {n : Node} (h : NB n) : xqd n = some (opqQ n) := by
  unfold xqd opqQ
  rw [if_pos h.has0]
  have e : ((n.attr.has.toNat : Nat) : Int) = n.attr.has := by have := h.has0; omega
  have hb := bitsQ ⟨n.attr.has.toNat, by have := h.has0; have := h.has1; omega⟩
  simp only [e] at hb
  by_cases hc : bAnd .i64 n.attr.has 1 = 0
  · rw [if_pos hc]
    exact congrArg some (decide_eq_false fun hh => hb.1 hc hh.1).symm
  · rw [if_neg hc]
    have hq : (wr (n.attr.has.tdiv 1)).tmod 2 = 1 := by
      rcases Decidable.em ((wr (n.attr.has.tdiv 1)).tmod 2 = 1) with h | h
      · exact h
      · exact absurd (hb.2 h) hc
    by_cases ho : n.attr.opaque0 = 121
    · rw [if_pos ho]; exact congrArg some (decide_eq_true ⟨hq, ho⟩).symm
    · rw [if_neg ho]; exact congrArg some (decide_eq_false fun hh => ho hh.2).symm
def entG (bs : List Branch) (x : Place) (nm : ByteArray) (e : Entry) : Option (Place × Node) :=
  if e.name = nm then if (nodeQ bs ⟨x.layer, e.ino⟩).kind = 0 then none else some (⟨x.layer, e.ino⟩, nodeQ bs ⟨x.layer, e.ino⟩) else none
def entQ (bs : List Branch) (x : Place) (nm : ByteArray) : Option (Place × Node) :=
  if (nodeQ bs x).kind = 1 then (nodeQ bs x).entries.findSome? (entG bs x nm) else none
theorem xgbb {bs : List Branch} (h : PQ bs) (x : Place) (nm : ByteArray) : xie bs x nm = some ((entQ bs x nm).getD (⟨0, 0⟩, zN)) := by
  unfold xie entQ
  rw [x8v h]
  simp only [Option.bind_some]
  have hn := (x2t h x).ents
  by_cases hk : (nodeQ bs x).kind = 1
  · rw [if_pos hk, if_pos hk, xd6 (entG bs x nm) (xs := (nodeQ bs x).entries) (by omega)]
    · cases (nodeQ bs x).entries.findSome? (entG bs x nm) <;> rfl
    · intro i hi
      simp only [xme]
      rw [if_pos (by omega), ix_at hi]
      simp only [Option.bind_some]
      rw [x8v h, wr_suc (by omega)]
      simp only [Option.bind_some, entG]
      by_cases h1 : (nodeQ bs x).entries[i].name = nm
      · rw [if_pos h1, if_pos h1]
        by_cases h2 : (nodeQ bs ⟨x.layer, (nodeQ bs x).entries[i].ino⟩).kind = 0
        · rw [if_pos h2, if_pos h2]
        · rw [if_neg h2, if_neg h2]
      · rw [if_neg h1, if_neg h1]
    · simp only [xme]
      rw [if_neg (by omega)]
  · rw [if_neg hk, if_neg hk]; rfl
theorem xk7 {bs : List Branch} {x : Place} {nm : ByteArray} {p : Place × Node} (h : entQ bs x nm = some p) : p.2 = nodeQ bs p.1 ∧ ¬ p.2.kind = 0 ∧ (nodeQ bs x).kind = 1 ∧ ∃ e ∈ (nodeQ bs x).entries, e.name = nm := by
  unfold entQ at h
  split at h
  · rename_i hk
    obtain ⟨e, he, h1⟩ := List.exists_of_findSome?_eq_some h
    unfold entG at h1
    split at h1
    · rename_i hn
      split at h1
      · cases h1
      · rename_i h2
        injection h1 with h1
        subst h1
        exact ⟨rfl, h2, hk, e, he, hn⟩
    · cases h1
  · cases h
def stepQ (bs : List Branch) (nm : ByteArray) (d : List Place) (x : Place) : List Place ⊕ (Int × List Place) :=
  match entQ bs x nm with
  | none => .inl d
  | some (y, n) => if n.kind = 1 then (if opqQ n = true then .inr (1, d ++ [y]) else .inl (d ++ [y])) else if 0 < (d.length : Int) then .inr (1, d) else if n.kind = 2 ∨ n.kind = 3 then .inr (n.kind, [y]) else .inr (0, [])
def endQ (o : List Place ⊕ (Int × List Place)) : Int × List Place := match o with
  | .inl d => if 0 < (d.length : Int) then (1, d) else (0, [])
  | .inr r => r
def findQ (bs : List Branch) (l : List Place) (nm : ByteArray) : Int × List Place := endQ (foldE (stepQ bs nm) l [])
structure FQ' (n : Nat) (r : Int × List Place) : Prop where
  some : r.1 = 0 ∨ 0 < r.2.length
  nil : r.1 = 0 → r.2 = []
  kinds : r.1 = 0 ∨ r.1 = 1 ∨ r.1 = 2 ∨ r.1 = 3
  one : ¬ r.1 = 1 → r.2.length ≤ 1
theorem xs5 {bs : List Branch} {nm : ByteArray} {d : List Place} {x : Place} {r : Int × List Place} (h : stepQ bs nm d x = .inr r) : FQ' 0 r := by
  unfold stepQ at h
  split at h
  · cases h
  · rename_i y n he
    split at h
    · split at h
      · injection h with h; subst h; exact ⟨.inr (by simp), fun e => (by cases e), by simp, fun e => absurd rfl e⟩
      · cases h
    · split at h
      · injection h with h; subst h; exact ⟨.inr (by simp only; omega), fun e => (by cases e), by simp, fun e => absurd rfl e⟩
      · split at h
        · rename_i hk
          injection h with h
          subst h
          exact ⟨.inr (by simp), fun e => (by simp only at e; omega), by simp only; omega, fun _ => by simp⟩
        · injection h with h; subst h; exact ⟨.inl rfl, fun _ => rfl, by simp, fun _ => by simp⟩
theorem xu3 (bs : List Branch) (l : List Place) (nm : ByteArray) : FQ' 0 (findQ bs l nm) := by
  unfold findQ endQ
  split
  · rename_i d hd
    split
    · exact ⟨.inr (by simp only; omega), fun e => (by cases e), by simp, fun e => absurd rfl e⟩
    · exact ⟨.inl rfl, fun _ => rfl, by simp, fun _ => by simp⟩
  · rename_i r hr
    exact xbx (R := FQ' 0) l [] (fun s x r _ h => xs5 h) r hr
theorem xlr {bs : List Branch} {nm : ByteArray} : ∀ (l : List Place) (d : List Place), (∀ d', foldE (stepQ bs nm) l d = .inl d' → d'.length ≤ d.length + l.length) ∧ (∀ r, foldE (stepQ bs nm) l d = .inr r → r.2.length ≤ d.length + l.length)
  | [], d => ⟨fun d' e => by injection e with e; subst e; simp, fun r e => by cases e⟩
  | x :: l, d => by
    have key : (∃ r, stepQ bs nm d x = .inr r ∧ foldE (stepQ bs nm) (x :: l) d = .inr r ∧ r.2.length ≤ d.length + 1) ∨ (∃ d1, stepQ bs nm d x = .inl d1 ∧ d1.length ≤ d.length + 1 ∧ foldE (stepQ bs nm) (x :: l) d = foldE (stepQ bs nm) l d1) := by
      cases hs : stepQ bs nm d x with
      | inl d1 =>
        refine .inr ⟨d1, rfl, ?_, by rw [foldE, hs]⟩
        unfold stepQ at hs
        split at hs
        · injection hs with hs; subst hs; omega
        · split at hs
          · split at hs
            · cases hs
            · injection hs with hs; subst hs; simp
          · split at hs
            · cases hs
            · split at hs <;> cases hs
      | inr r =>
        refine .inl ⟨r, rfl, by rw [foldE, hs], ?_⟩
        unfold stepQ at hs
        split at hs
        · cases hs
        · split at hs
          · split at hs
            · injection hs with hs; subst hs; simp
            · cases hs
          · split at hs
            · injection hs with hs; subst hs; simp
            · split at hs <;> (injection hs with hs; subst hs; simp)
    rcases key with ⟨r, h1, h2, h3⟩ | ⟨d1, h1, h2, h3⟩
    · refine ⟨fun d' e => (by rw [h2] at e; cases e), fun r' e => ?_⟩
      rw [h2] at e
      injection e with e
      subst e
      simp only [List.length_cons]; omega
    · obtain ⟨g1, g2⟩ := xlr l d1
      refine ⟨fun d' e => ?_, fun r e => ?_⟩
      · rw [h3] at e; have := g1 d' e; simp only [List.length_cons]; omega
      · rw [h3] at e; have := g2 r e; simp only [List.length_cons]; omega
theorem xar (bs : List Branch) (l : List Place) (nm : ByteArray) : (findQ bs l nm).2.length ≤ l.length := by
  obtain ⟨g1, g2⟩ := xlr (bs := bs) (nm := nm) l []
  unfold findQ endQ
  split
  · rename_i d hd
    have := g1 d hd
    split
    · simpa using this
    · simp
  · rename_i r hr
    have := g2 r hr
    simpa using this
def outQ (o : List Place ⊕ (Int × List Place)) : (List Place) ⊕ ((List Place) ⊕ (Int × List Place)) := match o with
  | .inl d => .inl d
  | .inr r => if r.1 = 0 ∨ r.1 = 1 then .inr (.inl r.2) else .inr (.inr r)
theorem xu2 {s : Stack} (h : PQ s.lowers) {l : List Place} (hl : l.length ≤ 1000) (nm : ByteArray) : xhg s l nm = some (findQ s.lowers l nm) := by
  unfold xhg
  have := xal (B := xne s l nm) (fun i d => (d, (i : Int))) l (stepQ s.lowers nm) outQ (fun i d => d.length ≤ i) (by
    intro i d hi hd
    have hb : xne s l nm (d, (i : Int)) = some (match stepQ s.lowers nm d l[i] with | .inl d' => .nx (d', ((i + 1 : Nat) : Int)) | .inr r => .out (outQ (.inr r))) := by
      simp only [xne]
      rw [if_pos (by omega), ix_at hi]
      simp only [Option.bind_some]
      rw [xgbb h, wr_suc (by omega)]
      simp only [Option.bind_some, stepQ]
      cases he : entQ s.lowers l[i] nm with
      | none => simp [zN]
      | some p =>
        obtain ⟨y, n⟩ := p
        obtain ⟨e1, e2, _⟩ := xk7 he
        simp only at e1 e2
        subst e1
        simp only [Option.getD_some]
        rw [if_neg e2]
        by_cases hk : (nodeQ s.lowers y).kind = 1
        · rw [if_pos hk, if_pos hk, ap_of (by simp; omega) (by decide)]
          simp only [Option.bind_some]
          rw [xeo (x2t h y)]
          simp only [Option.bind_some]
          cases ho : opqQ (nodeQ s.lowers y) with
          | true => simp [outQ]
          | false => simp
        · rw [if_neg hk, if_neg hk]
          by_cases h0 : 0 < (d.length : Int)
          · have hd0 : ¬ (d.length : Int) = 0 := by omega
            rw [if_pos h0, if_neg hd0]
            have ho : outQ (.inr (1, d)) = .inr (.inl d) := by simp [outQ]
            show _ = some (St.out (outQ (.inr (1, d))))
            rw [ho]
            split
            · rfl
            · split <;> rfl
          · have hd0 : (d.length : Int) = 0 := by omega
            have hd1 : d = [] := List.eq_nil_of_length_eq_zero (by omega)
            rw [if_neg h0, if_pos hd0]
            have ho : ∀ k : Int, ¬ k = 0 → ¬ k = 1 → outQ (.inr (k, [y])) = .inr (.inr (k, [y])) := fun k g1 g2 => if_neg (by rintro (g | g); exact g1 g; exact g2 g)
            have ho0 : outQ (.inr (0, [])) = .inr (.inl []) := by simp [outQ]
            by_cases h2 : (nodeQ s.lowers y).kind = 2
            · rw [if_pos h2, if_pos (Or.inl h2)]
              show _ = some (St.out (outQ (.inr (_, [y]))))
              rw [ho _ e2 hk]
            · rw [if_neg h2]
              by_cases h3 : (nodeQ s.lowers y).kind = 3
              · rw [if_pos h3, if_pos (Or.inr h3)]
                show _ = some (St.out (outQ (.inr (_, [y]))))
                rw [ho _ e2 hk]
              · rw [if_neg h3, if_neg (by omega)]
                show _ = some (St.out (outQ (.inr (0, []))))
                rw [ho0, hd1]
    split
    · rename_i d' hs
      rw [hs] at hb
      refine ⟨hb, ?_⟩
      have := (xlr (bs := s.lowers) (nm := nm) [l[i]] d).1 d' (by rw [foldE, hs]; rfl)
      simp at this
      omega
    · rename_i r hs
      rw [hs] at hb
      exact hb) (by
    intro d hd
    simp only [xne]
    rw [if_neg (by omega)]
    rfl) (s0 := []) (Nat.le_refl _) (fuel := big) (by rw [big_eq]; omega)
  have e0 : ((0 : Nat) : Int) = 0 := rfl
  rw [e0] at this
  rw [this]
  simp only [Option.bind_some]
  have hp := xu3 s.lowers l nm
  unfold findQ endQ at *
  cases hf : foldE (stepQ s.lowers nm) l [] with
  | inl d =>
    simp only [outQ]
    by_cases h0 : (d.length : Int) = 0
    · rw [if_pos h0, if_neg (by omega)]
    · rw [if_neg h0, if_pos (by omega)]
  | inr r =>
    rw [hf] at hp
    simp only at hp
    simp only [outQ]
    obtain ⟨k, d⟩ := r
    by_cases h1 : k = 0 ∨ k = 1
    · rw [if_pos h1]
      simp only
      rcases h1 with h1 | h1
      · subst h1
        have := hp.nil rfl
        simp only at this
        subst this
        rfl
      · subst h1
        have : 0 < d.length := by rcases hp.some with h | h; cases h; exact h
        rw [if_neg (by omega)]
    · rw [if_neg h1]
def stepL (bs : List Branch) (d : List Place) (nm : ByteArray) : List Place ⊕ (List Place × Bool) := if (findQ bs d nm).1 = 1 then .inl (findQ bs d nm).2 else .inr ([], false)
def lookQ (bs : List Branch) (l : List Place) (nms : List ByteArray) : List Place × Bool := match foldE (stepL bs) nms l with
  | .inl d => (d, true)
  | .inr r => r
theorem xdab {n : Nat} {α : Type} {l : List α} (h : l.length * n ≤ 140737488355328) (hn : 0 < n) : cloneM n l = some l := by
  unfold cloneM
  rw [ap_of (by simpa using h) hn]
  rfl
theorem x5cb {s : Stack} (h : PQ s.lowers) {l : List Place} (hl : l.length ≤ 1000) {nms : List ByteArray} (hn : nms.length ≤ 1000) : xvh s l nms = some (lookQ s.lowers l nms) := by
  unfold xvh
  rw [xdab (by omega) (by decide)]
  simp only [Option.bind_some]
  have := xal (B := xqe s nms) (fun i d => (d, (i : Int))) nms (stepL s.lowers) (fun o => o) (fun i d => d.length ≤ 1000) (by
    intro i d hi hd
    have hb : xqe s nms (d, (i : Int)) = some (match stepL s.lowers d nms[i] with | .inl d' => .nx (d', ((i + 1 : Nat) : Int)) | .inr r => .out (.inr r)) := by
      simp only [xqe]
      rw [if_pos (by omega), ix_at hi]
      simp only [Option.bind_some]
      rw [xu2 h hd, wr_suc (by omega)]
      simp only [Option.bind_some, stepL]
      split <;> rfl
    split
    · rename_i d' hs
      rw [hs] at hb
      refine ⟨hb, ?_⟩
      unfold stepL at hs
      split at hs
      · injection hs with hs
        subst hs
        exact Nat.le_trans (xar _ _ _) hd
      · cases hs
    · rename_i r hs
      rw [hs] at hb
      exact hb) (by
    intro d hd
    simp only [xqe]
    rw [if_neg (by omega)]) (s0 := l) hl (fuel := big) (by rw [big_eq]; omega)
  have e0 : ((0 : Nat) : Int) = 0 := rfl
  rw [e0] at this
  rw [this]
  simp only [Option.bind_some]
  unfold lookQ
  cases foldE (stepL s.lowers) nms l <;> rfl
theorem xqw {bs : List Branch} : ∀ (nms : List ByteArray) (l : List Place), (lookQ bs l nms).1.length ≤ l.length
  | [], l => Nat.le_refl _
  | n :: nms, l => by
    have := xqw nms (findQ bs l n).2 (bs := bs)
    unfold lookQ at this ⊢
    unfold foldE
    by_cases h : (findQ bs l n).1 = 1
    · have e : stepL bs l n = .inl (findQ bs l n).2 := if_pos h
      rw [e]
      exact Nat.le_trans this (xar _ _ _)
    · have e : stepL bs l n = .inr ([], false) := if_neg h
      rw [e]
      exact Nat.zero_le _
def stepO (bs : List Branch) (d : List Place) (i : Nat) : List Place ⊕ List Place :=
  if (nodeQ bs ⟨((i + 1 : Nat) : Int), 1⟩).kind = 1 then (if opqQ (nodeQ bs ⟨((i + 1 : Nat) : Int), 1⟩) = true then .inr (d ++ [⟨((i + 1 : Nat) : Int), 1⟩]) else .inl (d ++ [⟨((i + 1 : Nat) : Int), 1⟩])) else .inl d
def rootsQ (bs : List Branch) : List Place := match foldE (stepO bs) (List.range bs.length) [] with
  | .inl d => d
  | .inr d => d
theorem xcx {bs : List Branch} {d d' : List Place} {i : Nat} (h : stepO bs d i = .inl d') : d'.length ≤ d.length + 1 := by
  unfold stepO at h
  split at h
  · split at h
    · cases h
    · injection h with h; subst h; simp
  · injection h with h; subst h; omega
theorem xsz {s : Stack} (h : PQ s.lowers) : xte s = some (rootsQ s.lowers) := by
  unfold xte
  have hl := h.len
  have := xal (B := x4d s) (fun i d => (d, (i : Int))) (List.range s.lowers.length) (stepO s.lowers) (fun o => match o with | .inl d => d | .inr d => d) (fun i d => d.length ≤ i) (by
    intro i d hi hd
    have hi' : i < s.lowers.length := by simpa using hi
    rw [List.getElem_range]
    have hb : x4d s (d, (i : Int)) = some (match stepO s.lowers d i with | .inl d' => .nx (d', ((i + 1 : Nat) : Int)) | .inr r => .out r) := by
      simp only [x4d]
      rw [if_pos (by omega), wr_suc (by omega), x8v h]
      simp only [Option.bind_some, stepO]
      by_cases hk : (nodeQ s.lowers ⟨((i + 1 : Nat) : Int), 1⟩).kind = 1
      · rw [if_pos hk, if_pos hk, ap_of (by simp; omega) (by decide)]
        simp only [Option.bind_some]
        rw [xeo (x2t h _)]
        simp only [Option.bind_some]
        split <;> rfl
      · rw [if_neg hk, if_neg hk]
    split
    · rename_i d' hs
      rw [hs] at hb
      have := xcx hs
      exact ⟨hb, by omega⟩
    · rename_i r hs
      rw [hs] at hb
      exact hb) (by
    intro d hd
    simp only [x4d, List.length_range]
    rw [if_neg (by omega)]) (s0 := []) (Nat.le_refl _) (fuel := big) (by rw [big_eq]; simp; omega)
  have e0 : ((0 : Nat) : Int) = 0 := rfl
  rw [e0] at this
  rw [this]
  rfl
theorem xgo {bs : List Branch} (h : PQ bs) : (rootsQ bs).length ≤ 3 := by
  have hl := h.len
  have key : ∀ (xs : List Nat) (d : List Place), (match foldE (stepO bs) xs d with | .inl d => d | .inr d => d).length ≤ d.length + xs.length := by
    intro xs
    induction xs with
    | nil => intro d; simp [foldE]
    | cons x xs ih =>
      intro d
      unfold foldE
      cases hs : stepO bs d x with
      | inl d' =>
        have h1 := xcx hs
        have h2 := ih d'
        simp only [List.length_cons]
        omega
      | inr d' =>
        unfold stepO at hs
        split at hs
        · split at hs
          · injection hs with hs; subst hs; simp
          · cases hs
        · cases hs
  have := key (List.range bs.length) []
  simp only [List.length_range, List.length_nil] at this
  unfold rootsQ
  omega
theorem SB.pq {s : Stack} (h : SB s) : PQ s.lowers := ⟨h.low, fun b hb => h.lows b hb⟩
end Go.Proofs.YtmacnoajlofdbaaDoor.AL

/- Plain laws: names. -/
set_option linter.all false
namespace Go.Proofs.YtmacnoajlofdbaaDoor.AL
open Go Go.Proofs
def letP (n : Int) : Bool := decide ((97 ≤ n ∧ n ≤ 122) ∨ (48 ≤ n ∧ n ≤ 57) ∨ n = 46 ∨ n = 95 ∨ n = 45)
theorem xa6 (n : Int) : x9d n = some (letP n) := by
  unfold x9d letP
  repeat' split
  all_goals (congr 1; symm; first | (apply decide_eq_true; omega) | (apply decide_eq_false; omega))
theorem x73 (n : Int) : x6i n = some (letP n) := xa6 n
def rightP (s : ByteArray) : Bool := decide (1 ≤ s.size ∧ s.size ≤ 12 ∧ ¬ s = ⟨#[46]⟩ ∧ ¬ s = ⟨#[46, 46]⟩) && s.data.toList.all fun b => letP b.toNat
theorem bsize (s : ByteArray) : s.data.toList.length = s.size := by simp
theorem x5s (s : ByteArray) : ∀ (f pos : Nat), pos ≤ s.size → s.size ≤ f + pos → (Lib.idxFuncFrom (fun x => !letP (x : Int)) true s f pos < 0 ↔ ∀ j (h : j < s.data.toList.length), pos ≤ j → letP (s.data.toList[j]).toNat = true)
  | 0, pos, h1, h2 => by
    have hb := bsize s
    simp only [Lib.idxFuncFrom]
    exact ⟨fun _ j h hj => by omega, fun _ => by omega⟩
  | f + 1, pos, h1, h2 => by
    have hb := bsize s
    unfold Lib.idxFuncFrom
    by_cases hlt : pos < s.size
    · rw [if_pos hlt]
      have hg : s[pos]'hlt = s.data.toList[pos]'(by omega) := rfl
      by_cases ha : (s[pos]'hlt).toNat < 128
      · rw [decode_ascii s pos hlt ha]
        simp only
        by_cases hl : letP ((s[pos]'hlt).toNat : Int) = true
        · rw [if_neg (by simp [hl])]
          rw [x5s s f (pos + 1) (by omega) (by omega)]
          constructor
          · intro h j hj hpj
            by_cases e : j = pos
            · subst e; rw [← hg]; exact hl
            · exact h j hj (by omega)
          · intro h j hj hpj
            exact h j hj (by omega)
        · rw [if_pos (by simpa using hl)]
          constructor
          · intro h; omega
          · intro h
            have := h pos (by omega) (Nat.le_refl _)
            rw [← hg] at this
            exact absurd this hl
      · obtain ⟨d1, d2⟩ := decode_high s pos hlt (by omega)
        have hno : letP (((Utf8.decode s pos).1 : Nat) : Int) = false := by
          unfold letP
          apply decide_eq_false
          omega
        rw [if_pos (by simp [hno])]
        constructor
        · intro h; omega
        · intro h
          have := h pos (by omega) (Nat.le_refl _)
          rw [← hg] at this
          unfold letP at this
          have := of_decide_eq_true this
          omega
    · rw [if_neg hlt]
      exact ⟨fun _ j h hj => by omega, fun _ => by omega⟩
theorem xzw (s : ByteArray) : xeg s = some (rightP s) := by
  have hb := bsize s
  unfold xeg rightP
  by_cases h1 : (s.size : Int) = 0
  · rw [if_pos h1, decide_eq_false (by omega)]; rfl
  rw [if_neg h1]
  by_cases h2 : 12 < (s.size : Int)
  · rw [if_pos h2, decide_eq_false (by omega)]; rfl
  rw [if_neg h2]
  by_cases h3 : s = ⟨#[46]⟩
  · rw [if_pos h3, decide_eq_false (fun h => h.2.2.1 h3)]; rfl
  rw [if_neg h3]
  by_cases h4 : s = ⟨#[46, 46]⟩
  · rw [if_pos h4, decide_eq_false (fun h => h.2.2.2 h4)]; rfl
  rw [if_neg h4, decide_eq_true ⟨by omega, by omega, h3, h4⟩]
  have hp : ∀ x : Int, x7d x = some (!letP x) := fun x => by unfold x7d; rw [x73]; rfl
  unfold idxFM ck
  rw [if_pos (fun x => by show (x7d _).isSome = true; rw [hp]; rfl)]
  simp only [Option.bind_some, hp, Option.getD_some]
  have key := x5s s s.size 0 (by omega) (by omega)
  unfold Lib.idxFunc
  by_cases ha : (s.data.toList.all fun b => letP b.toNat) = true
  · rw [if_pos (key.2 fun j h _ => List.all_eq_true.1 ha _ (List.getElem_mem h)), ha]; rfl
  · rw [if_neg (fun h => ha (List.all_eq_true.2 fun b hb' => by obtain ⟨j, hj, rfl⟩ := List.getElem_of_mem hb'; exact key.1 h j hj (by omega)))]
    simp only [Bool.not_eq_true] at ha
    rw [ha]; rfl
end Go.Proofs.YtmacnoajlofdbaaDoor.AL

/- Plain laws: the parts of a path. -/
set_option linter.all false
namespace Go.Proofs.YtmacnoajlofdbaaDoor.AL
open Go Go.Proofs
def mkB (l : List UInt8) : ByteArray := ⟨l.toArray⟩
theorem xhv (l : List UInt8) : (mkB l).data.toList = l := rfl
theorem xx8 (a : List UInt8) : (mkB a).size = a.length := by simp [mkB, ByteArray.size]
def splitL : List UInt8 → List (List UInt8)
  | [] => [[]]
  | b :: l => if b = 47 then [] :: splitL l else match splitL l with
    | [] => [[b]]
    | h :: t => (b :: h) :: t
theorem x3p (b : UInt8) (l : List UInt8) : List.isPrefixOf [47] (b :: l) = ((47 : UInt8) == b) := by simp [List.isPrefixOf]
theorem xoo (b : UInt8) (l sub : List UInt8) : Lib.index (b :: l) sub = if sub.isPrefixOf (b :: l) = true then 0 else if (Lib.index l sub == -1) = true then -1 else Lib.index l sub + 1 := rfl
theorem xvu : ∀ l : List UInt8, Lib.splitK [47] 0 (l.count 47) l = splitL l
  | [] => rfl
  | b :: l => by
    have ih := xvu l
    unfold splitL
    by_cases hb : b = 47
    · subst hb
      rw [if_pos rfl, List.count_cons_self]
      unfold Lib.splitK
      have hi : Lib.index (47 :: l) [47] = 0 := by rw [xoo, x3p]; rfl
      rw [hi]
      simp only [Int.reduceNeg, Int.reduceBEq, Bool.false_eq_true, if_false]
      rw [← ih]
      rfl
    · rw [if_neg hb, List.count_cons_of_ne hb]
      have hp : List.isPrefixOf [47] (b :: l) = false := by rw [x3p]; exact beq_eq_false_iff_ne.2 (fun h => hb h.symm)
      have hg := Lib.index_ge l [47]
      by_cases hm : Lib.index l [47] = -1
      · have hi : Lib.index (b :: l) [47] = -1 := by rw [xoo, hp, hm]; rfl
        have e1 : ∀ k, Lib.splitK [47] 0 k (b :: l) = [b :: l] := by
          intro k
          cases k with
          | zero => rfl
          | succ k => unfold Lib.splitK; rw [hi]; rfl
        have e2 : ∀ k, Lib.splitK [47] 0 k l = [l] := by
          intro k
          cases k with
          | zero => rfl
          | succ k => unfold Lib.splitK; rw [hm]; rfl
        rw [e2] at ih
        rw [e1, ← ih]
      · have hi : Lib.index (b :: l) [47] = Lib.index l [47] + 1 := by
          have : (Lib.index l [47] == -1) = false := beq_eq_false_iff_ne.2 hm
          rw [xoo, hp, this]
          rfl
        have hc := Lib.count_hit (s := l) (sub := [47]) (i := (Lib.index l [47]).toNat) (by simp) (by omega)
        rw [Lib.count_one] at hc
        obtain ⟨k, hk⟩ : ∃ k, l.count 47 = k + 1 := ⟨l.count 47 - 1, by omega⟩
        rw [hk] at ih ⊢
        unfold Lib.splitK at ih ⊢
        have n1 : ¬ (Lib.index l [47] == -1) = true := by simpa using hm
        have n2 : ¬ (Lib.index (b :: l) [47] == -1) = true := by rw [hi]; simp; omega
        rw [if_neg n1] at ih
        rw [if_neg n2, ← ih, hi]
        have e : (Lib.index l [47] + 1).toNat = (Lib.index l [47]).toNat + 1 := by omega
        rw [e]
        simp
def partsP (s : ByteArray) : List ByteArray := (splitL (s.data.toList.drop 1)).map mkB
def absP (s : ByteArray) : Bool := List.isPrefixOf [47] s.data.toList
theorem xj3 {s : ByteArray} (hs : s.size ≤ 2000000) : xjh s = some (if absP s = true then (partsP s, true) else ([], false)) := by
  have hb := bsize s
  unfold xjh xhf
  simp only [Option.bind_some]
  have hd : (ByteArray.mk #[47]).data.toList = [47] := rfl
  have hh : Lib.hasPrefix s.data.toList [47] = absP s := rfl
  rw [hh]
  by_cases ha : absP s = true
  · rw [ha, if_neg (by simp), if_pos rfl]
    have ht : Lib.trimPrefix s.data.toList [47] = s.data.toList.drop 1 := by unfold Lib.trimPrefix; rw [hh, if_pos ha]; rfl
    rw [ht]
    unfold xfh ck
    have hsz : (⟨(s.data.toList.drop 1).toArray⟩ : ByteArray).size = s.size - 1 := by
      have := xx8 (s.data.toList.drop 1)
      rw [List.length_drop, hb] at this
      exact this
    rw [if_pos ⟨by rw [hsz]; omega, by decide⟩]
    simp only [Option.bind_some]
    congr 2
    have h1 := Lib.splitB_data (ByteArray.mk #[47]) 0 (Lib.countB (mkB (s.data.toList.drop 1)) (ByteArray.mk #[47])) (mkB (s.data.toList.drop 1))
    rw [hd, xhv] at h1
    have h2 : Lib.countB (mkB (s.data.toList.drop 1)) (ByteArray.mk #[47]) = (s.data.toList.drop 1).count 47 := by
      show Lib.count (mkB (s.data.toList.drop 1)).data.toList (ByteArray.mk #[47]).data.toList = _
      rw [hd, xhv, Lib.count_one]
    rw [h2, xvu] at h1
    unfold partsP
    rw [← h1, List.map_map]
    have h3 : (mkB ∘ fun x : ByteArray => x.data.toList) = id := by funext x; rfl
    rw [h3, List.map_id]
    show Lib.splitB _ 0 (Lib.countB (mkB (s.data.toList.drop 1)) _) _ = _
    rw [h2]
    rfl
  · rw [if_neg ha]
    simp only [Bool.not_eq_true] at ha
    rw [ha]
    rfl
end Go.Proofs.YtmacnoajlofdbaaDoor.AL

/- Plain laws: the document's parts, and joins. -/
set_option linter.all false
namespace Go.Proofs.YtmacnoajlofdbaaDoor.AL
open Go Go.Proofs
end Go.Proofs.YtmacnoajlofdbaaDoor.AL

/- Plain laws: paths: split, cleaned, redirects, beginnings. -/
set_option linter.all false
namespace Go.Proofs.YtmacnoajlofdbaaDoor.AL
open Go Go.Proofs
theorem xou : ∀ l : List UInt8, (splitL l).length ≤ l.length + 1
  | [] => by simp [splitL]
  | b :: l => by
    have ih := xou l
    unfold splitL
    split
    · simp; omega
    · split
      · simp
      · rename_i h t e
        rw [e] at ih
        simp only [List.length_cons] at ih ⊢
        omega
theorem xev (s : ByteArray) : (partsP s).length ≤ s.size + 1 := by
  have := xou (s.data.toList.drop 1)
  have hb := bsize s
  unfold partsP
  simp only [List.length_map, List.length_drop] at this ⊢
  omega
def rootB : ByteArray := ⟨#[47]⟩
def splitP (s : ByteArray) : List ByteArray × Bool := if s = rootB then ([], true) else if absP s = true ∧ (partsP s).all rightP = true then (partsP s, true) else ([], false)
theorem xf3 {s : ByteArray} (hs : s.size ≤ 2000000) : xwh s = some (splitP s) := by
  have hl := xev s
  unfold xwh splitP
  rw [xj3 hs]
  simp only [Option.bind_some]
  by_cases h1 : s = rootB
  · have h1' : s = ByteArray.mk #[47] := h1
    rw [if_pos h1', if_pos h1]
  · have h1' : ¬ s = ByteArray.mk #[47] := h1
    rw [if_neg h1', if_neg h1]
    by_cases ha : absP s = true
    · rw [if_pos ha, if_neg (by simp), xqh (f := fun z => !rightP z) _ (fun z _ => by unfold x6f; rw [xzw]; rfl) (by show (partsP s).length < _; omega)]
      simp only [Option.bind_some]
      by_cases hr : (partsP s).all rightP = true
      · have : ¬ ((partsP s).any fun z => !rightP z) = true := by
          rw [List.all_eq_true] at hr
          simp only [List.any_eq_true, not_exists, not_and]
          intro x hx
          simp [hr x hx]
        rw [if_neg this, if_pos ⟨ha, hr⟩]
      · have : ((partsP s).any fun z => !rightP z) = true := by
          simp only [Bool.not_eq_true, List.all_eq_false] at hr
          obtain ⟨x, hx, hn⟩ := hr
          exact List.any_eq_true.2 ⟨x, hx, by simpa using hn⟩
        rw [if_pos this, if_neg (fun h => hr h.2)]
    · rw [if_neg ha, if_pos (by simp), if_neg (fun h => ha h.1)]
def redirP (s : ByteArray) : List ByteArray × Bool × Bool := if 24 < s.size then ([], false, false) else if absP s = true then ((splitP s).1, (splitP s).2, (splitP s).2) else if rightP s = true then ([s], false, true) else ([], false, false)
theorem xfy {s : ByteArray} (hs : s.size ≤ 2000000) : xkc s = some (redirP s) := by
  unfold xkc redirP xif
  by_cases h1 : 24 < s.size
  · rw [if_pos (by omega), if_pos h1]
  · rw [if_neg (by omega), if_neg h1]
    simp only [Option.bind_some]
    have hh : Lib.hasPrefix s.data.toList (ByteArray.mk #[47]).data.toList = absP s := rfl
    rw [hh]
    by_cases ha : absP s = true
    · rw [if_pos ha, if_pos ha, xf3 hs]; rfl
    · rw [if_neg ha, if_neg ha, xzw]
      simp only [Option.bind_some]
      by_cases hr : rightP s = true
      · rw [if_pos hr, if_pos hr]
      · rw [if_neg hr, if_neg hr]
end Go.Proofs.YtmacnoajlofdbaaDoor.AL

/- slices.Reverse, in place. -/
set_option linter.all false
namespace Go.Proofs.YtmacnoajlofdbaaDoor.AL
open Go Go.Proofs Go.RowKit
def revAC (S E : TypeId) : AC := (.seq (.region [⟨.move (.tmp 0), some 4, none⟩,
  ⟨.call (Go.Call.mk (.builtin .len) #[.tmp 4] #[S]), some 5, none⟩,
  ⟨.binOp .sub 3 (.tmp 5) (.const (Value.int .i64 1)) 3, some 6, none⟩,
  ⟨.assign (.const (Value.int .i64 0)), some 2, none⟩,
  ⟨.assign (.tmp 6), some 3, none⟩])
 (.block 0 (.loop (.seq (.seq (.region [⟨.move (.tmp 2), some 7, none⟩,
  ⟨.move (.tmp 3), some 8, none⟩,
  ⟨.binOp .lss 3 (.tmp 7) (.tmp 8) 3, some 9, none⟩])
 (.cond (.tmp 9) .skip
 (.exit 0)))
 (.seq (.block 1 (.draw [⟨.move (.tmp 0), some 14, none⟩,
  ⟨.move (.tmp 2), some 15, none⟩,
  ⟨.move (.tmp 0), some 16, none⟩,
  ⟨.move (.tmp 3), some 17, none⟩,
  ⟨.move (.tmp 0), some 18, none⟩,
  ⟨.move (.tmp 3), some 19, none⟩,
  ⟨.indexAddr S (.tmp 18) (.tmp 19), some 20, none⟩,
  ⟨.load E (.tmp 20), some 21, none⟩,
  ⟨.move (.tmp 0), some 22, none⟩,
  ⟨.move (.tmp 2), some 23, none⟩,
  ⟨.indexAddr S (.tmp 22) (.tmp 23), some 24, none⟩,
  ⟨.load E (.tmp 24), some 25, none⟩,
  ⟨.indexAddr S (.tmp 14) (.tmp 15), some 26, none⟩,
  ⟨.store E (.tmp 26) (.tmp 21), none, none⟩,
  ⟨.indexAddr S (.tmp 16) (.tmp 17), some 27, none⟩,
  ⟨.store E (.tmp 27) (.tmp 25), none, none⟩] [0, 0, 0, 0, 0, 0, 48, 112, 0, 0, 768, 1792, 4083, 8179, 16383, 32767] [false, false, false, false, false, false, false, true, false, false, false, true, false, true, false, true]))
 (.region [⟨.move (.tmp 2), some 10, none⟩,
  ⟨.binOp .add 3 (.tmp 10) (.const (Value.int .i64 1)) 3, some 11, none⟩,
  ⟨.move (.tmp 3), some 12, none⟩,
  ⟨.binOp .sub 3 (.tmp 12) (.const (Value.int .i64 1)) 3, some 13, none⟩,
  ⟨.assign (.tmp 11), some 2, none⟩,
  ⟨.assign (.tmp 13), some 3, none⟩]))))))
def revM {α : Type} (l : List α) : Option (List α) := (ck (l.length < 4611686018427387904)).bind fun _ => some l.reverse
theorem xr8 {α : Type} {l r : List α} (h : revM l = some r) : r.length = l.length := by
  obtain ⟨_, h⟩ := ckE h
  obtain rfl := Option.some.inj h
  simp
theorem rev_ok {α : Type} {P : Program} {g : FuncId} {S E n : Nat} {b : Bool} (hf : FnC P g 28 [] (revAC S E)) (hS : xy P S = some E) (hE : aggN P E = some (b, n)) (hmix : P.follows .mixedOrders = true) (enc : α → AV) (l r : List α) (hr : revM l = some r) (hx : ∀ x, closed (enc x) = true)
    (hld : ∀ x, evalLd P E (enc x) 0 = some (enc x)) (hst : ∀ x y, stAV (enc x) 0 (enc y) = some (enc y)) (hsz : ∀ x, xi (enc x) n = true) (q : Nat) : OkI P g q [.msl q l.length] (.tup []) E n (l.map enc) (r.map enc) := by
  unfold revM at hr
  obtain ⟨hlen, hr⟩ := ckE hr
  obtain rfl := Option.some.inj hr
  have i1 : ∀ (l len : Nat) (k : IntKind) (n' : Int), xdb P S (.msl l len) (.val (.int k n')) = if 0 ≤ n' ∧ n' < len then some (.loc l n n'.toNat 0) else none := fun l len k n' => xjf _ hS hE l len k n'
  have s1 : ∀ (V : Nat → Option AO) (l sz i off : Nat) (v : AV), xob P E V (.loc l sz i off) v = if xi v n = true then (rowT (V l) sz i).bind fun p => (stAV p.2.2 off v).map fun x' => [(l, some (.row p.1 sz (p.2.1.set i x')))] else none := fun V l sz i off v => x9b _ hE V l sz i off v
  have l1 : ∀ (l m : Nat), xzb P S (.msl l m) = some (int m) := fun l m => xmn _ hS l m
  refine ⟨xcb enc hx _, fun H nx hq hH => acallF hf (by simp) ?_⟩
  unfold revAC
  simp only [l1, EV, ↓EVd, isCall, sevalprocAttr]
  refine xwz (fun s => s.T 0 = .msl q l.length ∧ (∃ i : Nat, ∃ z : List α, s.T 2 = int i ∧ s.T 3 = int ((l.length : Int) - 1 - i) ∧ 2 * i ≤ l.length + 1 ∧ z.length = l.length ∧ s.H q = some (.row E n (z.map enc)) ∧ ∀ k, k < l.length → z[k]? = if k < i ∨ l.length - i ≤ k then l[l.length - 1 - k]? else l[k]?) ∧ nx ≤ s.nx ∧ ∀ j, j < nx → j ≠ q → s.H j = H j) (fun s => (iv (s.T 3) + 1).toNat) ?_ ?_
  · have w1 : IntKind.i64.wrap ((l.length : Int) - 1) = (l.length : Int) - 1 := Go.IntWalk.i64_in _ (by omega)
    simp only [w1, EV, ↓EVd, isCall, sevalprocAttr]
    refine ⟨⟨0, l, by simp, by simp, by omega, rfl, hH, fun k hk => by rw [if_neg (by omega)]⟩, by omega, fun j h1 h2 => trivial⟩
  · rintro ⟨T, H', nx'⟩ ⟨k0, ⟨i, z, k2, k3, k4, k5, k6, k7⟩, k8, k9⟩
    simp only at k0 k2 k3 k6 k8 k9
    apply cw_cwp
    have w1 : IntKind.i64.wrap ((i : Int) + 1) = ((i + 1 : Nat) : Int) := Go.IntWalk.i64_in _ (by omega)
    have w2 : IntKind.i64.wrap ((l.length : Int) - 1 - i - 1) = (l.length : Int) - 1 - ((i + 1 : Nat) : Int) := by rw [Go.IntWalk.i64_in _ (by omega)]; omega
    by_cases hc : (i : Int) < (l.length : Int) - 1 - i
    · have e1 : ((i : Int) < (l.length : Int) - 1 - i) = True := eq_true hc
      have e2 : ((0 : Int) ≤ (i : Int)) = True := eq_true (by omega)
      have e3 : ((i : Int) < (l.length : Int)) = True := eq_true (by omega)
      have e4 : ((0 : Int) ≤ (l.length : Int) - 1 - i) = True := eq_true (by omega)
      have e5 : ((l.length : Int) - 1 - i < (l.length : Int)) = True := eq_true (by omega)
      obtain ⟨j, hj⟩ : ∃ j : Nat, ((l.length : Int) - 1 - i).toNat = j := ⟨_, rfl⟩
      have hi0 : ((i : Int)).toNat = i := by omega
      have hjl : j < z.length := by omega
      have hil : i < z.length := by omega
      have hij : i ≠ j := by omega
      have z1 : (z.map enc)[j]? = some (enc z[j]) := by simp [hjl]
      have z2 : (z.map enc)[i]? = some (enc z[i]) := by simp [hil]
      have z3 : ((z.set i z[j]).map enc)[j]? = some (enc z[j]) := by rw [List.getElem?_map, List.getElem?_set_ne hij]; simp [hjl]
      have kq := lq (show q < nx' by omega)
      dsimp only [Lq] at kq
      have d1 := hld z[j]
      have d2 := hld z[i]
      have d3 := hst z[i] z[j]
      have d4 := hst z[j] z[i]
      have d5 := hsz z[j]
      have d6 := hsz z[i]
      simp only [i1, s1, kq, k0, k2, k3, k6, e1, e2, e3, e4, e5, hj, hi0, z1, z2, z3, d1, d2, d3, d4, d5, d6, w1, w2, hmix, EV, ↓EVd, isCall, sevalprocAttr]
      refine ⟨⟨⟨i + 1, (z.set i z[j]).set j z[i], by simp, by simp, by omega, by simp [k5], by simp, ?_⟩, by omega, ?_⟩, by omega⟩
      · intro k hk
        have hz1 : z[j]? = l[j]? := by rw [k7 j (by omega), if_neg (by omega)]
        have hz2 : z[i]? = l[i]? := by rw [k7 i (by omega), if_neg (by omega)]
        by_cases a1 : k = j
        · subst a1
          rw [List.getElem?_set_self (by simpa using hjl), if_pos (by omega), show l.length - 1 - k = i by omega, ← hz2, List.getElem?_eq_getElem hil]
        · rw [List.getElem?_set_ne (Ne.symm a1)]
          by_cases a2 : k = i
          · subst a2
            rw [List.getElem?_set_self hil, if_pos (by omega), show l.length - 1 - k = j by omega, ← hz1, List.getElem?_eq_getElem hjl]
          · rw [List.getElem?_set_ne (Ne.symm a2), k7 k hk]
            by_cases a3 : k < i ∨ l.length - i ≤ k
            · rw [if_pos a3, if_pos (by omega)]
            · rw [if_neg a3, if_neg (by omega)]
      · intro j' h1 h2
        simp only [upd_at, if_neg h2]
        exact k9 j' h1 h2
    · have e1 : ((i : Int) < (l.length : Int) - 1 - i) = False := eq_false hc
      simp only [k0, k2, k3, e1, EV, ↓EVd, isCall, sevalprocAttr]
      refine ⟨?_, k9⟩
      rw [k6]
      congr 2
      congr 1
      refine List.ext_getElem? fun k => ?_
      by_cases hk : k < l.length
      · rw [k7 k hk, List.getElem?_reverse hk]
        by_cases a3 : k < i ∨ l.length - i ≤ k
        · rw [if_pos a3]
        · rw [if_neg a3, show l.length - 1 - k = k by omega]
      · rw [List.getElem?_eq_none (by omega), List.getElem?_eq_none (by simp; omega)]
end Go.Proofs.YtmacnoajlofdbaaDoor.AL

