/- A law of the given program is proved: part 42 of 50. -/
import Derived.Laws.RangeAny
import Derived.Lib.SplitLaws
import Derived.Lib.Join
import Derived.Test.YtapdjibjnfeipaaGreatDoorC41
set_option linter.all false
/- Models of functions, and that the functions are as their models: written by gen.py. -/
set_option linter.all false
set_option maxRecDepth 100000
namespace Go.Proofs.YtapdjibjnfeipaaGreatDoor.AL
open Go Go.Proofs
def m_lower_pile_node (a0 : List Branch) (a1 : Place) : Option (Node) := if a1.layer < 1 then some (⟨0, 0, 0, 0, [], [], (⟨0, 0, noBytes, (⟨0, 0, 0⟩ : Origin), 0⟩ : Attr)⟩ : Node)
 else if (a0.length : Int) < a1.layer then some (⟨0, 0, 0, 0, [], [], (⟨0, 0, noBytes, (⟨0, 0, 0⟩ : Origin), 0⟩ : Attr)⟩ : Node)
 else (ix a0 (wr (a1.layer - 1))).bind fun v5 => if a1.ino < 1 then some (⟨0, 0, 0, 0, [], [], (⟨0, 0, noBytes, (⟨0, 0, 0⟩ : Origin), 0⟩ : Attr)⟩ : Node)
 else if (v5.nodes.length : Int) < a1.ino then some (⟨0, 0, 0, 0, [], [], (⟨0, 0, noBytes, (⟨0, 0, 0⟩ : Origin), 0⟩ : Attr)⟩ : Node)
 else (ix v5.nodes (wr (a1.ino - 1))).bind fun v12 => some v12
def Y_lower_pile_node := And.intro (And.intro (And.intro ((@EV)) (And.intro ((@R3)) ((@R24)))) (And.intro ((@R26)) (And.intro ((@R45)) ((@R68))))) (And.intro (And.intro ((@R106)) (And.intro ((@DBranch)) ((@DPlace)))) (And.intro (And.intro ((@DEntry)) ((@DOrigin))) (And.intro ((@DAttr)) ((@DNode)))))
set_option maxHeartbeats 2000000 in
theorem ok_lower_pile_node (a0 : List Branch) (a1 : Place) (r : Node) (hm0 : m_lower_pile_node a0 a1 = some r) : Ok Tryz.prog 86 [.sl 1 (a0.map encBranch), encPlace a1] (encNode r) := by
 unfold m_lower_pile_node at hm0
 refine okG fc_lower_pile_node ?_
 unfold c_lower_pile_node
 rcases iteE hm0 with ⟨e2, hm0⟩ | ⟨e2, hm0⟩
 · obtain rfl := Option.some.inj hm0
   simp only [e2, Y_lower_pile_node, ↓EVd, isCall, sevalprocAttr]
   all_goals first | done | rfl | exact frzR_closed (by simp only [CLO]) | exact frzR_sub (by simp only [CLO]) (Sub.agg (Subs.cons (Sub.refl _) (Subs.cons (Sub.refl _) (Subs.cons (Sub.refl _) (Subs.cons (Sub.refl _) (Subs.cons (Sub.nilS _) (Subs.cons (Sub.nilS _) (Subs.cons (Sub.refl _) (Subs.cons (Sub.refl _) (Subs.cons (Sub.refl _) (Subs.cons (Sub.refl _) (Subs.cons (Sub.refl _) (Subs.cons (Sub.refl _) (Subs.cons (Sub.refl _) (Subs.nil)))))))))))))))
 rcases iteE hm0 with ⟨e4, hm0⟩ | ⟨e4, hm0⟩
 · obtain rfl := Option.some.inj hm0
   simp only [e2, e4, Y_lower_pile_node, ↓EVd, isCall, sevalprocAttr]
   all_goals first | done | rfl | exact frzR_closed (by simp only [CLO]) | exact frzR_sub (by simp only [CLO]) (Sub.agg (Subs.cons (Sub.refl _) (Subs.cons (Sub.refl _) (Subs.cons (Sub.refl _) (Subs.cons (Sub.refl _) (Subs.cons (Sub.nilS _) (Subs.cons (Sub.nilS _) (Subs.cons (Sub.refl _) (Subs.cons (Sub.refl _) (Subs.cons (Sub.refl _) (Subs.cons (Sub.refl _) (Subs.cons (Sub.refl _) (Subs.cons (Sub.refl _) (Subs.cons (Sub.refl _) (Subs.nil)))))))))))))))
 obtain ⟨v5, e7, hm0⟩ := ixE encBranch hm0
 rcases iteE hm0 with ⟨e9, hm0⟩ | ⟨e9, hm0⟩
 · obtain rfl := Option.some.inj hm0
   simp only [e2, e4, e7, e9, Y_lower_pile_node, ↓EVd, isCall, sevalprocAttr]
   all_goals first | done | rfl | exact frzR_closed (by simp only [CLO]) | exact frzR_sub (by simp only [CLO]) (Sub.agg (Subs.cons (Sub.refl _) (Subs.cons (Sub.refl _) (Subs.cons (Sub.refl _) (Subs.cons (Sub.refl _) (Subs.cons (Sub.nilS _) (Subs.cons (Sub.nilS _) (Subs.cons (Sub.refl _) (Subs.cons (Sub.refl _) (Subs.cons (Sub.refl _) (Subs.cons (Sub.refl _) (Subs.cons (Sub.refl _) (Subs.cons (Sub.refl _) (Subs.cons (Sub.refl _) (Subs.nil)))))))))))))))
 rcases iteE hm0 with ⟨e11, hm0⟩ | ⟨e11, hm0⟩
 · obtain rfl := Option.some.inj hm0
   simp only [e2, e4, e7, e9, e11, Y_lower_pile_node, ↓EVd, isCall, sevalprocAttr]
   all_goals first | done | rfl | exact frzR_closed (by simp only [CLO]) | exact frzR_sub (by simp only [CLO]) (Sub.agg (Subs.cons (Sub.refl _) (Subs.cons (Sub.refl _) (Subs.cons (Sub.refl _) (Subs.cons (Sub.refl _) (Subs.cons (Sub.nilS _) (Subs.cons (Sub.nilS _) (Subs.cons (Sub.refl _) (Subs.cons (Sub.refl _) (Subs.cons (Sub.refl _) (Subs.cons (Sub.refl _) (Subs.cons (Sub.refl _) (Subs.cons (Sub.refl _) (Subs.cons (Sub.refl _) (Subs.nil)))))))))))))))
 obtain ⟨v12, e14, hm0⟩ := ixE encNode hm0
 obtain rfl := Option.some.inj hm0
 simp only [e2, e4, e7, e9, e11, e14, Y_lower_pile_node, ↓EVd, isCall, sevalprocAttr]
 all_goals first | done | rfl | exact frzR_closed (by simp only [CLO])
def m_lower_opaque (a0 : Node) : Option (Bool) := if 0 ≤ a0.attr.has then if (bAnd .i64 a0.attr.has 1) = 0 then some false
 else if a0.attr.opaque0 = 121 then some true
 else some false
 else some false
def Y_lower_opaque := And.intro (And.intro (And.intro ((@EV)) ((@R3))) (And.intro ((@R66)) ((@R68)))) (And.intro (And.intro ((@DEntry)) ((@DOrigin))) (And.intro ((@DAttr)) ((@DNode))))
set_option maxHeartbeats 2000000 in
theorem ok_lower_opaque (a0 : Node) (r : Bool) (hm0 : m_lower_opaque a0 = some r) : Ok Tryz.prog 67 [encNode a0] (bool r) := by
 unfold m_lower_opaque at hm0
 refine okG fc_lower_opaque ?_
 unfold c_lower_opaque
 rcases iteE hm0 with ⟨e2, hm0⟩ | ⟨e2, hm0⟩
 · rcases iteE hm0 with ⟨e4, hm0⟩ | ⟨e4, hm0⟩
   · obtain rfl := Option.some.inj hm0
     simp only [e2, e4, Y_lower_opaque, ↓EVd, isCall, sevalprocAttr]
     all_goals first | done | rfl
   rcases iteE hm0 with ⟨e6, hm0⟩ | ⟨e6, hm0⟩
   · obtain rfl := Option.some.inj hm0
     simp only [e2, e4, e6, Y_lower_opaque, ↓EVd, isCall, sevalprocAttr]
     all_goals first | done | rfl
   obtain rfl := Option.some.inj hm0
   simp only [e2, e4, e6, Y_lower_opaque, ↓EVd, isCall, sevalprocAttr]
   all_goals first | done | rfl
 obtain rfl := Option.some.inj hm0
 simp only [e2, Y_lower_opaque, ↓EVd, isCall, sevalprocAttr]
 all_goals first | done | rfl
def m_lower_pile_entry_b0 (a0 : List Branch) (a1 : Place) (a2 : ByteArray) (v1 : Node) : Int → Option (St (Int) ((Unit) ⊕ (Place × Node)))
 | v6 => if v6 < (v1.entries.length : Int) then (ix v1.entries v6).bind fun v10 => (m_lower_pile_node a0 (⟨a1.layer, v10.ino⟩ : Place)).bind fun v14 => if v10.name = a2 then if v14.kind = 0 then some (.nx (wr (v6 + 1)))
 else some (.out (.inr ((⟨a1.layer, v10.ino⟩ : Place), v14)))
 else some (.nx (wr (v6 + 1)))
 else some (.out (.inl ()))
def m_lower_pile_entry (a0 : List Branch) (a1 : Place) (a2 : ByteArray) : Option (Place × Node) := (m_lower_pile_node a0 a1).bind fun v1 => if v1.kind = 1 then (iter (m_lower_pile_entry_b0 a0 a1 a2 v1) big 0).bind fun o => (match o with
 | (.inl _) => some ((⟨0, 0⟩ : Place), (⟨0, 0, 0, 0, [], [], (⟨0, 0, noBytes, (⟨0, 0, 0⟩ : Origin), 0⟩ : Attr)⟩ : Node))
 | (.inr r) => some r)
 else some ((⟨0, 0⟩ : Place), (⟨0, 0, 0, 0, [], [], (⟨0, 0, noBytes, (⟨0, 0, 0⟩ : Origin), 0⟩ : Attr)⟩ : Node))
def Y_lower_pile_entry := And.intro (And.intro (And.intro (And.intro ((@EV)) ((@R3))) (And.intro ((@R9)) ((@R26)))) (And.intro (And.intro ((@R45)) ((@R55))) (And.intro ((@R62)) ((@R68))))) (And.intro (And.intro (And.intro ((@R106)) ((@DBranch))) (And.intro ((@DPlace)) ((@DEntry)))) (And.intro (And.intro ((@DOrigin)) ((@DAttr))) (And.intro ((@DNode)) ((@mixed)))))
set_option maxHeartbeats 2000000 in
theorem ok_lower_pile_entry (a0 : List Branch) (a1 : Place) (a2 : ByteArray) (r : Place × Node) (hm0 : m_lower_pile_entry a0 a1 a2 = some r) : Ok Tryz.prog 66 [.sl 1 (a0.map encBranch), encPlace a1, str a2] (.tup [encPlace r.1, encNode r.2]) := by
 unfold m_lower_pile_entry at hm0
 refine okG fc_lower_pile_entry ?_
 unfold c_lower_pile_entry
 obtain ⟨v1, h2, hm0⟩ := bsE hm0
 simp only [Y_lower_pile_entry, ↓EVd, isCall, sevalprocAttr]
 refine qc (ok_lower_pile_node _ _ _ h2) rfl ?_
 rcases iteE hm0 with ⟨e4, hm0⟩ | ⟨e4, hm0⟩
 · obtain ⟨o0, ho0, hm0⟩ := bsE hm0
   simp only [e4, Y_lower_pile_entry, ↓EVd, isCall, sevalprocAttr]
   refine cwp_cx 0 (fun s => (s.T 6 = .loc 1 2 0 0 ∧ s.T 7 = .loc 2 13 0 0 ∧ s.H 1 = some (.row 45 2 [.agg [int 0, int 0]]) ∧ s.H 2 = some (.row 68 13 [.agg [int 0, int 0, int 0, int 0, nilS, nilS, int 0, int 0, str noBytes, int 0, int 0, int 0, int 0]]) ∧ Lq 1 s.nx ∧ Lq 2 s.nx) ∧ (.inl ()) = o0) ?_ fun J0_0 hJ0_0 => ?_
   · rintro T0 H0 x7 ⟨kk0_0, rfl⟩
     dsimp only [Lq, Nq] at kk0_0
     try dsimp only at hm0
     have e20 : (.agg [int 0, int 0] : AV) = encPlace (⟨0, 0⟩ : Place) := _root_.id rfl
     obtain rfl := Option.some.inj hm0
     simp only [kk0_0, e4, e20, Y_lower_pile_entry, ↓EVd, isCall, sevalprocAttr]
     all_goals first | done | rfl | exact frzR_closed (by simp only [CLO]) | exact frzR_sub (by simp only [CLO]) (Sub.tup (Subs.cons (Sub.refl _) (Subs.cons (Sub.agg (Subs.cons (Sub.refl _) (Subs.cons (Sub.refl _) (Subs.cons (Sub.refl _) (Subs.cons (Sub.refl _) (Subs.cons (Sub.nilS _) (Subs.cons (Sub.nilS _) (Subs.cons (Sub.refl _) (Subs.cons (Sub.refl _) (Subs.cons (Sub.refl _) (Subs.cons (Sub.refl _) (Subs.cons (Sub.refl _) (Subs.cons (Sub.refl _) (Subs.cons (Sub.refl _) (Subs.nil))))))))))))))) (Subs.nil))))
   refine cwp_lp ho0 (fun v6 s => s.T 0 = .sl 1 (a0.map encBranch) ∧ s.T 2 = str a2 ∧ s.T 4 = .loc 0 2 0 0 ∧ s.T 6 = .loc 1 2 0 0 ∧ s.T 7 = .loc 2 13 0 0 ∧ s.T 22 = .sl 3 (v1.entries.map encEntry) ∧ s.T 23 = int (v1.entries.length : Int) ∧ s.T 24 = int v6 ∧ s.H 0 = some (.row 45 2 [encPlace a1]) ∧ s.H 1 = some (.row 45 2 [.agg [int 0, int 0]]) ∧ s.H 2 = some (.row 68 13 [.agg [int 0, int 0, int 0, int 0, nilS, nilS, int 0, int 0, str noBytes, int 0, int 0, int 0, int 0]]) ∧ Lq 0 s.nx ∧ Lq 1 s.nx ∧ Lq 2 s.nx) ?_ ?_
   · refine TI.here ⟨?_, ?_, ?_, ?_, ?_, ?_, ?_, ?_, ?_, ?_, ?_, ?_, ?_, ?_⟩
     all_goals try simp only [e4, Y_lower_pile_entry, ↓EVd, isCall, sevalprocAttr]
     all_goals first | omega | exact lq (by omega) | exact nq (by omega) | rfl | (congr 1; omega)
   rintro I0 v6 T0 H0 x5 st0 kk0 hm1 hI0 hO0
   dsimp only [Lq, Nq] at kk0
   simp only [m_lower_pile_entry_b0] at hm1
   rcases iteE hm1 with ⟨e9, hm1⟩ | ⟨e9, hm1⟩
   · obtain ⟨v10, e12, hm1⟩ := ixE encEntry hm1
     have e13 : (.agg [int a1.layer, int v10.ino] : AV) = encPlace (⟨a1.layer, v10.ino⟩ : Place) := _root_.id rfl
     obtain ⟨v14, h15, hm1⟩ := bsE hm1
     simp only [kk0, e4, e9, e12, e13, Y_lower_pile_entry, ↓EVd, isCall, sevalprocAttr]
     refine qc (ok_lower_pile_node _ _ _ h15) rfl ?_
     rcases iteE hm1 with ⟨e17, hm1⟩ | ⟨e17, hm1⟩
     · rcases iteE hm1 with ⟨e19, hm1⟩ | ⟨e19, hm1⟩
       · obtain rfl := Option.some.inj hm1
         simp only [kk0, e4, e9, e12, e13, e17, e19, Y_lower_pile_entry, ↓EVd, isCall, sevalprocAttr]
         refine TI.here (hI0 _ rfl _ ⟨?_, ?_, ?_, ?_, ?_, ?_, ?_, ?_, ?_, ?_, ?_, ?_, ?_, ?_⟩)
         all_goals try simp only [kk0, e4, e9, e12, e13, e17, e19, Y_lower_pile_entry, ↓EVd, isCall, sevalprocAttr]
         all_goals first | omega | exact lq (by omega) | exact nq (by omega) | rfl | (congr 1; omega)
       simp only [kk0, e4, e9, e12, e13, e17, e19, Y_lower_pile_entry, ↓EVd, isCall, sevalprocAttr]
       refine fineI [([(x5 + 10)], []), ([(x5 + 15)], []), ([], [1]), ([], [2])] rfl (by simp only [MT, sevalprocAttr]; first | done | omega) ?_
       obtain rfl := Option.some.inj hm1
       obtain rfl := hO0 _ rfl
       try dsimp only at hm0
       obtain rfl := Option.some.inj hm0
       simp only [kk0, e4, e9, e12, e13, e17, e19, Y_lower_pile_entry, ↓EVd, isCall, sevalprocAttr]
       all_goals first | done | rfl | exact frzR_closed (by simp only [CLO]) | exact frzR_sub (by simp only [CLO]) (Sub.tup (Subs.cons (Sub.refl _) (Subs.cons (Sub.refl _) (Subs.nil))))
     obtain rfl := Option.some.inj hm1
     simp only [kk0, e4, e9, e12, e13, e17, Y_lower_pile_entry, ↓EVd, isCall, sevalprocAttr]
     refine TI.here (hI0 _ rfl _ ⟨?_, ?_, ?_, ?_, ?_, ?_, ?_, ?_, ?_, ?_, ?_, ?_, ?_, ?_⟩)
     all_goals try simp only [kk0, e4, e9, e12, e13, e17, Y_lower_pile_entry, ↓EVd, isCall, sevalprocAttr]
     all_goals first | omega | exact lq (by omega) | exact nq (by omega) | rfl | (congr 1; omega)
   obtain rfl := Option.some.inj hm1
   simp only [kk0, e4, e9, Y_lower_pile_entry, ↓EVd, isCall, sevalprocAttr]
   refine TI.here (hJ0_0 _ ⟨⟨?_, ?_, ?_, ?_, ?_, ?_⟩, hO0 _ rfl⟩)
   all_goals try simp only [kk0, e4, e9, Y_lower_pile_entry, ↓EVd, isCall, sevalprocAttr]
   all_goals first | omega | exact lq (by omega) | exact nq (by omega) | rfl | (congr 1; omega)
 have e21 : (.agg [int 0, int 0] : AV) = encPlace (⟨0, 0⟩ : Place) := _root_.id rfl
 obtain rfl := Option.some.inj hm0
 simp only [e4, e21, Y_lower_pile_entry, ↓EVd, isCall, sevalprocAttr]
 all_goals first | done | rfl | exact frzR_closed (by simp only [CLO]) | exact frzR_sub (by simp only [CLO]) (Sub.tup (Subs.cons (Sub.refl _) (Subs.cons (Sub.agg (Subs.cons (Sub.refl _) (Subs.cons (Sub.refl _) (Subs.cons (Sub.refl _) (Subs.cons (Sub.refl _) (Subs.cons (Sub.nilS _) (Subs.cons (Sub.nilS _) (Subs.cons (Sub.refl _) (Subs.cons (Sub.refl _) (Subs.cons (Sub.refl _) (Subs.cons (Sub.refl _) (Subs.cons (Sub.refl _) (Subs.cons (Sub.refl _) (Subs.cons (Sub.refl _) (Subs.nil))))))))))))))) (Subs.nil))))
def m_lower_Find_b1 (a0 : Stack) (a1 : List Place) (a2 : ByteArray) : (List Place × Int) → Option (St (List Place × Int) ((List Place) ⊕ ((List Place) ⊕ (Int × List Place))))
 | (v3, v4) => if v4 < (a1.length : Int) then (ix a1 v4).bind fun v13 => (m_lower_pile_entry a0.lowers v13 a2).bind fun v16 => if v16.2.kind = 0 then some (.nx (v3, (wr (v4 + 1))))
 else if v16.2.kind = 1 then (ap 16 v3 ([v16.1] : List Place)).bind fun _ => (m_lower_opaque v16.2).bind fun v26 => if (!v26) = true then some (.nx ((v3 ++ ([v16.1] : List Place)), (wr (v4 + 1))))
 else some (.out (.inr (.inl (v3 ++ ([v16.1] : List Place)))))
 else if v16.2.kind = 2 then if (v3.length : Int) = 0 then some (.out (.inr (.inr (v16.2.kind, ([v16.1] : List Place)))))
 else some (.out (.inr (.inl v3)))
 else if v16.2.kind = 3 then if (v3.length : Int) = 0 then some (.out (.inr (.inr (v16.2.kind, ([v16.1] : List Place)))))
 else some (.out (.inr (.inl v3)))
 else some (.out (.inr (.inl v3)))
 else some (.out (.inl v3))
def m_lower_Find (a0 : Stack) (a1 : List Place) (a2 : ByteArray) : Option (Int × List Place) := (iter (m_lower_Find_b1 a0 a1 a2) big ([], 0)).bind fun o => (match o with
 | (.inl v7) => if (v7.length : Int) = 0 then some (0, [])
 else some (1, v7)
 | (.inr (.inl v10)) => if (v10.length : Int) = 0 then some (0, [])
 else some (1, v10)
 | (.inr (.inr r)) => some r)
def Y_lower_Find := And.intro (And.intro (And.intro (And.intro ((@EV)) ((@R3))) (And.intro ((@R9)) ((@R26)))) (And.intro (And.intro ((@R27)) ((@R29))) (And.intro ((@R30)) (And.intro ((@R45)) ((@R68)))))) (And.intro (And.intro (And.intro ((@R106)) ((@DGeo))) (And.intro ((@DBranch)) (And.intro ((@DStack)) ((@DPlace))))) (And.intro (And.intro ((@DEntry)) ((@DOrigin))) (And.intro ((@DAttr)) (And.intro ((@DNode)) ((@mixed))))))
set_option maxHeartbeats 2000000 in
theorem ok_lower_Find (a0 : Stack) (a1 : List Place) (a2 : ByteArray) (r : Int × List Place) (hm0 : m_lower_Find a0 a1 a2 = some r) : Ok Tryz.prog 31 [encStack a0, .sl 2 (a1.map encPlace), str a2] (.tup [int r.1, .sl 2 (r.2.map encPlace)]) := by
 unfold m_lower_Find at hm0
 refine okG fc_lower_Find ?_
 unfold c_lower_Find
 simp only [Y_lower_Find, ↓EVd, isCall, sevalprocAttr]
 refine cwp_fwd 0 rfl ?_
 intro F0 hF0
 obtain ⟨o1, ho1, hm0⟩ := bsE hm0
 simp only [Y_lower_Find, ↓EVd, isCall, sevalprocAttr]
 refine cwp_cx 0 (fun s => ∃ v7 : List Place, ∃ l6 : Nat, (s.T 9 = .msl l6 v7.length ∧ s.H l6 = some (.row 45 2 (v7.map encPlace)) ∧ Lq l6 s.nx) ∧ (.inl v7) = o1) ?_ fun J1_0 hJ1_0 => ?_
 · rintro T1 H1 x5 ⟨v7, l6, kk1_0, rfl⟩
   dsimp only [Lq, Nq] at kk1_0
   try dsimp only at hm0
   rcases iteE hm0 with ⟨e39, hm0⟩ | ⟨e39, hm0⟩
   · obtain rfl := Option.some.inj hm0
     simp only [kk1_0, e39, Y_lower_Find, ↓EVd, isCall, sevalprocAttr]
     all_goals first | done | rfl | exact frzR_closed (by simp only [CLO]) | exact frzR_sub (by simp only [CLO]) (Sub.tup (Subs.cons (Sub.refl _) (Subs.cons (Sub.nilS _) (Subs.nil))))
   obtain rfl := Option.some.inj hm0
   simp only [kk1_0, e39, Y_lower_Find, ↓EVd, isCall, sevalprocAttr]
   all_goals first | done | rfl | exact frzR_of 9 (by simp only [kk1_0, e39, FZ, CLO, Y_lower_Find, ↓EVd, isCall, sevalprocAttr]) (Sub.tup (Subs.cons (Sub.refl _) (Subs.cons (Sub.refl _) (Subs.nil))))
 refine cwp_cg 0 (fun s => ∃ v10 : List Place, ∃ l9 : Nat, (s.T 9 = .msl l9 v10.length ∧ s.H l9 = some (.row 45 2 (v10.map encPlace)) ∧ Lq l9 s.nx) ∧ (.inr (.inl v10)) = o1) ?_ fun J1_1 hJ1_1 => ?_
 · rintro T1 H1 x8 ⟨v10, l9, kk1_1, rfl⟩
   dsimp only [Lq, Nq] at kk1_1
   try dsimp only at hm0
   simp only [kk1_1, Y_lower_Find, ↓EVd, isCall, sevalprocAttr]
   refine hF0 _ ?_
   rcases iteE hm0 with ⟨e41, hm0⟩ | ⟨e41, hm0⟩
   · obtain rfl := Option.some.inj hm0
     simp only [kk1_1, e41, Y_lower_Find, ↓EVd, isCall, sevalprocAttr]
     all_goals first | done | rfl | exact frzR_closed (by simp only [CLO]) | exact frzR_sub (by simp only [CLO]) (Sub.tup (Subs.cons (Sub.refl _) (Subs.cons (Sub.nilS _) (Subs.nil))))
   obtain rfl := Option.some.inj hm0
   simp only [kk1_1, e41, Y_lower_Find, ↓EVd, isCall, sevalprocAttr]
   all_goals first | done | rfl | exact frzR_of 9 (by simp only [kk1_1, e41, FZ, CLO, Y_lower_Find, ↓EVd, isCall, sevalprocAttr]) (Sub.tup (Subs.cons (Sub.refl _) (Subs.cons (Sub.refl _) (Subs.nil))))
 refine cwp_lp ho1 (fun (v3, v4) s => ∃ l2 : Nat, s.T 2 = str a2 ∧ s.T 8 = .sl 1 (a0.lowers.map encBranch) ∧ s.T 9 = .msl l2 v3.length ∧ s.T 16 = .sl 2 (a1.map encPlace) ∧ s.T 17 = int (a1.length : Int) ∧ s.T 18 = int v4 ∧ s.H l2 = some (.row 45 2 (v3.map encPlace)) ∧ Lq l2 s.nx) ?_ ?_
 · refine TI.by (Tn.adopt 9 45 2 (by simp only [Y_lower_Find, ↓EVd, isCall, sevalprocAttr])) ?_
   refine TI.here ⟨10, ?_, ?_, ?_, ?_, ?_, ?_, ?_, ?_⟩
   all_goals try simp only [Y_lower_Find, ↓EVd, isCall, sevalprocAttr]
   all_goals first | omega | exact lq (by omega) | exact nq (by omega) | rfl | (congr 1; omega)
 rintro I1 ⟨v3, v4⟩ T1 H1 x1 st1 ⟨l2, kk1⟩ hm1 hI1 hO1
 dsimp only [Lq, Nq] at kk1
 simp only [m_lower_Find_b1] at hm1
 rcases iteE hm1 with ⟨e12, hm1⟩ | ⟨e12, hm1⟩
 · obtain ⟨v13, e15, hm1⟩ := ixE encPlace hm1
   obtain ⟨v16, h17, hm1⟩ := bsE hm1
   simp only [kk1, e12, e15, Y_lower_Find, ↓EVd, isCall, sevalprocAttr]
   refine qc (ok_lower_pile_entry _ _ _ _ h17) rfl ?_
   rcases iteE hm1 with ⟨e19, hm1⟩ | ⟨e19, hm1⟩
   · obtain rfl := Option.some.inj hm1
     simp only [kk1, e12, e15, e19, Y_lower_Find, ↓EVd, isCall, sevalprocAttr]
     refine TI.here (hI1 _ rfl _ ⟨l2, ?_, ?_, ?_, ?_, ?_, ?_, ?_, ?_⟩)
     all_goals try simp only [kk1, e12, e15, e19, Y_lower_Find, ↓EVd, isCall, sevalprocAttr]
     all_goals first | omega | exact lq (by omega) | exact nq (by omega) | rfl | (congr 1; omega)
   rcases iteE hm1 with ⟨e21, hm1⟩ | ⟨e21, hm1⟩
   · obtain ⟨e24, hm1⟩ := apE hm1
     try simp only [ZL] at e24
     obtain ⟨v26, h27, hm1⟩ := bsE hm1
     simp only [kk1, e12, e15, e19, e21, e24, Y_lower_Find, ↓EVd, isCall, sevalprocAttr]
     refine qc (ok_lower_opaque _ _ h27) rfl ?_
     rcases itbE hm1 with ⟨e29, hm1⟩ | ⟨e29, hm1⟩
     · obtain rfl := Option.some.inj hm1
       simp only [kk1, e12, e15, e19, e21, e24, e29, Y_lower_Find, ↓EVd, isCall, sevalprocAttr]
       refine TI.here (hI1 _ rfl _ ⟨(x1 + 25), ?_, ?_, ?_, ?_, ?_, ?_, ?_, ?_⟩)
       all_goals try simp only [kk1, e12, e15, e19, e21, e24, e29, Y_lower_Find, ↓EVd, isCall, sevalprocAttr]
       all_goals first | omega | exact lq (by omega) | exact nq (by omega) | rfl | (congr 1; omega)
     obtain rfl := Option.some.inj hm1
     simp only [kk1, e12, e15, e19, e21, e24, e29, Y_lower_Find, ↓EVd, isCall, sevalprocAttr]
     refine TI.here (hJ1_1 _ ⟨(v3 ++ ([v16.1] : List Place)), (x1 + 25), ⟨?_, ?_, ?_⟩, hO1 _ rfl⟩)
     all_goals try simp only [kk1, e12, e15, e19, e21, e24, e29, Y_lower_Find, ↓EVd, isCall, sevalprocAttr]
     all_goals first | omega | exact lq (by omega) | exact nq (by omega) | rfl | (congr 1; omega)
   rcases iteE hm1 with ⟨e31, hm1⟩ | ⟨e31, hm1⟩
   · rcases iteE hm1 with ⟨e33, hm1⟩ | ⟨e33, hm1⟩
     · obtain rfl := Option.some.inj hm1
       obtain rfl := hO1 _ rfl
       try dsimp only at hm0
       obtain rfl := Option.some.inj hm0
       simp only [kk1, e12, e15, e19, e21, e31, e33, Y_lower_Find, ↓EVd, isCall, sevalprocAttr]
       all_goals first | done | rfl | exact frzR_of 9 (by simp only [kk1, e12, e15, e19, e21, e31, e33, FZ, CLO, Y_lower_Find, ↓EVd, isCall, sevalprocAttr]) (Sub.tup (Subs.cons (Sub.refl _) (Subs.cons (Sub.refl _) (Subs.nil))))
     obtain rfl := Option.some.inj hm1
     simp only [kk1, e12, e15, e19, e21, e31, e33, Y_lower_Find, ↓EVd, isCall, sevalprocAttr]
     refine TI.here (hJ1_1 _ ⟨v3, l2, ⟨?_, ?_, ?_⟩, hO1 _ rfl⟩)
     all_goals try simp only [kk1, e12, e15, e19, e21, e31, e33, Y_lower_Find, ↓EVd, isCall, sevalprocAttr]
     all_goals first | omega | exact lq (by omega) | exact nq (by omega) | rfl | (congr 1; omega)
   rcases iteE hm1 with ⟨e35, hm1⟩ | ⟨e35, hm1⟩
   · rcases iteE hm1 with ⟨e37, hm1⟩ | ⟨e37, hm1⟩
     · obtain rfl := Option.some.inj hm1
       obtain rfl := hO1 _ rfl
       try dsimp only at hm0
       obtain rfl := Option.some.inj hm0
       simp only [kk1, e12, e15, e19, e21, e31, e35, e37, Y_lower_Find, ↓EVd, isCall, sevalprocAttr]
       all_goals first | done | rfl | exact frzR_of 9 (by simp only [kk1, e12, e15, e19, e21, e31, e35, e37, FZ, CLO, Y_lower_Find, ↓EVd, isCall, sevalprocAttr]) (Sub.tup (Subs.cons (Sub.refl _) (Subs.cons (Sub.refl _) (Subs.nil))))
     obtain rfl := Option.some.inj hm1
     simp only [kk1, e12, e15, e19, e21, e31, e35, e37, Y_lower_Find, ↓EVd, isCall, sevalprocAttr]
     refine TI.here (hJ1_1 _ ⟨v3, l2, ⟨?_, ?_, ?_⟩, hO1 _ rfl⟩)
     all_goals try simp only [kk1, e12, e15, e19, e21, e31, e35, e37, Y_lower_Find, ↓EVd, isCall, sevalprocAttr]
     all_goals first | omega | exact lq (by omega) | exact nq (by omega) | rfl | (congr 1; omega)
   obtain rfl := Option.some.inj hm1
   simp only [kk1, e12, e15, e19, e21, e31, e35, Y_lower_Find, ↓EVd, isCall, sevalprocAttr]
   refine TI.here (hJ1_1 _ ⟨v3, l2, ⟨?_, ?_, ?_⟩, hO1 _ rfl⟩)
   all_goals try simp only [kk1, e12, e15, e19, e21, e31, e35, Y_lower_Find, ↓EVd, isCall, sevalprocAttr]
   all_goals first | omega | exact lq (by omega) | exact nq (by omega) | rfl | (congr 1; omega)
 obtain rfl := Option.some.inj hm1
 simp only [kk1, e12, Y_lower_Find, ↓EVd, isCall, sevalprocAttr]
 refine TI.here (hJ1_0 _ ⟨v3, l2, ⟨?_, ?_, ?_⟩, hO1 _ rfl⟩)
 all_goals try simp only [kk1, e12, Y_lower_Find, ↓EVd, isCall, sevalprocAttr]
 all_goals first | omega | exact lq (by omega) | exact nq (by omega) | rfl | (congr 1; omega)
def m_lower_Look_b0 (a0 : Stack) (a2 : List ByteArray) : (List Place × Int) → Option (St (List Place × Int) ((List Place) ⊕ (List Place × Bool)))
 | (v4, v5) => if v5 < (a2.length : Int) then (ix a2 v5).bind fun v10 => (m_lower_Find a0 v4 v10).bind fun v13 => if v13.1 = 1 then some (.nx (v13.2, (wr (v5 + 1))))
 else some (.out (.inr ([], false)))
 else some (.out (.inl v4))
def m_lower_Look (a0 : Stack) (a1 : List Place) (a2 : List ByteArray) : Option (List Place × Bool) := (cloneM 16 a1).bind fun v1 => (iter (m_lower_Look_b0 a0 a2) big (v1, 0)).bind fun o => (match o with
 | (.inl v7) => some (v7, true)
 | (.inr r) => some r)
def Y_lower_Look := And.intro (And.intro (And.intro ((@EV)) (And.intro ((@R3)) ((@R9)))) (And.intro (And.intro ((@R29)) ((@R30))) (And.intro ((@R42)) ((@R45))))) (And.intro (And.intro (And.intro ((@DGeo)) ((@DBranch))) (And.intro ((@DStack)) ((@DPlace)))) (And.intro (And.intro ((@DEntry)) ((@DOrigin))) (And.intro ((@DAttr)) ((@DNode)))))
set_option maxHeartbeats 2000000 in
theorem ok_lower_Look (a0 : Stack) (a1 : List Place) (a2 : List ByteArray) (r : List Place × Bool) (hm0 : m_lower_Look a0 a1 a2 = some r) : Ok Tryz.prog 85 [encStack a0, .sl 2 (a1.map encPlace), .sl 1 (a2.map str)] (.tup [.sl 2 (r.1.map encPlace), bool r.2]) := by
 unfold m_lower_Look at hm0
 refine okG fc_lower_Look ?_
 unfold c_lower_Look
 obtain ⟨v1, h2, hm0⟩ := bsE hm0
 simp only [Y_lower_Look, ↓EVd, isCall, sevalprocAttr]
 refine qc (cloneM_ok fc_slices_Clone_api_Place_api_Place elemOfT_30 aggN_45 bytesOfT_45 zero_45 rfl (by decide) encPlace _ _ h2 (fun z => by simp only [CLO])) rfl ?_
 obtain ⟨o0, ho0, hm0⟩ := bsE hm0
 simp only [Y_lower_Look, ↓EVd, isCall, sevalprocAttr]
 refine cwp_cx 0 (fun s => ∃ v7 : List Place, (s.T 8 = .sl 2 (v7.map encPlace)) ∧ (.inl v7) = o0) ?_ fun J0_0 hJ0_0 => ?_
 · rintro T0 H0 x6 ⟨v7, kk0_0, rfl⟩
   dsimp only [Lq, Nq] at kk0_0
   try dsimp only at hm0
   obtain rfl := Option.some.inj hm0
   simp only [kk0_0, Y_lower_Look, ↓EVd, isCall, sevalprocAttr]
   all_goals first | done | rfl | exact frzR_closed (by simp only [CLO]) | exact frzR_sub (by simp only [CLO]) (Sub.tup (Subs.cons (Sub.refl _) (Subs.cons (Sub.refl _) (Subs.nil))))
 refine cwp_lp ho0 (fun (v4, v5) s => s.T 3 = .loc 0 6 0 0 ∧ s.T 8 = .sl 2 (v4.map encPlace) ∧ s.T 15 = .sl 1 (a2.map str) ∧ s.T 16 = int (a2.length : Int) ∧ s.T 17 = int v5 ∧ s.H 0 = some (.row 29 6 [encStack a0]) ∧ Lq 0 s.nx) ?_ ?_
 · refine TI.here ⟨?_, ?_, ?_, ?_, ?_, ?_, ?_⟩
   all_goals try simp only [Y_lower_Look, ↓EVd, isCall, sevalprocAttr]
   all_goals first | omega | exact lq (by omega) | exact nq (by omega) | rfl | (congr 1; omega)
 rintro I0 ⟨v4, v5⟩ T0 H0 x3 st0 kk0 hm1 hI0 hO0
 dsimp only [Lq, Nq] at kk0
 simp only [m_lower_Look_b0] at hm1
 rcases iteE hm1 with ⟨e9, hm1⟩ | ⟨e9, hm1⟩
 · obtain ⟨v10, e12, hm1⟩ := ixE str hm1
   obtain ⟨v13, h14, hm1⟩ := bsE hm1
   simp only [kk0, e9, e12, Y_lower_Look, ↓EVd, isCall, sevalprocAttr]
   refine qc (ok_lower_Find _ _ _ _ h14) rfl ?_
   rcases iteE hm1 with ⟨e16, hm1⟩ | ⟨e16, hm1⟩
   · obtain rfl := Option.some.inj hm1
     simp only [kk0, e9, e12, e16, Y_lower_Look, ↓EVd, isCall, sevalprocAttr]
     refine TI.here (hI0 _ rfl _ ⟨?_, ?_, ?_, ?_, ?_, ?_, ?_⟩)
     all_goals try simp only [kk0, e9, e12, e16, Y_lower_Look, ↓EVd, isCall, sevalprocAttr]
     all_goals first | omega | exact lq (by omega) | exact nq (by omega) | rfl | (congr 1; omega)
   obtain rfl := Option.some.inj hm1
   obtain rfl := hO0 _ rfl
   try dsimp only at hm0
   obtain rfl := Option.some.inj hm0
   simp only [kk0, e9, e12, e16, Y_lower_Look, ↓EVd, isCall, sevalprocAttr]
   all_goals first | done | rfl | exact frzR_closed (by simp only [CLO]) | exact frzR_sub (by simp only [CLO]) (Sub.tup (Subs.cons (Sub.nilS _) (Subs.cons (Sub.refl _) (Subs.nil))))
 obtain rfl := Option.some.inj hm1
 simp only [kk0, e9, Y_lower_Look, ↓EVd, isCall, sevalprocAttr]
 refine TI.here (hJ0_0 _ ⟨v4, ?_, hO0 _ rfl⟩)
 all_goals try simp only [kk0, e9, Y_lower_Look, ↓EVd, isCall, sevalprocAttr]
 all_goals first | omega | exact lq (by omega) | exact nq (by omega) | rfl | (congr 1; omega)
def m_lower_Roots_b0 (a0 : Stack) : (List Place × Int) → Option (St (List Place × Int) (List Place))
 | (v3, v4) => if v4 < (a0.lowers.length : Int) then (m_lower_pile_node a0.lowers (⟨(wr (v4 + 1)), 1⟩ : Place)).bind fun v11 => if v11.kind = 1 then (ap 16 v3 ([(⟨(wr (v4 + 1)), 1⟩ : Place)] : List Place)).bind fun _ => (m_lower_opaque v11).bind fun v19 => if v19 = true then some (.out (v3 ++ ([(⟨(wr (v4 + 1)), 1⟩ : Place)] : List Place)))
 else some (.nx ((v3 ++ ([(⟨(wr (v4 + 1)), 1⟩ : Place)] : List Place)), (wr (v4 + 1))))
 else some (.nx (v3, (wr (v4 + 1))))
 else some (.out v3)
def m_lower_Roots (a0 : Stack) : Option (List Place) := (iter (m_lower_Roots_b0 a0) big ([], 0)).bind fun o => (match o with
 | v7 => some v7)
def Y_lower_Roots := And.intro (And.intro (And.intro (And.intro ((@EV)) ((@R3))) (And.intro ((@R26)) ((@R27)))) (And.intro (And.intro ((@R29)) ((@R30))) (And.intro ((@R45)) ((@R68))))) (And.intro (And.intro (And.intro ((@R106)) ((@DGeo))) (And.intro ((@DBranch)) ((@DStack)))) (And.intro (And.intro ((@DPlace)) ((@DEntry))) (And.intro ((@DOrigin)) (And.intro ((@DAttr)) ((@DNode))))))
set_option maxHeartbeats 2000000 in
theorem ok_lower_Roots (a0 : Stack) (r : List Place) (hm0 : m_lower_Roots a0 = some r) : Ok Tryz.prog 56 [encStack a0] (.sl 2 (r.map encPlace)) := by
 unfold m_lower_Roots at hm0
 refine okG fc_lower_Roots ?_
 unfold c_lower_Roots
 obtain ⟨o0, ho0, hm0⟩ := bsE hm0
 simp only [Y_lower_Roots, ↓EVd, isCall, sevalprocAttr]
 refine cwp_cx 0 (fun s => ∃ v7 : List Place, ∃ l6 : Nat, (s.T 4 = .msl l6 v7.length ∧ s.H l6 = some (.row 45 2 (v7.map encPlace)) ∧ Lq l6 s.nx) ∧ v7 = o0) ?_ fun J0_0 hJ0_0 => ?_
 · rintro T0 H0 x5 ⟨v7, l6, kk0_0, rfl⟩
   dsimp only [Lq, Nq] at kk0_0
   try dsimp only at hm0
   obtain rfl := Option.some.inj hm0
   simp only [kk0_0, Y_lower_Roots, ↓EVd, isCall, sevalprocAttr]
   all_goals first | done | rfl | exact frzR_e (by simp only [kk0_0, FZ, CLO, Y_lower_Roots, ↓EVd, isCall, sevalprocAttr])
 refine cwp_lp ho0 (fun (v3, v4) s => ∃ l2 : Nat, s.T 3 = .sl 1 (a0.lowers.map encBranch) ∧ s.T 4 = .msl l2 v3.length ∧ s.T 11 = int (a0.lowers.length : Int) ∧ s.T 12 = int v4 ∧ s.H l2 = some (.row 45 2 (v3.map encPlace)) ∧ Lq l2 s.nx) ?_ ?_
 · refine TI.by (Tn.adopt 4 45 2 (by simp only [Y_lower_Roots, ↓EVd, isCall, sevalprocAttr])) ?_
   refine TI.here ⟨9, ?_, ?_, ?_, ?_, ?_, ?_⟩
   all_goals try simp only [Y_lower_Roots, ↓EVd, isCall, sevalprocAttr]
   all_goals first | omega | exact lq (by omega) | exact nq (by omega) | rfl | (congr 1; omega)
 rintro I0 ⟨v3, v4⟩ T0 H0 x1 st0 ⟨l2, kk0⟩ hm1 hI0 hO0
 dsimp only [Lq, Nq] at kk0
 simp only [m_lower_Roots_b0] at hm1
 rcases iteE hm1 with ⟨e9, hm1⟩ | ⟨e9, hm1⟩
 · have e10 : (.agg [int (wr (v4 + 1)), int 1] : AV) = encPlace (⟨(wr (v4 + 1)), 1⟩ : Place) := _root_.id rfl
   obtain ⟨v11, h12, hm1⟩ := bsE hm1
   simp only [kk0, e9, e10, Y_lower_Roots, ↓EVd, isCall, sevalprocAttr]
   refine qc (ok_lower_pile_node _ _ _ h12) rfl ?_
   rcases iteE hm1 with ⟨e14, hm1⟩ | ⟨e14, hm1⟩
   · obtain ⟨e17, hm1⟩ := apE hm1
     try simp only [ZL] at e17
     obtain ⟨v19, h20, hm1⟩ := bsE hm1
     simp only [kk0, e9, e10, e14, e17, Y_lower_Roots, ↓EVd, isCall, sevalprocAttr]
     refine qc (ok_lower_opaque _ _ h20) rfl ?_
     rcases itbE hm1 with ⟨e22, hm1⟩ | ⟨e22, hm1⟩
     · obtain rfl := Option.some.inj hm1
       simp only [kk0, e9, e10, e14, e17, e22, Y_lower_Roots, ↓EVd, isCall, sevalprocAttr]
       refine TI.here (hJ0_0 _ ⟨(v3 ++ ([(⟨(wr (v4 + 1)), 1⟩ : Place)] : List Place)), (x1 + 19), ⟨?_, ?_, ?_⟩, hO0 _ rfl⟩)
       all_goals try simp only [kk0, e9, e10, e14, e17, e22, Y_lower_Roots, ↓EVd, isCall, sevalprocAttr]
       all_goals first | omega | exact lq (by omega) | exact nq (by omega) | rfl | (congr 1; omega)
     obtain rfl := Option.some.inj hm1
     simp only [kk0, e9, e10, e14, e17, e22, Y_lower_Roots, ↓EVd, isCall, sevalprocAttr]
     refine TI.here (hI0 _ rfl _ ⟨(x1 + 19), ?_, ?_, ?_, ?_, ?_, ?_⟩)
     all_goals try simp only [kk0, e9, e10, e14, e17, e22, Y_lower_Roots, ↓EVd, isCall, sevalprocAttr]
     all_goals first | omega | exact lq (by omega) | exact nq (by omega) | rfl | (congr 1; omega)
   obtain rfl := Option.some.inj hm1
   simp only [kk0, e9, e10, e14, Y_lower_Roots, ↓EVd, isCall, sevalprocAttr]
   refine TI.here (hI0 _ rfl _ ⟨l2, ?_, ?_, ?_, ?_, ?_, ?_⟩)
   all_goals try simp only [kk0, e9, e10, e14, Y_lower_Roots, ↓EVd, isCall, sevalprocAttr]
   all_goals first | omega | exact lq (by omega) | exact nq (by omega) | rfl | (congr 1; omega)
 obtain rfl := Option.some.inj hm1
 simp only [kk0, e9, Y_lower_Roots, ↓EVd, isCall, sevalprocAttr]
 refine TI.here (hJ0_0 _ ⟨v3, l2, ⟨?_, ?_, ?_⟩, hO0 _ rfl⟩)
 all_goals try simp only [kk0, e9, Y_lower_Roots, ↓EVd, isCall, sevalprocAttr]
 all_goals first | omega | exact lq (by omega) | exact nq (by omega) | rfl | (congr 1; omega)
def m_slices_Equal_string_string_b0 (a0 : List ByteArray) (a1 : List ByteArray) : Int → Option (St (Int) ((Unit) ⊕ (Bool)))
 | v4 => if v4 < (a0.length : Int) then (ix a0 v4).bind fun v8 => (ix a1 v4).bind fun v11 => if v8 = v11 then some (.nx (wr (v4 + 1)))
 else some (.out (.inr false))
 else some (.out (.inl ()))
def m_slices_Equal_string_string (a0 : List ByteArray) (a1 : List ByteArray) : Option (Bool) := if (a0.length : Int) = (a1.length : Int) then (iter (m_slices_Equal_string_string_b0 a0 a1) big 0).bind fun o => (match o with
 | (.inl _) => some true
 | (.inr r) => some r)
 else some false
def Y_slices_Equal_string_string := And.intro (And.intro ((@EV)) ((@R3))) (And.intro ((@R9)) (And.intro ((@R42)) ((@mixed))))
set_option maxHeartbeats 2000000 in
theorem ok_slices_Equal_string_string (a0 : List ByteArray) (a1 : List ByteArray) (r : Bool) (hm0 : m_slices_Equal_string_string a0 a1 = some r) : Ok Tryz.prog 15 [.sl 1 (a0.map str), .sl 1 (a1.map str)] (bool r) := by
 unfold m_slices_Equal_string_string at hm0
 refine okG fc_slices_Equal_string_string ?_
 unfold c_slices_Equal_string_string
 rcases iteE hm0 with ⟨e2, hm0⟩ | ⟨e2, hm0⟩
 · obtain ⟨o0, ho0, hm0⟩ := bsE hm0
   simp only [e2, Y_slices_Equal_string_string, ↓EVd, isCall, sevalprocAttr]
   refine cwp_cx 0 (fun s => (.inl ()) = o0) ?_ fun J0_0 hJ0_0 => ?_
   · rintro T0 H0 x5 rfl
     try dsimp only at hm0
     obtain rfl := Option.some.inj hm0
     simp only [e2, Y_slices_Equal_string_string, ↓EVd, isCall, sevalprocAttr]
     all_goals first | done | rfl
   refine cwp_lp ho0 (fun v4 s => s.T 0 = .sl 1 (a0.map str) ∧ s.T 1 = .sl 1 (a1.map str) ∧ s.T 12 = int (a0.length : Int) ∧ s.T 13 = int v4) ?_ ?_
   · refine TI.here ⟨?_, ?_, ?_, ?_⟩
     all_goals try simp only [e2, Y_slices_Equal_string_string, ↓EVd, isCall, sevalprocAttr]
     all_goals first | omega | exact lq (by omega) | exact nq (by omega) | rfl | (congr 1; omega)
   rintro I0 v4 T0 H0 x3 st0 kk0 hm1 hI0 hO0
   dsimp only [Lq, Nq] at kk0
   simp only [m_slices_Equal_string_string_b0] at hm1
   rcases iteE hm1 with ⟨e7, hm1⟩ | ⟨e7, hm1⟩
   · obtain ⟨v8, e10, hm1⟩ := ixE str hm1
     obtain ⟨v11, e13, hm1⟩ := ixE str hm1
     rcases iteE hm1 with ⟨e15, hm1⟩ | ⟨e15, hm1⟩
     · obtain rfl := Option.some.inj hm1
       simp only [kk0, e2, e7, e10, e13, e15, Y_slices_Equal_string_string, ↓EVd, isCall, sevalprocAttr]
       refine TI.here (hI0 _ rfl _ ⟨?_, ?_, ?_, ?_⟩)
       all_goals try simp only [kk0, e2, e7, e10, e13, e15, Y_slices_Equal_string_string, ↓EVd, isCall, sevalprocAttr]
       all_goals first | omega | exact lq (by omega) | exact nq (by omega) | rfl | (congr 1; omega)
     obtain rfl := Option.some.inj hm1
     obtain rfl := hO0 _ rfl
     try dsimp only at hm0
     obtain rfl := Option.some.inj hm0
     simp only [kk0, e2, e7, e10, e13, e15, Y_slices_Equal_string_string, ↓EVd, isCall, sevalprocAttr]
     all_goals first | done | rfl
   obtain rfl := Option.some.inj hm1
   simp only [kk0, e2, e7, Y_slices_Equal_string_string, ↓EVd, isCall, sevalprocAttr]
   refine TI.here (hJ0_0 _ (hO0 _ rfl))
 obtain rfl := Option.some.inj hm0
 simp only [e2, Y_slices_Equal_string_string, ↓EVd, isCall, sevalprocAttr]
 all_goals first | done | rfl
def m_slices_Equal_api_Finding_api_Finding_b0 (a0 : List Finding) (a1 : List Finding) : Int → Option (St (Int) ((Unit) ⊕ (Bool)))
 | v4 => if v4 < (a0.length : Int) then (ix a0 v4).bind fun v8 => (ix a1 v4).bind fun v11 => if (decide (v8 = v11)) = true then some (.nx (wr (v4 + 1)))
 else some (.out (.inr false))
 else some (.out (.inl ()))
def m_slices_Equal_api_Finding_api_Finding (a0 : List Finding) (a1 : List Finding) : Option (Bool) := if (a0.length : Int) = (a1.length : Int) then (iter (m_slices_Equal_api_Finding_api_Finding_b0 a0 a1) big 0).bind fun o => (match o with
 | (.inl _) => some true
 | (.inr r) => some r)
 else some false
def Y_slices_Equal_api_Finding_api_Finding := And.intro (And.intro ((@EV)) (And.intro ((@R3)) ((@R36)))) (And.intro (And.intro ((@R38)) ((@DFinding))) (And.intro ((@eq38)) ((@mixed))))
set_option maxHeartbeats 2000000 in
theorem ok_slices_Equal_api_Finding_api_Finding (a0 : List Finding) (a1 : List Finding) (r : Bool) (hm0 : m_slices_Equal_api_Finding_api_Finding a0 a1 = some r) : Ok Tryz.prog 10 [.sl 4 (a0.map encFinding), .sl 4 (a1.map encFinding)] (bool r) := by
 unfold m_slices_Equal_api_Finding_api_Finding at hm0
 refine okG fc_slices_Equal_api_Finding_api_Finding ?_
 unfold c_slices_Equal_api_Finding_api_Finding
 rcases iteE hm0 with ⟨e2, hm0⟩ | ⟨e2, hm0⟩
 · obtain ⟨o0, ho0, hm0⟩ := bsE hm0
   simp only [e2, Y_slices_Equal_api_Finding_api_Finding, ↓EVd, isCall, sevalprocAttr]
   refine cwp_cx 0 (fun s => (.inl ()) = o0) ?_ fun J0_0 hJ0_0 => ?_
   · rintro T0 H0 x5 rfl
     try dsimp only at hm0
     obtain rfl := Option.some.inj hm0
     simp only [e2, Y_slices_Equal_api_Finding_api_Finding, ↓EVd, isCall, sevalprocAttr]
     all_goals first | done | rfl
   refine cwp_lp ho0 (fun v4 s => s.T 0 = .sl 4 (a0.map encFinding) ∧ s.T 1 = .sl 4 (a1.map encFinding) ∧ s.T 12 = int (a0.length : Int) ∧ s.T 13 = int v4) ?_ ?_
   · refine TI.here ⟨?_, ?_, ?_, ?_⟩
     all_goals try simp only [e2, Y_slices_Equal_api_Finding_api_Finding, ↓EVd, isCall, sevalprocAttr]
     all_goals first | omega | exact lq (by omega) | exact nq (by omega) | rfl | (congr 1; omega)
   rintro I0 v4 T0 H0 x3 st0 kk0 hm1 hI0 hO0
   dsimp only [Lq, Nq] at kk0
   simp only [m_slices_Equal_api_Finding_api_Finding_b0] at hm1
   rcases iteE hm1 with ⟨e7, hm1⟩ | ⟨e7, hm1⟩
   · obtain ⟨v8, e10, hm1⟩ := ixE encFinding hm1
     obtain ⟨v11, e13, hm1⟩ := ixE encFinding hm1
     rcases itbE hm1 with ⟨e15, hm1⟩ | ⟨e15, hm1⟩
     · obtain rfl := Option.some.inj hm1
       simp only [kk0, e2, e7, e10, e13, e15, Y_slices_Equal_api_Finding_api_Finding, ↓EVd, isCall, sevalprocAttr]
       refine TI.here (hI0 _ rfl _ ⟨?_, ?_, ?_, ?_⟩)
       all_goals try simp only [kk0, e2, e7, e10, e13, e15, Y_slices_Equal_api_Finding_api_Finding, ↓EVd, isCall, sevalprocAttr]
       all_goals first | omega | exact lq (by omega) | exact nq (by omega) | rfl | (congr 1; omega)
     obtain rfl := Option.some.inj hm1
     obtain rfl := hO0 _ rfl
     try dsimp only at hm0
     obtain rfl := Option.some.inj hm0
     simp only [kk0, e2, e7, e10, e13, e15, Y_slices_Equal_api_Finding_api_Finding, ↓EVd, isCall, sevalprocAttr]
     all_goals first | done | rfl
   obtain rfl := Option.some.inj hm1
   simp only [kk0, e2, e7, Y_slices_Equal_api_Finding_api_Finding, ↓EVd, isCall, sevalprocAttr]
   refine TI.here (hJ0_0 _ (hO0 _ rfl))
 obtain rfl := Option.some.inj hm0
 simp only [e2, Y_slices_Equal_api_Finding_api_Finding, ↓EVd, isCall, sevalprocAttr]
 all_goals first | done | rfl
end Go.Proofs.YtapdjibjnfeipaaGreatDoor.AL


/- Plain laws of chapter 16: nodes, entries, what a name tells, where names lead, roots. -/
set_option linter.all false
namespace Go.Proofs.YtapdjibjnfeipaaGreatDoor.AL
open Go Go.Proofs
def foldE {α σ ρ : Type} (step : σ → α → σ ⊕ ρ) : List α → σ → σ ⊕ ρ
  | [], s => .inl s
  | x :: xs, s => match step s x with
    | .inl s' => foldE step xs s'
    | .inr r => .inr r
theorem foldE_inr {α σ ρ : Type} {step : σ → α → σ ⊕ ρ} {R : ρ → Prop} : ∀ (xs : List α) (s : σ), (∀ s x r, x ∈ xs → step s x = .inr r → R r) → ∀ r, foldE step xs s = .inr r → R r
  | [], s, h, r, e => by cases e
  | x :: xs, s, h, r, e => by
    unfold foldE at e
    split at e
    · exact foldE_inr xs _ (fun s y r hy => h s y r (by simp [hy])) r e
    · rename_i r' he
      injection e with e
      subst e
      exact h s x _ (by simp) he
theorem iter_foldE {α σ ρ S τ : Type} {B : S → Option (St S τ)} (mk : Nat → σ → S) (xs : List α) (step : σ → α → σ ⊕ ρ) (fin : σ ⊕ ρ → τ) (I : Nat → σ → Prop)
    (hs : ∀ i s (h : i < xs.length), I i s → match step s xs[i] with
      | .inl s' => B (mk i s) = some (.nx (mk (i + 1) s')) ∧ I (i + 1) s'
      | .inr r => B (mk i s) = some (.out (fin (.inr r))))
    (he : ∀ s, I xs.length s → B (mk xs.length s) = some (.out (fin (.inl s)))) {s0 : σ} (h0 : I 0 s0) {fuel : Nat} (hf : xs.length < fuel) : iter B fuel (mk 0 s0) = some (fin (foldE step xs s0)) := by
  have key : ∀ (d i : Nat) (s : σ) (fuel : Nat), d + i = xs.length → I i s → d < fuel → iter B fuel (mk i s) = some (fin (foldE step (xs.drop i) s)) := by
    intro d
    induction d with
    | zero =>
      intro i s fuel hd hi hf
      obtain rfl : i = xs.length := by omega
      cases fuel with
      | zero => omega
      | succ fuel =>
        rw [iter_succ, he s hi]
        simp [foldE]
    | succ d ih =>
      intro i s fuel hd hi hf
      cases fuel with
      | zero => omega
      | succ fuel =>
        have hlt : i < xs.length := by omega
        have h1 := hs i s hlt hi
        rw [iter_succ, List.drop_eq_getElem_cons hlt]
        unfold foldE
        split at h1
        · rename_i s' hst
          rw [h1.1]
          exact ih (i + 1) _ fuel (by omega) h1.2 (by omega)
        · rename_i r hst
          rw [h1]
          rfl
  have := key xs.length 0 s0 fuel (by omega) h0 hf
  simpa using this
theorem iter_find {α ρ : Type} {xs : List α} {B : Int → Option (St Int (Unit ⊕ ρ))} (g : α → Option ρ) (hl : xs.length ≤ 1000000000)
    (hB : ∀ i (h : i < xs.length), B (i : Int) = some (match g xs[i] with | some r => .out (.inr r) | none => .nx ((i + 1 : Nat) : Int))) (hE : B (xs.length : Int) = some (.out (.inl ()))) :
    iter B big 0 = some (match xs.findSome? g with | some r => .inr r | none => .inl ()) := by
  have := iter_foldE (B := B) (σ := Unit) (fun i _ => (i : Int)) xs (fun _ x => match g x with | some r => .inr r | none => .inl ()) (fun o => o) (fun _ _ => True) (by
    intro i s h _
    have := hB i h
    cases hg : g xs[i] with
    | none => rw [hg] at this; exact ⟨this, trivial⟩
    | some r => rw [hg] at this; exact this) (fun _ _ => hE) (s0 := ()) trivial (fuel := big) (by rw [big_eq]; omega)
  have e0 : ((0 : Nat) : Int) = 0 := rfl
  rw [show (0 : Int) = ((0 : Nat) : Int) from rfl, this]
  congr 1
  clear this hB hE hl
  induction xs with
  | nil => rfl
  | cons x xs ih =>
    unfold foldE
    rw [List.findSome?_cons]
    cases hg : g x with
    | none => simpa using ih
    | some r => rfl
def zN : Node := ⟨0, 0, 0, 0, [], [], ⟨0, 0, noBytes, ⟨0, 0, 0⟩, 0⟩⟩
structure PQ (bs : List Branch) : Prop where
  len : bs.length ≤ 3
  nodes : ∀ b ∈ bs, b.nodes.length ≤ 24 ∧ ∀ n ∈ b.nodes, NB n
def nodeQ (bs : List Branch) (x : Place) : Node :=
  if x.layer < 1 then zN else if (bs.length : Int) < x.layer then zN else
    if x.ino < 1 then zN else if ((((bs[(x.layer - 1).toNat]?).getD ⟨[]⟩).nodes.length : Nat) : Int) < x.ino then zN else (((bs[(x.layer - 1).toNat]?).getD ⟨[]⟩).nodes[(x.ino - 1).toNat]?).getD zN
theorem pile_eq {bs : List Branch} (h : PQ bs) (x : Place) : m_lower_pile_node bs x = some (nodeQ bs x) := by
  unfold m_lower_pile_node nodeQ
  by_cases h1 : x.layer < 1
  · rw [if_pos h1, if_pos h1]; rfl
  rw [if_neg h1, if_neg h1]
  by_cases h2 : (bs.length : Int) < x.layer
  · rw [if_pos h2, if_pos h2]; rfl
  rw [if_neg h2, if_neg h2]
  have hl := h.len
  have hlt : (x.layer - 1).toNat < bs.length := by omega
  rw [wr_in (by omega) (by omega), ix_of (by omega) (by omega)]
  simp only [Option.bind_some]
  rw [List.getElem?_eq_getElem hlt]
  simp only [Option.getD_some]
  have hb := (h.nodes _ (List.getElem_mem hlt)).1
  generalize bs[(x.layer - 1).toNat] = b at hb
  by_cases h3 : x.ino < 1
  · rw [if_pos h3, if_pos h3]; rfl
  rw [if_neg h3, if_neg h3]
  by_cases h4 : (b.nodes.length : Int) < x.ino
  · rw [if_pos h4, if_pos h4]; rfl
  rw [if_neg h4, if_neg h4]
  have hlt2 : (x.ino - 1).toNat < b.nodes.length := by omega
  rw [wr_in (by omega) (by omega), ix_of (by omega) (by omega)]
  simp only [Option.bind_some]
  rw [List.getElem?_eq_getElem hlt2]
  rfl
theorem lowerQ {s : Stack} (h : PQ s.lowers) (x : Place) : m_ref15_Lower s x = some (nodeQ s.lowers x) := by
  rw [← pile_eq h x]
  unfold m_ref15_Lower m_lower_pile_node
  by_cases h1 : x.layer < 1
  · rw [if_pos h1, if_pos h1]
  rw [if_neg h1, if_neg h1]
  by_cases h2 : (s.lowers.length : Int) < x.layer
  · rw [if_pos h2, if_pos h2]
  rw [if_neg h2, if_neg h2]
  cases ix s.lowers (wr (x.layer - 1)) with
  | none => rfl
  | some b =>
    simp only [Option.bind_some]
    unfold m_ref13_At
    by_cases h3 : x.ino < 1
    · rw [if_pos h3]; rfl
    rw [if_neg h3]
    by_cases h4 : (b.nodes.length : Int) < x.ino
    · rw [if_pos h4]; rfl
    rw [if_neg h4]
    cases ix b.nodes (wr (x.ino - 1)) <;> rfl
theorem zN_nb : NB zN := ⟨by simp [zN], by simp [zN], by simp [zN]⟩
theorem nodeQ_nb {bs : List Branch} (h : PQ bs) (x : Place) : NB (nodeQ bs x) := by
  unfold nodeQ
  split
  · exact zN_nb
  split
  · exact zN_nb
  split
  · exact zN_nb
  split
  · exact zN_nb
  rename_i h1 h2 h3 h4
  have hlt : (x.layer - 1).toNat < bs.length := by omega
  rw [List.getElem?_eq_getElem hlt] at h4 ⊢
  simp only [Option.getD_some] at h4 ⊢
  have hlt2 : (x.ino - 1).toNat < bs[(x.layer - 1).toNat].nodes.length := by omega
  rw [List.getElem?_eq_getElem hlt2]
  exact (h.nodes _ (List.getElem_mem hlt)).2 _ (List.getElem_mem hlt2)
theorem bitsQ (k : Fin 32) : bAnd .i64 (k.val : Int) 1 = 0 ↔ ¬ (wr ((k.val : Int).tdiv 1)).tmod 2 = 1 := by
  revert k
  decide +kernel
def opqQ (n : Node) : Bool := decide ((wr (n.attr.has.tdiv 1)).tmod 2 = 1 ∧ n.attr.opaque0 = 121)
theorem lopaque_eq {n : Node} (h : NB n) : m_lower_opaque n = some (opqQ n) := by
  unfold m_lower_opaque opqQ
  rw [if_pos h.has0]
  have e : ((n.attr.has.toNat : Nat) : Int) = n.attr.has := by have := h.has0; omega
  have hb := bitsQ ⟨n.attr.has.toNat, by have := h.has0; have := h.has1; omega⟩
  simp only [e] at hb
  by_cases hc : bAnd .i64 n.attr.has 1 = 0
  · rw [if_pos hc]
    exact congrArg some (decide_eq_false fun hh => hb.1 hc hh.1).symm
  · rw [if_neg hc]
    have hq : (wr (n.attr.has.tdiv 1)).tmod 2 = 1 := by
      rcases Decidable.em ((wr (n.attr.has.tdiv 1)).tmod 2 = 1) with h | h
      · exact h
      · exact absurd (hb.2 h) hc
    by_cases ho : n.attr.opaque0 = 121
    · rw [if_pos ho]; exact congrArg some (decide_eq_true ⟨hq, ho⟩).symm
    · rw [if_neg ho]; exact congrArg some (decide_eq_false fun hh => ho hh.2).symm
theorem ropaque_eq {n : Node} (h : NB n) : m_ref16_Opaque n = some (opqQ n) := by
  unfold m_ref16_Opaque m_ref09_Has m_ref09_has opqQ ck
  rw [if_pos h.has0, if_pos (by decide)]
  simp only [Option.bind_some]
  by_cases hq : (wr (n.attr.has.tdiv 1)).tmod 2 = 1
  · rw [if_pos hq]
    simp only [Option.bind_some, if_true]
    by_cases ho : n.attr.opaque0 = 121
    · rw [if_pos ho]; exact congrArg some (decide_eq_true ⟨hq, ho⟩).symm
    · rw [if_neg ho]; exact congrArg some (decide_eq_false fun hh => ho hh.2).symm
  · rw [if_neg hq]
    simp only [Option.bind_some, Bool.false_eq_true, if_false]
    exact congrArg some (decide_eq_false fun hh => hq hh.1).symm
def entG (bs : List Branch) (x : Place) (nm : ByteArray) (e : Entry) : Option (Place × Node) :=
  if e.name = nm then if (nodeQ bs ⟨x.layer, e.ino⟩).kind = 0 then none else some (⟨x.layer, e.ino⟩, nodeQ bs ⟨x.layer, e.ino⟩) else none
def entQ (bs : List Branch) (x : Place) (nm : ByteArray) : Option (Place × Node) :=
  if (nodeQ bs x).kind = 1 then (nodeQ bs x).entries.findSome? (entG bs x nm) else none
theorem entry_eq {bs : List Branch} (h : PQ bs) (x : Place) (nm : ByteArray) : m_lower_pile_entry bs x nm = some ((entQ bs x nm).getD (⟨0, 0⟩, zN)) := by
  unfold m_lower_pile_entry entQ
  rw [pile_eq h]
  simp only [Option.bind_some]
  have hn := (nodeQ_nb h x).ents
  by_cases hk : (nodeQ bs x).kind = 1
  · rw [if_pos hk, if_pos hk, iter_find (entG bs x nm) (xs := (nodeQ bs x).entries) (by omega)]
    · cases (nodeQ bs x).entries.findSome? (entG bs x nm) <;> rfl
    · intro i hi
      simp only [m_lower_pile_entry_b0]
      rw [if_pos (by omega), ix_at hi]
      simp only [Option.bind_some]
      rw [pile_eq h, wr_suc (by omega)]
      simp only [Option.bind_some, entG]
      by_cases h1 : (nodeQ bs x).entries[i].name = nm
      · rw [if_pos h1, if_pos h1]
        by_cases h2 : (nodeQ bs ⟨x.layer, (nodeQ bs x).entries[i].ino⟩).kind = 0
        · rw [if_pos h2, if_pos h2]
        · rw [if_neg h2, if_neg h2]
      · rw [if_neg h1, if_neg h1]
    · simp only [m_lower_pile_entry_b0]
      rw [if_neg (by omega)]
  · rw [if_neg hk, if_neg hk]; rfl
theorem rentry_eq {s : Stack} (h : PQ s.lowers) (x : Place) (nm : ByteArray) : m_ref16_entry s x nm = some (match entQ s.lowers x nm with | some p => (p.1, true) | none => (⟨0, 0⟩, false)) := by
  unfold m_ref16_entry entQ
  rw [lowerQ h]
  simp only [Option.bind_some]
  have hn := (nodeQ_nb h x).ents
  by_cases hk : (nodeQ s.lowers x).kind = 1
  · rw [if_pos hk, if_pos hk, iter_find (fun e => (entG s.lowers x nm e).map fun p => (p.1, true)) (xs := (nodeQ s.lowers x).entries) (by omega)]
    · simp only [Option.bind_some]
      have e : ∀ l : List Entry, l.findSome? (fun e => (entG s.lowers x nm e).map fun p => (p.1, true)) = (l.findSome? (entG s.lowers x nm)).map fun p => (p.1, true) := by
        intro l
        induction l with
        | nil => rfl
        | cons a l ih =>
          rw [List.findSome?_cons, List.findSome?_cons]
          cases entG s.lowers x nm a with
          | none => exact ih
          | some p => rfl
      rw [e]
      cases (nodeQ s.lowers x).entries.findSome? (entG s.lowers x nm) <;> rfl
    · intro i hi
      simp only [m_ref16_entry_b0]
      rw [if_pos (by omega), ix_at hi]
      simp only [Option.bind_some]
      rw [lowerQ h, wr_suc (by omega)]
      simp only [Option.bind_some, entG]
      by_cases h1 : (nodeQ s.lowers x).entries[i].name = nm
      · rw [if_pos h1, if_pos h1]
        by_cases h2 : (nodeQ s.lowers ⟨x.layer, (nodeQ s.lowers x).entries[i].ino⟩).kind = 0
        · rw [if_pos h2, if_pos h2]; rfl
        · rw [if_neg h2, if_neg h2]; rfl
      · rw [if_neg h1, if_neg h1]; rfl
    · simp only [m_ref16_entry_b0]
      rw [if_neg (by omega)]
  · rw [if_neg hk, if_neg hk]
theorem entQ_some {bs : List Branch} {x : Place} {nm : ByteArray} {p : Place × Node} (h : entQ bs x nm = some p) : p.2 = nodeQ bs p.1 ∧ ¬ p.2.kind = 0 ∧ (nodeQ bs x).kind = 1 ∧ ∃ e ∈ (nodeQ bs x).entries, e.name = nm := by
  unfold entQ at h
  split at h
  · rename_i hk
    obtain ⟨e, he, h1⟩ := List.exists_of_findSome?_eq_some h
    unfold entG at h1
    split at h1
    · rename_i hn
      split at h1
      · cases h1
      · rename_i h2
        injection h1 with h1
        subst h1
        exact ⟨rfl, h2, hk, e, he, hn⟩
    · cases h1
  · cases h
def stepQ (bs : List Branch) (nm : ByteArray) (d : List Place) (x : Place) : List Place ⊕ (Int × List Place) :=
  match entQ bs x nm with
  | none => .inl d
  | some (y, n) => if n.kind = 1 then (if opqQ n = true then .inr (1, d ++ [y]) else .inl (d ++ [y])) else if 0 < (d.length : Int) then .inr (1, d) else if n.kind = 2 ∨ n.kind = 3 then .inr (n.kind, [y]) else .inr (0, [])
def endQ (o : List Place ⊕ (Int × List Place)) : Int × List Place := match o with
  | .inl d => if 0 < (d.length : Int) then (1, d) else (0, [])
  | .inr r => r
def findQ (bs : List Branch) (l : List Place) (nm : ByteArray) : Int × List Place := endQ (foldE (stepQ bs nm) l [])
structure FQ' (n : Nat) (r : Int × List Place) : Prop where
  some : r.1 = 0 ∨ 0 < r.2.length
  nil : r.1 = 0 → r.2 = []
  kinds : r.1 = 0 ∨ r.1 = 1 ∨ r.1 = 2 ∨ r.1 = 3
  one : ¬ r.1 = 1 → r.2.length ≤ 1
theorem stepQ_inr {bs : List Branch} {nm : ByteArray} {d : List Place} {x : Place} {r : Int × List Place} (h : stepQ bs nm d x = .inr r) : FQ' 0 r := by
  unfold stepQ at h
  split at h
  · cases h
  · rename_i y n he
    split at h
    · split at h
      · injection h with h; subst h; exact ⟨.inr (by simp), fun e => (by cases e), by simp, fun e => absurd rfl e⟩
      · cases h
    · split at h
      · injection h with h; subst h; exact ⟨.inr (by simp only; omega), fun e => (by cases e), by simp, fun e => absurd rfl e⟩
      · split at h
        · rename_i hk
          injection h with h
          subst h
          exact ⟨.inr (by simp), fun e => (by simp only at e; omega), by simp only; omega, fun _ => by simp⟩
        · injection h with h; subst h; exact ⟨.inl rfl, fun _ => rfl, by simp, fun _ => by simp⟩
theorem findQ_prop (bs : List Branch) (l : List Place) (nm : ByteArray) : FQ' 0 (findQ bs l nm) := by
  unfold findQ endQ
  split
  · rename_i d hd
    split
    · exact ⟨.inr (by simp only; omega), fun e => (by cases e), by simp, fun e => absurd rfl e⟩
    · exact ⟨.inl rfl, fun _ => rfl, by simp, fun _ => by simp⟩
  · rename_i r hr
    exact foldE_inr (R := FQ' 0) l [] (fun s x r _ h => stepQ_inr h) r hr
theorem foldQ_len {bs : List Branch} {nm : ByteArray} : ∀ (l : List Place) (d : List Place), (∀ d', foldE (stepQ bs nm) l d = .inl d' → d'.length ≤ d.length + l.length) ∧ (∀ r, foldE (stepQ bs nm) l d = .inr r → r.2.length ≤ d.length + l.length)
  | [], d => ⟨fun d' e => by injection e with e; subst e; simp, fun r e => by cases e⟩
  | x :: l, d => by
    have key : (∃ r, stepQ bs nm d x = .inr r ∧ foldE (stepQ bs nm) (x :: l) d = .inr r ∧ r.2.length ≤ d.length + 1) ∨ (∃ d1, stepQ bs nm d x = .inl d1 ∧ d1.length ≤ d.length + 1 ∧ foldE (stepQ bs nm) (x :: l) d = foldE (stepQ bs nm) l d1) := by
      cases hs : stepQ bs nm d x with
      | inl d1 =>
        refine .inr ⟨d1, rfl, ?_, by rw [foldE, hs]⟩
        unfold stepQ at hs
        split at hs
        · injection hs with hs; subst hs; omega
        · split at hs
          · split at hs
            · cases hs
            · injection hs with hs; subst hs; simp
          · split at hs
            · cases hs
            · split at hs <;> cases hs
      | inr r =>
        refine .inl ⟨r, rfl, by rw [foldE, hs], ?_⟩
        unfold stepQ at hs
        split at hs
        · cases hs
        · split at hs
          · split at hs
            · injection hs with hs; subst hs; simp
            · cases hs
          · split at hs
            · injection hs with hs; subst hs; simp
            · split at hs <;> (injection hs with hs; subst hs; simp)
    rcases key with ⟨r, h1, h2, h3⟩ | ⟨d1, h1, h2, h3⟩
    · refine ⟨fun d' e => (by rw [h2] at e; cases e), fun r' e => ?_⟩
      rw [h2] at e
      injection e with e
      subst e
      simp only [List.length_cons]; omega
    · obtain ⟨g1, g2⟩ := foldQ_len l d1
      refine ⟨fun d' e => ?_, fun r e => ?_⟩
      · rw [h3] at e; have := g1 d' e; simp only [List.length_cons]; omega
      · rw [h3] at e; have := g2 r e; simp only [List.length_cons]; omega
theorem findQ_len (bs : List Branch) (l : List Place) (nm : ByteArray) : (findQ bs l nm).2.length ≤ l.length := by
  obtain ⟨g1, g2⟩ := foldQ_len (bs := bs) (nm := nm) l []
  unfold findQ endQ
  split
  · rename_i d hd
    have := g1 d hd
    split
    · simpa using this
    · simp
  · rename_i r hr
    have := g2 r hr
    simpa using this
theorem rfind_eq {s : Stack} (h : PQ s.lowers) {l : List Place} (hl : l.length ≤ 1000) (nm : ByteArray) : m_ref16_Find s l nm = some (findQ s.lowers l nm) := by
  unfold m_ref16_Find
  have := iter_foldE (B := m_ref16_Find_b0 s l nm) (fun i d => (d, (i : Int))) l (stepQ s.lowers nm) (fun o => o) (fun i d => d.length ≤ i) (by
    intro i d hi hd
    have hb : m_ref16_Find_b0 s l nm (d, (i : Int)) = some (match stepQ s.lowers nm d l[i] with | .inl d' => .nx (d', ((i + 1 : Nat) : Int)) | .inr r => .out (.inr r)) := by
      simp only [m_ref16_Find_b0]
      rw [if_pos (by omega), ix_at hi]
      simp only [Option.bind_some]
      rw [rentry_eq h, wr_suc (by omega)]
      simp only [Option.bind_some, stepQ]
      cases he : entQ s.lowers l[i] nm with
      | none => simp
      | some p =>
        obtain ⟨y, n⟩ := p
        obtain ⟨e1, e2, _⟩ := entQ_some he
        simp only at e1 e2
        subst e1
        simp only [Bool.not_true, Bool.false_eq_true, if_false]
        rw [lowerQ h]
        simp only [Option.bind_some]
        by_cases hk : (nodeQ s.lowers y).kind = 1
        · rw [if_pos hk, if_pos hk, ap_of (by simp; omega) (by decide)]
          simp only [Option.bind_some]
          rw [ropaque_eq (nodeQ_nb h y)]
          simp only [Option.bind_some]
          by_cases ho : opqQ (nodeQ s.lowers y) = true
          · rw [if_pos ho, if_pos ho]
          · rw [if_neg ho, if_neg ho]
        · rw [if_neg hk, if_neg hk]
          by_cases h0 : 0 < (d.length : Int)
          · rw [if_pos h0, if_pos h0]
          · rw [if_neg h0, if_neg h0]
            by_cases h2 : (nodeQ s.lowers y).kind = 2
            · rw [if_pos h2, if_pos (.inl h2)]
            · rw [if_neg h2]
              by_cases h3 : (nodeQ s.lowers y).kind = 3
              · rw [if_pos h3, if_pos (.inr h3)]
              · rw [if_neg h3, if_neg (by omega)]
    split
    · rename_i d' hs
      rw [hs] at hb
      refine ⟨hb, ?_⟩
      have := (foldQ_len (bs := s.lowers) (nm := nm) [l[i]] d).1 d' (by rw [foldE, hs]; rfl)
      simp at this
      omega
    · rename_i r hs
      rw [hs] at hb
      exact hb) (by
    intro d hd
    simp only [m_ref16_Find_b0]
    rw [if_neg (by omega)]) (s0 := []) (Nat.le_refl _) (fuel := big) (by rw [big_eq]; omega)
  have e0 : ((0 : Nat) : Int) = 0 := rfl
  rw [e0] at this
  rw [this]
  simp only [Option.bind_some]
  unfold findQ endQ
  cases foldE (stepQ s.lowers nm) l [] with
  | inl d => simp only; split <;> rfl
  | inr r => rfl
def outQ (o : List Place ⊕ (Int × List Place)) : (List Place) ⊕ ((List Place) ⊕ (Int × List Place)) := match o with
  | .inl d => .inl d
  | .inr r => if r.1 = 0 ∨ r.1 = 1 then .inr (.inl r.2) else .inr (.inr r)
theorem find_eq {s : Stack} (h : PQ s.lowers) {l : List Place} (hl : l.length ≤ 1000) (nm : ByteArray) : m_lower_Find s l nm = some (findQ s.lowers l nm) := by
  unfold m_lower_Find
  have := iter_foldE (B := m_lower_Find_b1 s l nm) (fun i d => (d, (i : Int))) l (stepQ s.lowers nm) outQ (fun i d => d.length ≤ i) (by
    intro i d hi hd
    have hb : m_lower_Find_b1 s l nm (d, (i : Int)) = some (match stepQ s.lowers nm d l[i] with | .inl d' => .nx (d', ((i + 1 : Nat) : Int)) | .inr r => .out (outQ (.inr r))) := by
      simp only [m_lower_Find_b1]
      rw [if_pos (by omega), ix_at hi]
      simp only [Option.bind_some]
      rw [entry_eq h, wr_suc (by omega)]
      simp only [Option.bind_some, stepQ]
      cases he : entQ s.lowers l[i] nm with
      | none => simp [zN]
      | some p =>
        obtain ⟨y, n⟩ := p
        obtain ⟨e1, e2, _⟩ := entQ_some he
        simp only at e1 e2
        subst e1
        simp only [Option.getD_some]
        rw [if_neg e2]
        by_cases hk : (nodeQ s.lowers y).kind = 1
        · rw [if_pos hk, if_pos hk, ap_of (by simp; omega) (by decide)]
          simp only [Option.bind_some]
          rw [lopaque_eq (nodeQ_nb h y)]
          simp only [Option.bind_some]
          cases ho : opqQ (nodeQ s.lowers y) with
          | true => simp [outQ]
          | false => simp
        · rw [if_neg hk, if_neg hk]
          by_cases h0 : 0 < (d.length : Int)
          · have hd0 : ¬ (d.length : Int) = 0 := by omega
            rw [if_pos h0, if_neg hd0]
            have ho : outQ (.inr (1, d)) = .inr (.inl d) := by simp [outQ]
            show _ = some (St.out (outQ (.inr (1, d))))
            rw [ho]
            split
            · rfl
            · split <;> rfl
          · have hd0 : (d.length : Int) = 0 := by omega
            have hd1 : d = [] := List.eq_nil_of_length_eq_zero (by omega)
            rw [if_neg h0, if_pos hd0]
            have ho : ∀ k : Int, ¬ k = 0 → ¬ k = 1 → outQ (.inr (k, [y])) = .inr (.inr (k, [y])) := fun k g1 g2 => if_neg (by rintro (g | g); exact g1 g; exact g2 g)
            have ho0 : outQ (.inr (0, [])) = .inr (.inl []) := by simp [outQ]
            by_cases h2 : (nodeQ s.lowers y).kind = 2
            · rw [if_pos h2, if_pos (Or.inl h2)]
              show _ = some (St.out (outQ (.inr (_, [y]))))
              rw [ho _ e2 hk]
            · rw [if_neg h2]
              by_cases h3 : (nodeQ s.lowers y).kind = 3
              · rw [if_pos h3, if_pos (Or.inr h3)]
                show _ = some (St.out (outQ (.inr (_, [y]))))
                rw [ho _ e2 hk]
              · rw [if_neg h3, if_neg (by omega)]
                show _ = some (St.out (outQ (.inr (0, []))))
                rw [ho0, hd1]
    split
    · rename_i d' hs
      rw [hs] at hb
      refine ⟨hb, ?_⟩
      have := (foldQ_len (bs := s.lowers) (nm := nm) [l[i]] d).1 d' (by rw [foldE, hs]; rfl)
      simp at this
      omega
    · rename_i r hs
      rw [hs] at hb
      exact hb) (by
    intro d hd
    simp only [m_lower_Find_b1]
    rw [if_neg (by omega)]
    rfl) (s0 := []) (Nat.le_refl _) (fuel := big) (by rw [big_eq]; omega)
  have e0 : ((0 : Nat) : Int) = 0 := rfl
  rw [e0] at this
  rw [this]
  simp only [Option.bind_some]
  have hp := findQ_prop s.lowers l nm
  unfold findQ endQ at *
  cases hf : foldE (stepQ s.lowers nm) l [] with
  | inl d =>
    simp only [outQ]
    by_cases h0 : (d.length : Int) = 0
    · rw [if_pos h0, if_neg (by omega)]
    · rw [if_neg h0, if_pos (by omega)]
  | inr r =>
    rw [hf] at hp
    simp only at hp
    simp only [outQ]
    obtain ⟨k, d⟩ := r
    by_cases h1 : k = 0 ∨ k = 1
    · rw [if_pos h1]
      simp only
      rcases h1 with h1 | h1
      · subst h1
        have := hp.nil rfl
        simp only at this
        subst this
        rfl
      · subst h1
        have : 0 < d.length := by rcases hp.some with h | h; cases h; exact h
        rw [if_neg (by omega)]
    · rw [if_neg h1]
def stepL (bs : List Branch) (d : List Place) (nm : ByteArray) : List Place ⊕ (List Place × Bool) := if (findQ bs d nm).1 = 1 then .inl (findQ bs d nm).2 else .inr ([], false)
def lookQ (bs : List Branch) (l : List Place) (nms : List ByteArray) : List Place × Bool := match foldE (stepL bs) nms l with
  | .inl d => (d, true)
  | .inr r => r
theorem clone_of {n : Nat} {α : Type} {l : List α} (h : l.length * n ≤ 140737488355328) (hn : 0 < n) : cloneM n l = some l := by
  unfold cloneM
  rw [ap_of (by simpa using h) hn]
  rfl
theorem rlook_eq {s : Stack} (h : PQ s.lowers) {l : List Place} (hl : l.length ≤ 1000) {nms : List ByteArray} (hn : nms.length ≤ 1000) : m_ref16_Look s l nms = some (lookQ s.lowers l nms) := by
  unfold m_ref16_Look
  have := iter_foldE (B := m_ref16_Look_b0 s nms) (fun i d => (d, (i : Int))) nms (stepL s.lowers) (fun o => o) (fun i d => d.length ≤ 1000) (by
    intro i d hi hd
    have hb : m_ref16_Look_b0 s nms (d, (i : Int)) = some (match stepL s.lowers d nms[i] with | .inl d' => .nx (d', ((i + 1 : Nat) : Int)) | .inr r => .out (.inr r)) := by
      simp only [m_ref16_Look_b0]
      rw [if_pos (by omega), ix_at hi]
      simp only [Option.bind_some]
      rw [rfind_eq h hd, wr_suc (by omega)]
      simp only [Option.bind_some, stepL]
      split <;> rfl
    split
    · rename_i d' hs
      rw [hs] at hb
      refine ⟨hb, ?_⟩
      unfold stepL at hs
      split at hs
      · injection hs with hs
        subst hs
        exact Nat.le_trans (findQ_len _ _ _) hd
      · cases hs
    · rename_i r hs
      rw [hs] at hb
      exact hb) (by
    intro d hd
    simp only [m_ref16_Look_b0]
    rw [if_neg (by omega)]) (s0 := l) hl (fuel := big) (by rw [big_eq]; omega)
  have e0 : ((0 : Nat) : Int) = 0 := rfl
  rw [e0] at this
  rw [this]
  simp only [Option.bind_some]
  unfold lookQ
  cases foldE (stepL s.lowers) nms l <;> rfl
theorem look_eq {s : Stack} (h : PQ s.lowers) {l : List Place} (hl : l.length ≤ 1000) {nms : List ByteArray} (hn : nms.length ≤ 1000) : m_lower_Look s l nms = some (lookQ s.lowers l nms) := by
  unfold m_lower_Look
  rw [clone_of (by omega) (by decide)]
  simp only [Option.bind_some]
  have := iter_foldE (B := m_lower_Look_b0 s nms) (fun i d => (d, (i : Int))) nms (stepL s.lowers) (fun o => o) (fun i d => d.length ≤ 1000) (by
    intro i d hi hd
    have hb : m_lower_Look_b0 s nms (d, (i : Int)) = some (match stepL s.lowers d nms[i] with | .inl d' => .nx (d', ((i + 1 : Nat) : Int)) | .inr r => .out (.inr r)) := by
      simp only [m_lower_Look_b0]
      rw [if_pos (by omega), ix_at hi]
      simp only [Option.bind_some]
      rw [find_eq h hd, wr_suc (by omega)]
      simp only [Option.bind_some, stepL]
      split <;> rfl
    split
    · rename_i d' hs
      rw [hs] at hb
      refine ⟨hb, ?_⟩
      unfold stepL at hs
      split at hs
      · injection hs with hs
        subst hs
        exact Nat.le_trans (findQ_len _ _ _) hd
      · cases hs
    · rename_i r hs
      rw [hs] at hb
      exact hb) (by
    intro d hd
    simp only [m_lower_Look_b0]
    rw [if_neg (by omega)]) (s0 := l) hl (fuel := big) (by rw [big_eq]; omega)
  have e0 : ((0 : Nat) : Int) = 0 := rfl
  rw [e0] at this
  rw [this]
  simp only [Option.bind_some]
  unfold lookQ
  cases foldE (stepL s.lowers) nms l <;> rfl
theorem lookQ_len {bs : List Branch} : ∀ (nms : List ByteArray) (l : List Place), (lookQ bs l nms).1.length ≤ l.length
  | [], l => Nat.le_refl _
  | n :: nms, l => by
    have := lookQ_len nms (findQ bs l n).2 (bs := bs)
    unfold lookQ at this ⊢
    unfold foldE
    by_cases h : (findQ bs l n).1 = 1
    · have e : stepL bs l n = .inl (findQ bs l n).2 := if_pos h
      rw [e]
      exact Nat.le_trans this (findQ_len _ _ _)
    · have e : stepL bs l n = .inr ([], false) := if_neg h
      rw [e]
      exact Nat.zero_le _
def stepO (bs : List Branch) (d : List Place) (i : Nat) : List Place ⊕ List Place :=
  if (nodeQ bs ⟨((i + 1 : Nat) : Int), 1⟩).kind = 1 then (if opqQ (nodeQ bs ⟨((i + 1 : Nat) : Int), 1⟩) = true then .inr (d ++ [⟨((i + 1 : Nat) : Int), 1⟩]) else .inl (d ++ [⟨((i + 1 : Nat) : Int), 1⟩])) else .inl d
def rootsQ (bs : List Branch) : List Place := match foldE (stepO bs) (List.range bs.length) [] with
  | .inl d => d
  | .inr d => d
theorem stepO_len {bs : List Branch} {d d' : List Place} {i : Nat} (h : stepO bs d i = .inl d') : d'.length ≤ d.length + 1 := by
  unfold stepO at h
  split at h
  · split at h
    · cases h
    · injection h with h; subst h; simp
  · injection h with h; subst h; omega
theorem roots_eq {s : Stack} (h : PQ s.lowers) : m_lower_Roots s = some (rootsQ s.lowers) := by
  unfold m_lower_Roots
  have hl := h.len
  have := iter_foldE (B := m_lower_Roots_b0 s) (fun i d => (d, (i : Int))) (List.range s.lowers.length) (stepO s.lowers) (fun o => match o with | .inl d => d | .inr d => d) (fun i d => d.length ≤ i) (by
    intro i d hi hd
    have hi' : i < s.lowers.length := by simpa using hi
    rw [List.getElem_range]
    have hb : m_lower_Roots_b0 s (d, (i : Int)) = some (match stepO s.lowers d i with | .inl d' => .nx (d', ((i + 1 : Nat) : Int)) | .inr r => .out r) := by
      simp only [m_lower_Roots_b0]
      rw [if_pos (by omega), wr_suc (by omega), pile_eq h]
      simp only [Option.bind_some, stepO]
      by_cases hk : (nodeQ s.lowers ⟨((i + 1 : Nat) : Int), 1⟩).kind = 1
      · rw [if_pos hk, if_pos hk, ap_of (by simp; omega) (by decide)]
        simp only [Option.bind_some]
        rw [lopaque_eq (nodeQ_nb h _)]
        simp only [Option.bind_some]
        split <;> rfl
      · rw [if_neg hk, if_neg hk]
    split
    · rename_i d' hs
      rw [hs] at hb
      have := stepO_len hs
      exact ⟨hb, by omega⟩
    · rename_i r hs
      rw [hs] at hb
      exact hb) (by
    intro d hd
    simp only [m_lower_Roots_b0, List.length_range]
    rw [if_neg (by omega)]) (s0 := []) (Nat.le_refl _) (fuel := big) (by rw [big_eq]; simp; omega)
  have e0 : ((0 : Nat) : Int) = 0 := rfl
  rw [e0] at this
  rw [this]
  rfl
theorem rroots_eq {s : Stack} (h : PQ s.lowers) : m_ref16_Roots s = some (rootsQ s.lowers) := by
  unfold m_ref16_Roots
  have hl := h.len
  have := iter_foldE (B := m_ref16_Roots_b0 s) (fun i d => (d, ((i + 1 : Nat) : Int))) (List.range s.lowers.length) (stepO s.lowers) (fun o => o) (fun i d => d.length ≤ i) (by
    intro i d hi hd
    have hi' : i < s.lowers.length := by simpa using hi
    rw [List.getElem_range]
    have hb : m_ref16_Roots_b0 s (d, ((i + 1 : Nat) : Int)) = some (match stepO s.lowers d i with | .inl d' => .nx (d', ((i + 1 + 1 : Nat) : Int)) | .inr r => .out (.inr r)) := by
      simp only [m_ref16_Roots_b0]
      rw [if_pos (by omega), wr_suc (by omega), lowerQ h]
      simp only [Option.bind_some, stepO]
      by_cases hk : (nodeQ s.lowers ⟨((i + 1 : Nat) : Int), 1⟩).kind = 1
      · rw [if_pos hk, if_pos hk, ap_of (by simp; omega) (by decide)]
        simp only [Option.bind_some]
        rw [ropaque_eq (nodeQ_nb h _)]
        simp only [Option.bind_some]
        split <;> rfl
      · rw [if_neg hk, if_neg hk]
    split
    · rename_i d' hs
      rw [hs] at hb
      have := stepO_len hs
      exact ⟨hb, by omega⟩
    · rename_i r hs
      rw [hs] at hb
      exact hb) (by
    intro d hd
    simp only [m_ref16_Roots_b0, List.length_range]
    rw [if_neg (by omega)]) (s0 := []) (Nat.le_refl _) (fuel := big) (by rw [big_eq]; simp; omega)
  have e0 : ((0 + 1 : Nat) : Int) = 1 := rfl
  rw [e0] at this
  rw [this]
  simp only [Option.bind_some]
  unfold rootsQ
  cases foldE (stepO s.lowers) (List.range s.lowers.length) [] <;> rfl
theorem rootsQ_len {bs : List Branch} (h : PQ bs) : (rootsQ bs).length ≤ 3 := by
  have hl := h.len
  have key : ∀ (xs : List Nat) (d : List Place), (match foldE (stepO bs) xs d with | .inl d => d | .inr d => d).length ≤ d.length + xs.length := by
    intro xs
    induction xs with
    | nil => intro d; simp [foldE]
    | cons x xs ih =>
      intro d
      unfold foldE
      cases hs : stepO bs d x with
      | inl d' =>
        have h1 := stepO_len hs
        have h2 := ih d'
        simp only [List.length_cons]
        omega
      | inr d' =>
        unfold stepO at hs
        split at hs
        · split at hs
          · injection hs with hs; subst hs; simp
          · cases hs
        · cases hs
  have := key (List.range bs.length) []
  simp only [List.length_range, List.length_nil] at this
  unfold rootsQ
  omega
end Go.Proofs.YtapdjibjnfeipaaGreatDoor.AL

/- Plain laws: sorted texts, each once. -/
set_option linter.all false
namespace Go.Proofs.YtapdjibjnfeipaaGreatDoor.AL
open Go Go.Proofs
abbrev Rising (l : List ByteArray) : Prop := l.Pairwise (fun a b => bl a < bl b)
theorem less_eq (a b : ByteArray) : Op.bytesLess a.toList b.toList = decide (bl a < bl b) := by
  rw [bytesLess_eq, Lib.toList_data, Lib.toList_data]
  rfl
theorem rising_ext {a b : List ByteArray} (ha : Rising a) (hb : Rising b) (h : ∀ x, x ∈ a ↔ x ∈ b) : a = b := by
  have nd : ∀ {l : List ByteArray}, Rising l → l.Nodup := fun h => List.Pairwise.imp (by rintro x y hxy rfl; exact List.lt_irrefl _ hxy) h
  have hp : a.Perm b := (List.perm_ext_iff_of_nodup (nd ha) (nd hb)).2 h
  refine List.Perm.eq_of_pairwise (le := fun a b => bl a < bl b) (fun x y _ _ h1 h2 => absurd (List.lt_trans h1 h2) (List.lt_irrefl _)) ha hb hp
def sortQ (l : List ByteArray) : List ByteArray := cmpB (sortB l)
theorem sortQ_rising (l : List ByteArray) : Rising (sortQ l) := cmpB_sorted _ (sortB_sorted l)
theorem sortQ_mem (l : List ByteArray) (x : ByteArray) : x ∈ sortQ l ↔ x ∈ l := by
  unfold sortQ
  rw [cmpB_mem, (sortB_perm l).mem_iff]
theorem sortQ_len (l : List ByteArray) : (sortQ l).length ≤ l.length := by
  have := cmpB_len (sortB l)
  rw [(sortB_perm l).length_eq] at this
  exact this
theorem nsort_eq {l : List ByteArray} (h : l.length ≤ 1000000) : m_name_Sort l = some (sortQ l) := by
  have hs := (sortB_perm l).length_eq
  unfold m_name_Sort m_slices_Sort_string_string m_slices_Compact_string_string cloneM ck
  rw [ap_of (by simp; omega) (by decide)]
  simp only [Option.bind_some, List.nil_append]
  rw [if_pos (by omega)]
  simp only [Option.bind_some]
  rw [if_pos (by omega)]
  rfl
def twB (x : ByteArray) (out : List ByteArray) : List ByteArray := out.takeWhile fun y => decide (bl y < bl x)
def dwB (x : ByteArray) (out : List ByteArray) : List ByteArray := out.dropWhile fun y => decide (bl y < bl x)
def insU (out : List ByteArray) (x : ByteArray) : List ByteArray := match dwB x out with
  | [] => twB x out ++ [x]
  | b :: B => if b = x then out else twB x out ++ x :: b :: B
theorem tw_dw (x : ByteArray) (out : List ByteArray) : twB x out ++ dwB x out = out := List.takeWhile_append_dropWhile
theorem take_tw (x : ByteArray) (out : List ByteArray) : out.take (twB x out).length = twB x out := by
  have h := tw_dw x out
  generalize twB x out = a at h
  generalize dwB x out = b at h
  subst h
  simp
theorem drop_tw (x : ByteArray) (out : List ByteArray) : out.drop (twB x out).length = dwB x out := by
  have h := tw_dw x out
  generalize twB x out = a at h
  generalize dwB x out = b at h
  subst h
  simp
theorem tw_lt {x y : ByteArray} {out : List ByteArray} (h : y ∈ twB x out) : bl y < bl x := by
  have := List.all_takeWhile (l := out) (p := fun y => decide (bl y < bl x))
  have := List.all_eq_true.1 this y h
  simpa using this
theorem dw_head {x b : ByteArray} {out B : List ByteArray} (h : dwB x out = b :: B) : ¬ bl b < bl x := by
  induction out with
  | nil => simp [dwB] at h
  | cons a out ih =>
    unfold dwB at h
    rw [List.dropWhile_cons] at h
    split at h
    · exact ih h
    · rename_i ha
      injection h with h1 h2
      subst h1
      simpa using ha
theorem insU_rising {out : List ByteArray} (h : Rising out) (x : ByteArray) : Rising (insU out x) := by
  unfold insU
  have hd := tw_dw x out
  split
  · rename_i hdw
    rw [hdw, List.append_nil] at hd
    refine List.pairwise_append.2 ⟨by rw [hd]; exact h, by simp, fun y hy z hz => ?_⟩
    obtain rfl : z = x := by simpa using hz
    exact tw_lt hy
  · rename_i b B hdw
    split
    · exact h
    · rename_i hne
      rw [hdw] at hd
      have h' := h
      rw [← hd] at h'
      obtain ⟨g1, g2, g3⟩ := List.pairwise_append.1 h'
      have hlt : bl x < bl b := by
        rcases Decidable.em (bl x < bl b) with h | h
        · exact h
        · exact absurd (ba_ext (List.le_antisymm (List.not_lt.1 h) (List.not_lt.1 (dw_head hdw)))) hne
      refine List.pairwise_append.2 ⟨g1, List.pairwise_cons.2 ⟨fun z hz => ?_, g2⟩, fun y hy z hz => ?_⟩
      · rcases List.mem_cons.1 hz with rfl | hz
        · exact hlt
        · exact List.lt_trans hlt ((List.pairwise_cons.1 g2).1 z hz)
      · rcases List.mem_cons.1 hz with rfl | hz
        · exact tw_lt hy
        · exact g3 y hy z hz
theorem insU_mem (out : List ByteArray) (x y : ByteArray) : y ∈ insU out x ↔ y ∈ out ∨ y = x := by
  unfold insU
  have hd := tw_dw x out
  split
  · rename_i hdw
    rw [hdw, List.append_nil] at hd
    rw [hd]
    simp
  · rename_i b B hdw
    rw [hdw] at hd
    split
    · rename_i hbx
      subst hbx
      have hb : b ∈ out := by rw [← hd]; simp
      constructor
      · exact .inl
      · rintro (h | rfl)
        · exact h
        · exact hb
    · generalize twB x out = a at hd
      subst hd
      simp only [List.mem_append, List.mem_cons]
      constructor
      · rintro (h | h | h | h)
        · exact .inl (.inl h)
        · exact .inr h
        · exact .inl (.inr (.inl h))
        · exact .inl (.inr (.inr h))
      · rintro ((h | h | h) | h)
        · exact .inl h
        · exact .inr (.inr (.inl h))
        · exact .inr (.inr (.inr h))
        · exact .inr (.inl h)
theorem insU_len (out : List ByteArray) (x : ByteArray) : (insU out x).length ≤ out.length + 1 := by
  unfold insU
  have hd := tw_dw x out
  have hl := congrArg List.length hd
  rw [List.length_append] at hl
  split
  · rename_i hdw
    rw [hdw] at hl
    simp at hl ⊢
    omega
  · rename_i b B hdw
    rw [hdw] at hl
    split
    · omega
    · simp at hl ⊢
      omega
def sortU (l : List ByteArray) : List ByteArray := l.foldl insU []
theorem sortU_prop : ∀ (l out : List ByteArray), Rising out → Rising (l.foldl insU out) ∧ ∀ y, y ∈ l.foldl insU out ↔ y ∈ out ∨ y ∈ l
  | [], out, h => ⟨h, fun y => by simp⟩
  | x :: l, out, h => by
    obtain ⟨h1, h2⟩ := sortU_prop l (insU out x) (insU_rising h x)
    refine ⟨h1, fun y => ?_⟩
    rw [List.foldl_cons, h2, insU_mem, List.mem_cons]
    constructor
    · rintro ((h | h) | h)
      · exact .inl h
      · exact .inr (.inl h)
      · exact .inr (.inr h)
    · rintro (h | h | h)
      · exact .inl (.inl h)
      · exact .inl (.inr h)
      · exact .inr h
theorem sortU_rising (l : List ByteArray) : Rising (sortU l) := (sortU_prop l [] .nil).1
theorem sortU_mem (l : List ByteArray) (x : ByteArray) : x ∈ sortU l ↔ x ∈ l := by
  unfold sortU
  rw [(sortU_prop l [] .nil).2]
  simp
theorem sortU_sortQ (l : List ByteArray) : sortU l = sortQ l := rising_ext (sortU_rising l) (sortQ_rising l) fun x => by rw [sortU_mem, sortQ_mem]
theorem tw_at {x : ByteArray} : ∀ {l : List ByteArray} {j : Nat}, j ≤ l.length → (∀ q (h : q < l.length), q < j → bl l[q] < bl x) → (∀ h : j < l.length, ¬ bl l[j] < bl x) → (twB x l).length = j
  | [], j, hj, _, _ => by simp at hj; subst hj; rfl
  | a :: l, 0, hj, h1, h2 => by
    unfold twB
    rw [List.takeWhile_cons, if_neg]
    · rfl
    · have := h2 (by simp)
      simpa using this
  | a :: l, j + 1, hj, h1, h2 => by
    have ha : bl a < bl x := h1 0 (by simp) (by omega)
    have := tw_at (l := l) (j := j) (x := x) (by simpa using hj) (fun q h hq => h1 (q + 1) (by simpa using h) (by omega)) (fun h => h2 (by simpa using h))
    unfold twB at this ⊢
    rw [List.takeWhile_cons, if_pos (by simpa using ha), List.length_cons, this]
theorem pos_eq {a0 v3 : List ByteArray} {i : Nat} (hi : i < a0.length) (hv : v3.length ≤ 1000000) : iter (m_ref03_Sort_b1 a0 v3 (i : Int)) big 0 = some (((twB a0[i] v3).length : Nat) : Int) := by
  obtain ⟨r, h1, h2⟩ := iter_term (B := m_ref03_Sort_b1 a0 v3 (i : Int)) (R := fun r => r = (((twB a0[i] v3).length : Nat) : Int)) (fun j t => t = (j : Int) ∧ j ≤ v3.length ∧ ∀ q (h : q < v3.length), q < j → bl v3[q] < bl a0[i]) v3.length (by
    rintro j t ⟨rfl, hj, hq⟩
    refine ⟨hj, ?_⟩
    simp only [m_ref03_Sort_b1]
    by_cases hlt : j < v3.length
    · rw [if_pos (by omega), ix_at hlt, ix_at hi]
      simp only [Option.bind_some]
      rw [less_eq]
      by_cases hl : bl v3[j] < bl a0[i]
      · rw [if_pos (by simpa using hl), wr_suc (by omega)]
        refine .inl ⟨_, rfl, rfl, by omega, fun q h hqj => ?_⟩
        by_cases e : q = j
        · subst e; exact hl
        · exact hq q h (by omega)
      · rw [if_neg (by simpa using hl)]
        exact .inr ⟨_, rfl, by rw [tw_at hj hq (fun _ => hl)]⟩
    · rw [if_neg (by omega)]
      exact .inr ⟨_, rfl, by rw [tw_at hj hq (fun h => absurd h hlt)]⟩) big 0 0 ⟨rfl, by omega, fun q h hq => by omega⟩ (by rw [big_eq]; omega)
  rw [h1, h2]
theorem shift_eq {v3 : List ByteArray} {k : Nat} (hk : k ≤ v3.length) (hv : v3.length ≤ 1000000) {B : (Int × List ByteArray) → Option (St (Int × List ByteArray) (List ByteArray))}
    (hB : ∀ j L, B (j, L) = if (k : Int) < j then (ix L (wr (j - 1))).bind fun a => (ix L j).bind fun _ => some (.nx ((wr (j - 1)), (L.set (j).toNat a))) else some (.out L)) :
    ∃ z, iter B big ((wr (((v3 ++ ([noBytes] : List ByteArray)).length : Int) - 1)), (v3 ++ ([noBytes] : List ByteArray))) = some (v3.take k ++ z :: v3.drop k) := by
  obtain ⟨r, h1, z, h2⟩ := iter_term (B := B) (R := fun r => ∃ z, r = v3.take k ++ z :: v3.drop k) (fun i t => i ≤ v3.length - k ∧ ∃ z, t = (((v3.length - i : Nat) : Int), v3.take (v3.length - i) ++ z :: v3.drop (v3.length - i))) v3.length (by
    rintro i t ⟨hi, z, rfl⟩
    refine ⟨by omega, ?_⟩
    rw [hB]
    by_cases hlt : k < v3.length - i
    · obtain ⟨j, hj⟩ : ∃ j, v3.length - i = j + 1 := ⟨v3.length - i - 1, by omega⟩
      rw [hj]
      have hjl : j < v3.length := by omega
      rw [if_pos (by omega), wr_in (by omega) (by omega)]
      have e1 : ((j + 1 : Nat) : Int) - 1 = (j : Int) := by omega
      rw [e1]
      have hlen : (v3.take (j + 1) ++ z :: v3.drop (j + 1)).length = v3.length + 1 := by simp; omega
      rw [ix_at (by omega), ix_at (by omega)]
      simp only [Option.bind_some]
      refine .inl ⟨_, rfl, by omega, v3[j], ?_⟩
      have e2 : v3.length - (i + 1) = j := by omega
      rw [e2]
      congr 1
      have e3 : (v3.take (j + 1) ++ z :: v3.drop (j + 1))[j]'(by omega) = v3[j] := by
        rw [List.getElem_append_left (by simp; omega)]
        simp
      rw [e3]
      have e4 : ((j + 1 : Nat) : Int).toNat = j + 1 := by omega
      rw [e4, List.set_append_right _ _ (by simp; omega)]
      have e5 : j + 1 - (v3.take (j + 1)).length = 0 := by simp; omega
      rw [e5, List.set_cons_zero, List.take_succ_eq_append_getElem hjl, List.append_assoc]
      congr 1
      rw [List.drop_eq_getElem_cons hjl]
      rfl
    · rw [if_neg (by omega)]
      have e : v3.length - i = k := by omega
      rw [e]
      exact .inr ⟨_, rfl, z, rfl⟩) big 0 ((wr (((v3 ++ ([noBytes] : List ByteArray)).length : Int) - 1)), (v3 ++ ([noBytes] : List ByteArray))) ⟨Nat.zero_le _, noBytes, by
        simp only [Nat.sub_zero, List.take_length, List.drop_length]
        rw [wr_in (by simp <;> omega) (by simp <;> omega)]
        congr 1
        first | done | simp⟩ (by rw [big_eq]; omega)
  exact ⟨z, by rw [h1, h2]⟩
theorem set_mid (a b : List ByteArray) (z x : ByteArray) (k : Nat) (h : a.length = k) : (a ++ z :: b).set k x = a ++ x :: b := by
  subst h
  rw [List.set_append_right _ _ (Nat.le_refl _), Nat.sub_self, List.set_cons_zero]
theorem rsort_eq {l : List ByteArray} (h : l.length ≤ 100000) : m_ref03_Sort l = some (sortU l) := by
  unfold m_ref03_Sort
  have := iter_fold (B := m_ref03_Sort_b0 l) (fun i d => (d, (i : Int))) l insU (fun d => d) (fun i d => d.length ≤ i) (by
    intro i d hi hd
    refine ⟨?_, by have := insU_len d l[i]; omega⟩
    simp only [m_ref03_Sort_b0]
    rw [if_pos (by omega), pos_eq hi (by omega)]
    simp only [Option.bind_some]
    have hdl := congrArg List.length (tw_dw l[i] d)
    rw [List.length_append] at hdl
    have hd1 := drop_tw l[i] d
    have hd2 := take_tw l[i] d
    generalize hk : (twB l[i] d).length = k at *
    cases hdw : dwB l[i] d with
    | nil =>
      rw [hdw] at hdl hd1
      simp only [List.length_nil] at hdl
      rw [if_neg (by omega), ap_of (by simp; omega) (by decide)]
      simp only [Option.bind_some]
      obtain ⟨z, hz⟩ := shift_eq (v3 := d) (k := k) (by omega) (by omega) (B := m_ref03_Sort_b3 (k : Int)) (fun j L => rfl)
      rw [hz]
      simp only [Option.bind_some]
      have hlen : (d.take k ++ z :: d.drop k).length = d.length + 1 := by simp; omega
      rw [ix_at hi]
      simp only [Option.bind_some]
      rw [ix_at (by omega)]
      simp only [Option.bind_some]
      rw [wr_suc (by omega)]
      have e4 : ((k : Nat) : Int).toNat = k := by omega
      rw [e4, set_mid _ _ _ _ k (by simp; omega), hd1, hd2]
      have : insU d l[i] = twB l[i] d ++ [l[i]] := by unfold insU; rw [hdw]
      rw [this]
    | cons b B =>
      rw [hdw] at hdl hd1
      simp only [List.length_cons] at hdl
      have hkd : k < d.length := by omega
      rw [if_pos (by omega), ix_at hkd, ix_at hi]
      simp only [Option.bind_some]
      have hb : d[k] = b := by
        rw [List.drop_eq_getElem_cons hkd] at hd1
        injection hd1
      rw [hb]
      by_cases hbx : b = l[i]
      · rw [if_pos hbx, wr_suc (by omega)]
        have : insU d l[i] = d := by unfold insU; rw [hdw]; exact if_pos hbx
        rw [this]
      · rw [if_neg hbx, ap_of (by simp; omega) (by decide)]
        simp only [Option.bind_some]
        obtain ⟨z, hz⟩ := shift_eq (v3 := d) (k := k) (by omega) (by omega) (B := m_ref03_Sort_b2 (k : Int)) (fun j L => rfl)
        rw [hz]
        simp only [Option.bind_some]
        have hlen : (d.take k ++ z :: d.drop k).length = d.length + 1 := by simp; omega
        rw [ix_at (by omega)]
        simp only [Option.bind_some]
        rw [wr_suc (by omega)]
        have e4 : ((k : Nat) : Int).toNat = k := by omega
        rw [e4, set_mid _ _ _ _ k (by simp; omega), hd1, hd2]
        have : insU d l[i] = twB l[i] d ++ l[i] :: b :: B := by unfold insU; rw [hdw]; exact if_neg hbx
        rw [this]) (by
    intro d hd
    simp only [m_ref03_Sort_b0]
    rw [if_neg (by omega)]) (s0 := []) (Nat.le_refl _) (fuel := big) (by rw [big_eq]; omega)
  have e0 : ((0 : Nat) : Int) = 0 := rfl
  rw [e0] at this
  rw [this.1]
  rfl
theorem equal_str {a b : List ByteArray} (h : a.length ≤ 1000000000) : m_slices_Equal_string_string a b = some (decide (a = b)) := by
  unfold m_slices_Equal_string_string
  by_cases hl : a.length = b.length
  · rw [if_pos (by omega), eqLoop hl h]
    · by_cases he : a = b <;> simp [he]
    · intro i h1 h2
      simp only [m_slices_Equal_string_string_b0]
      rw [if_pos (by omega), ix_at h1, ix_at h2]
      simp only [Option.bind_some]
      rw [wr_suc (by omega)]
    · simp only [m_slices_Equal_string_string_b0]
      rw [if_neg (by omega)]
  · rw [if_neg (by omega)]
    have : ¬ a = b := by rintro rfl; exact hl rfl
    simp [this]
end Go.Proofs.YtapdjibjnfeipaaGreatDoor.AL

/- Plain laws of chapter 16: names, and the two laws. -/
set_option linter.all false
namespace Go.Proofs.YtapdjibjnfeipaaGreatDoor.AL
open Go Go.Proofs
def fndQ (bs : List Branch) (l : List Place) (nm : ByteArray) : Bool := !decide ((findQ bs l nm).1 = 0)
theorem SB.pq {s : Stack} (h : SB s) : PQ s.lowers := ⟨h.low, fun b hb => h.lows b hb⟩
end Go.Proofs.YtapdjibjnfeipaaGreatDoor.AL

/- Plain laws: names. -/
set_option linter.all false
namespace Go.Proofs.YtapdjibjnfeipaaGreatDoor.AL
open Go Go.Proofs
def letP (n : Int) : Bool := decide ((97 ≤ n ∧ n ≤ 122) ∨ (48 ≤ n ∧ n ≤ 57) ∨ n = 46 ∨ n = 95 ∨ n = 45)
theorem letter_eq (n : Int) : m_ref03_letter n = some (letP n) := by
  unfold m_ref03_letter letP
  repeat' split
  all_goals (congr 1; symm; first | (apply decide_eq_true; omega) | (apply decide_eq_false; omega))
theorem nletter_eq (n : Int) : m_name_letter n = some (letP n) := letter_eq n
def rightP (s : ByteArray) : Bool := decide (1 ≤ s.size ∧ s.size ≤ 12 ∧ ¬ s = ⟨#[46]⟩ ∧ ¬ s = ⟨#[46, 46]⟩) && s.data.toList.all fun b => letP b.toNat
theorem bsize (s : ByteArray) : s.data.toList.length = s.size := by simp
theorem ixB_at {s : ByteArray} {i : Nat} (h : i < s.size) : ixB s (i : Int) = some (s.data.toList[i]'(by rw [bsize]; exact h)) := by
  unfold ixB
  rw [if_pos (by omega)]
  simp [h]
  rfl
theorem right_eq (s : ByteArray) : m_ref03_Right s = some (rightP s) := by
  unfold m_ref03_Right rightP
  by_cases h1 : (s.size : Int) < 1
  · rw [if_pos h1, decide_eq_false (by omega)]; rfl
  rw [if_neg h1]
  by_cases h2 : 12 < (s.size : Int)
  · rw [if_pos h2, decide_eq_false (by omega)]; rfl
  rw [if_neg h2]
  by_cases h3 : s = ⟨#[46]⟩
  · rw [if_pos h3, decide_eq_false (fun h => h.2.2.1 h3)]; rfl
  rw [if_neg h3]
  by_cases h4 : s = ⟨#[46, 46]⟩
  · rw [if_pos h4, decide_eq_false (fun h => h.2.2.2 h4)]; rfl
  rw [if_neg h4, decide_eq_true ⟨by omega, by omega, h3, h4⟩]
  have hb := bsize s
  obtain ⟨r, e1, e2⟩ := iter_term (B := m_ref03_Right_b0 s) (R := fun r => match r with | .inl _ => (s.data.toList.all fun b => letP b.toNat) = true | .inr r => r = false ∧ (s.data.toList.all fun b => letP b.toNat) = false)
    (fun i t => t = (i : Int) ∧ i ≤ s.size ∧ ∀ j (h : j < s.data.toList.length), j < i → letP (s.data.toList[j]).toNat = true) s.size (by
    rintro i t ⟨rfl, hi, hj⟩
    refine ⟨hi, ?_⟩
    simp only [m_ref03_Right_b0]
    by_cases hlt : i < s.size
    · rw [if_pos (by omega), ixB_at hlt]
      simp only [Option.bind_some]
      rw [letter_eq]
      simp only [Option.bind_some]
      by_cases hl : letP (s.data.toList[i]'(by omega)).toNat = true
      · rw [hl, if_neg (by simp), wr_suc (by omega)]
        refine .inl ⟨_, rfl, rfl, by omega, fun j h hj' => ?_⟩
        by_cases e : j = i
        · subst e; exact hl
        · exact hj j h (by omega)
      · rw [if_pos (by simpa using hl)]
        refine .inr ⟨_, rfl, rfl, ?_⟩
        rw [List.all_eq_false]
        exact ⟨_, List.getElem_mem (by omega), hl⟩
    · rw [if_neg (by omega)]
      refine .inr ⟨_, rfl, ?_⟩
      simp only
      rw [List.all_eq_true]
      intro b hb'
      obtain ⟨j, h, rfl⟩ := List.getElem_of_mem hb'
      exact hj j h (by omega)) big 0 0 ⟨rfl, by omega, fun j _ h => by omega⟩ (by rw [big_eq]; omega)
  rw [e1]
  cases r with
  | inl u => simp only at e2; rw [e2]; rfl
  | inr r => simp only at e2; rw [e2.1, e2.2]; rfl
theorem idx_letters (s : ByteArray) : ∀ (f pos : Nat), pos ≤ s.size → s.size ≤ f + pos → (Lib.idxFuncFrom (fun x => !letP (x : Int)) true s f pos < 0 ↔ ∀ j (h : j < s.data.toList.length), pos ≤ j → letP (s.data.toList[j]).toNat = true)
  | 0, pos, h1, h2 => by
    have hb := bsize s
    simp only [Lib.idxFuncFrom]
    exact ⟨fun _ j h hj => by omega, fun _ => by omega⟩
  | f + 1, pos, h1, h2 => by
    have hb := bsize s
    unfold Lib.idxFuncFrom
    by_cases hlt : pos < s.size
    · rw [if_pos hlt]
      have hg : s[pos]'hlt = s.data.toList[pos]'(by omega) := rfl
      by_cases ha : (s[pos]'hlt).toNat < 128
      · rw [decode_ascii s pos hlt ha]
        simp only
        by_cases hl : letP ((s[pos]'hlt).toNat : Int) = true
        · rw [if_neg (by simp [hl])]
          rw [idx_letters s f (pos + 1) (by omega) (by omega)]
          constructor
          · intro h j hj hpj
            by_cases e : j = pos
            · subst e; rw [← hg]; exact hl
            · exact h j hj (by omega)
          · intro h j hj hpj
            exact h j hj (by omega)
        · rw [if_pos (by simpa using hl)]
          constructor
          · intro h; omega
          · intro h
            have := h pos (by omega) (Nat.le_refl _)
            rw [← hg] at this
            exact absurd this hl
      · obtain ⟨d1, d2⟩ := decode_high s pos hlt (by omega)
        have hno : letP (((Utf8.decode s pos).1 : Nat) : Int) = false := by
          unfold letP
          apply decide_eq_false
          omega
        rw [if_pos (by simp [hno])]
        constructor
        · intro h; omega
        · intro h
          have := h pos (by omega) (Nat.le_refl _)
          rw [← hg] at this
          unfold letP at this
          have := of_decide_eq_true this
          omega
    · rw [if_neg hlt]
      exact ⟨fun _ j h hj => by omega, fun _ => by omega⟩
theorem nright_eq (s : ByteArray) : m_name_Right s = some (rightP s) := by
  have hb := bsize s
  unfold m_name_Right rightP
  by_cases h1 : (s.size : Int) = 0
  · rw [if_pos h1, decide_eq_false (by omega)]; rfl
  rw [if_neg h1]
  by_cases h2 : 12 < (s.size : Int)
  · rw [if_pos h2, decide_eq_false (by omega)]; rfl
  rw [if_neg h2]
  by_cases h3 : s = ⟨#[46]⟩
  · rw [if_pos h3, decide_eq_false (fun h => h.2.2.1 h3)]; rfl
  rw [if_neg h3]
  by_cases h4 : s = ⟨#[46, 46]⟩
  · rw [if_pos h4, decide_eq_false (fun h => h.2.2.2 h4)]; rfl
  rw [if_neg h4, decide_eq_true ⟨by omega, by omega, h3, h4⟩]
  have hp : ∀ x : Int, m_name_Right_1 x = some (!letP x) := fun x => by unfold m_name_Right_1; rw [nletter_eq]; rfl
  unfold idxFM ck
  rw [if_pos (fun x => by show (m_name_Right_1 _).isSome = true; rw [hp]; rfl)]
  simp only [Option.bind_some, hp, Option.getD_some]
  have key := idx_letters s s.size 0 (by omega) (by omega)
  unfold Lib.idxFunc
  by_cases ha : (s.data.toList.all fun b => letP b.toNat) = true
  · rw [if_pos (key.2 fun j h _ => List.all_eq_true.1 ha _ (List.getElem_mem h)), ha]; rfl
  · rw [if_neg (fun h => ha (List.all_eq_true.2 fun b hb' => by obtain ⟨j, hj, rfl⟩ := List.getElem_of_mem hb'; exact key.1 h j hj (by omega)))]
    simp only [Bool.not_eq_true] at ha
    rw [ha]; rfl
end Go.Proofs.YtapdjibjnfeipaaGreatDoor.AL

/- Plain laws: the parts of a path. -/
set_option linter.all false
namespace Go.Proofs.YtapdjibjnfeipaaGreatDoor.AL
open Go Go.Proofs
def mkB (l : List UInt8) : ByteArray := ⟨l.toArray⟩
theorem mkB_toList (l : List UInt8) : (mkB l).data.toList = l := rfl
theorem mkB_of (s : ByteArray) : mkB s.data.toList = s := rfl
theorem mkB_app (a b : List UInt8) : mkB a ++ mkB b = mkB (a ++ b) := by
  apply ByteArray.ext
  simp [mkB]
theorem mkB_size (a : List UInt8) : (mkB a).size = a.length := by simp [mkB, ByteArray.size]
def splitL : List UInt8 → List (List UInt8)
  | [] => [[]]
  | b :: l => if b = 47 then [] :: splitL l else match splitL l with
    | [] => [[b]]
    | h :: t => (b :: h) :: t
theorem splitL_ne (l : List UInt8) : splitL l ≠ [] := by
  cases l with
  | nil => simp [splitL]
  | cons b l =>
    unfold splitL
    split
    · simp
    · split <;> simp
theorem isPrefix_one (b : UInt8) (l : List UInt8) : List.isPrefixOf [47] (b :: l) = ((47 : UInt8) == b) := by simp [List.isPrefixOf]
theorem index_cons (b : UInt8) (l sub : List UInt8) : Lib.index (b :: l) sub = if sub.isPrefixOf (b :: l) = true then 0 else if (Lib.index l sub == -1) = true then -1 else Lib.index l sub + 1 := rfl
theorem splitK_one : ∀ l : List UInt8, Lib.splitK [47] 0 (l.count 47) l = splitL l
  | [] => rfl
  | b :: l => by
    have ih := splitK_one l
    unfold splitL
    by_cases hb : b = 47
    · subst hb
      rw [if_pos rfl, List.count_cons_self]
      unfold Lib.splitK
      have hi : Lib.index (47 :: l) [47] = 0 := by rw [index_cons, isPrefix_one]; rfl
      rw [hi]
      simp only [Int.reduceNeg, Int.reduceBEq, Bool.false_eq_true, if_false]
      rw [← ih]
      rfl
    · rw [if_neg hb, List.count_cons_of_ne hb]
      have hp : List.isPrefixOf [47] (b :: l) = false := by rw [isPrefix_one]; exact beq_eq_false_iff_ne.2 (fun h => hb h.symm)
      have hg := Lib.index_ge l [47]
      by_cases hm : Lib.index l [47] = -1
      · have hi : Lib.index (b :: l) [47] = -1 := by rw [index_cons, hp, hm]; rfl
        have e1 : ∀ k, Lib.splitK [47] 0 k (b :: l) = [b :: l] := by
          intro k
          cases k with
          | zero => rfl
          | succ k => unfold Lib.splitK; rw [hi]; rfl
        have e2 : ∀ k, Lib.splitK [47] 0 k l = [l] := by
          intro k
          cases k with
          | zero => rfl
          | succ k => unfold Lib.splitK; rw [hm]; rfl
        rw [e2] at ih
        rw [e1, ← ih]
      · have hi : Lib.index (b :: l) [47] = Lib.index l [47] + 1 := by
          have : (Lib.index l [47] == -1) = false := beq_eq_false_iff_ne.2 hm
          rw [index_cons, hp, this]
          rfl
        have hc := Lib.count_hit (s := l) (sub := [47]) (i := (Lib.index l [47]).toNat) (by simp) (by omega)
        rw [Lib.count_one] at hc
        obtain ⟨k, hk⟩ : ∃ k, l.count 47 = k + 1 := ⟨l.count 47 - 1, by omega⟩
        rw [hk] at ih ⊢
        unfold Lib.splitK at ih ⊢
        have n1 : ¬ (Lib.index l [47] == -1) = true := by simpa using hm
        have n2 : ¬ (Lib.index (b :: l) [47] == -1) = true := by rw [hi]; simp; omega
        rw [if_neg n1] at ih
        rw [if_neg n2, ← ih, hi]
        have e : (Lib.index l [47] + 1).toNat = (Lib.index l [47]).toNat + 1 := by omega
        rw [e]
        simp
def partsP (s : ByteArray) : List ByteArray := (splitL (s.data.toList.drop 1)).map mkB
def absP (s : ByteArray) : Bool := List.isPrefixOf [47] s.data.toList
theorem absP_iff (s : ByteArray) : absP s = true ↔ s.data.toList[0]? = some 47 := by
  unfold absP
  cases h : s.data.toList with
  | nil => simp
  | cons b l =>
    rw [isPrefix_one]
    simp
    exact eq_comm
theorem myParts_eq {s : ByteArray} (hs : s.size ≤ 100000) : m_path_parts s = some (if absP s = true then (partsP s, true) else ([], false)) := by
  have hb := bsize s
  unfold m_path_parts m_strings_CutPrefix
  simp only [Option.bind_some]
  have hd : (ByteArray.mk #[47]).data.toList = [47] := rfl
  have hh : Lib.hasPrefix s.data.toList [47] = absP s := rfl
  rw [hh]
  by_cases ha : absP s = true
  · rw [ha, if_neg (by simp), if_pos rfl]
    have ht : Lib.trimPrefix s.data.toList [47] = s.data.toList.drop 1 := by unfold Lib.trimPrefix; rw [hh, if_pos ha]; rfl
    rw [ht]
    unfold m_strings_Split ck
    have hsz : (⟨(s.data.toList.drop 1).toArray⟩ : ByteArray).size = s.size - 1 := by
      have := mkB_size (s.data.toList.drop 1)
      rw [List.length_drop, hb] at this
      exact this
    rw [if_pos ⟨by rw [hsz]; omega, by decide⟩]
    simp only [Option.bind_some]
    congr 2
    have h1 := Lib.splitB_data (ByteArray.mk #[47]) 0 (Lib.countB (mkB (s.data.toList.drop 1)) (ByteArray.mk #[47])) (mkB (s.data.toList.drop 1))
    rw [hd, mkB_toList] at h1
    have h2 : Lib.countB (mkB (s.data.toList.drop 1)) (ByteArray.mk #[47]) = (s.data.toList.drop 1).count 47 := by
      show Lib.count (mkB (s.data.toList.drop 1)).data.toList (ByteArray.mk #[47]).data.toList = _
      rw [hd, mkB_toList, Lib.count_one]
    rw [h2, splitK_one] at h1
    unfold partsP
    rw [← h1, List.map_map]
    have h3 : (mkB ∘ fun x : ByteArray => x.data.toList) = id := by funext x; rfl
    rw [h3, List.map_id]
    show Lib.splitB _ 0 (Lib.countB (mkB (s.data.toList.drop 1)) _) _ = _
    rw [h2]
    rfl
  · rw [if_neg ha]
    simp only [Bool.not_eq_true] at ha
    rw [ha]
    rfl
end Go.Proofs.YtapdjibjnfeipaaGreatDoor.AL

/- Plain laws: the document's parts, and joins. -/
set_option linter.all false
namespace Go.Proofs.YtapdjibjnfeipaaGreatDoor.AL
open Go Go.Proofs
def pStep (t : List (List UInt8) × List UInt8) (b : UInt8) : List (List UInt8) × List UInt8 := if b = 47 then (t.1 ++ [t.2], []) else (t.1, t.2 ++ [b])
theorem pFold : ∀ (l : List UInt8) (A : List (List UInt8)) (cur : List UInt8), (l.foldl pStep (A, cur)).1 ++ [(l.foldl pStep (A, cur)).2] = A ++ (match splitL l with | [] => [cur] | h :: t => (cur ++ h) :: t)
  | [], A, cur => by simp [splitL]
  | b :: l, A, cur => by
    rw [List.foldl_cons]
    unfold splitL pStep
    by_cases hb : b = 47
    · simp only [if_pos hb]
      have h := pFold l (A ++ [cur]) []
      unfold pStep at h
      rw [h]
      cases hsl : splitL l with
      | nil => exact absurd hsl (splitL_ne l)
      | cons x t => simp
    · simp only [if_neg hb]
      have h := pFold l A (cur ++ [b])
      unfold pStep at h
      rw [h]
      cases hsl : splitL l with
      | nil => exact absurd hsl (splitL_ne l)
      | cons x t => simp
theorem extract_one (s : ByteArray) (i : Nat) (h : i < s.size) : s.extract i (i + 1) = mkB [s.data.toList[i]'(by rw [bsize]; exact h)] := by
  have hb := bsize s
  rw [← mkB_of (s.extract i (i + 1)), Lib.extract_data]
  congr 1
  rw [show i + 1 - i = 1 by omega]
  rw [List.take_one, List.head?_drop, List.getElem?_eq_getElem (by omega)]
  rfl
theorem refParts_eq {s : ByteArray} (hs : s.size ≤ 100000) (h1 : 1 ≤ s.size) : m_ref04_parts s = some (partsP s) := by
  have hb := bsize s
  unfold m_ref04_parts
  have key := iter_fold (B := m_ref04_parts_b0 s) (fun (i : Nat) (t : List (List UInt8) × List UInt8) => ((t.1 ++ [t.2]).map mkB, (i : Int) + 1)) (s.data.toList.drop 1) pStep (fun t => (t.1 ++ [t.2]).map mkB) (fun i t => t.1.length ≤ i ∧ t.2.length ≤ i) (by
    rintro i ⟨A, cur⟩ hi ⟨hA, hc⟩
    simp only at hA hc
    have hi' : i + 1 < s.size := by simp at hi; omega
    have hx : (s.data.toList.drop 1)[i] = s.data.toList[i + 1]'(by omega) := by
      rw [List.getElem_drop]
      congr 1
      omega
    rw [hx]
    generalize hbv : s.data.toList[i + 1]'(by omega) = b
    refine ⟨?_, ?_⟩
    rotate_left
    · unfold pStep
      split
      · simp; omega
      · simp; omega
    simp only [m_ref04_parts_b0]
    have hix : ixB s ((i : Int) + 1) = some b := by
      have := ixB_at (s := s) (i := i + 1) hi'
      rw [hbv] at this
      exact this
    have hwr : wr ((i : Int) + 1 + 1) = ((i + 1 : Nat) : Int) + 1 := by rw [wr_in (by omega) (by omega)]; omega
    rw [if_pos (by omega), hix]
    simp only [Option.bind_some]
    by_cases hb47 : b = 47
    · have e47 : (b.toNat : Int) = 47 := by subst hb47; rfl
      rw [if_pos e47, ap_of (by simp; omega) (by omega), hwr]
      simp only [Option.bind_some, pStep, if_pos hb47]
      congr 2
      simp [mkB, noBytes]
    · have e47 : ¬ (b.toNat : Int) = 47 := by
        intro h
        apply hb47
        apply UInt8.toNat.inj
        have : b.toNat = 47 := by omega
        rw [this]; rfl
      have hlen : (((A ++ [cur]).map mkB).length : Int) - 1 = (A.length : Int) := by simp
      have hw : wr ((((A ++ [cur]).map mkB).length : Int) - 1) = (A.length : Int) := by rw [hlen, wr_in (by omega) (by omega)]
      rw [if_neg e47, hw, ix_at (show A.length < ((A ++ [cur]).map mkB).length by simp)]
      simp only [Option.bind_some]
      have hst : strM s (some ((i : Int) + 1)) (some (wr ((i : Int) + 1 + 1))) = some (mkB [b]) := by
        unfold strM
        rw [hwr]
        simp only [Option.getD_some]
        rw [if_pos (by omega)]
        have e1 : ((i : Int) + 1).toNat = i + 1 := by omega
        have e2 : (((i + 1 : Nat) : Int) + 1).toNat = i + 1 + 1 := by omega
        rw [e1, e2, extract_one s (i + 1) hi', hbv]
      rw [hst]
      simp only [Option.bind_some]
      have hel : ((A ++ [cur]).map mkB)[A.length]'(by simp) = mkB cur := by simp
      rw [hel]
      unfold ck
      rw [if_pos (by rw [mkB_size, mkB_size]; simp; omega)]
      simp only [Option.bind_some, hwr, pStep, if_neg hb47]
      congr 2
      simp only [Int.toNat_natCast]
      rw [mkB_app, List.map_append, List.map_append]
      simp) (by
    rintro ⟨A, cur⟩ _
    simp only [m_ref04_parts_b0]
    rw [if_neg (by simp; omega)]) (s0 := ([], [])) (by simp) (fuel := big) (by rw [big_eq]; simp; omega)
  have h2 := key.1
  have e1 : ((([] : List (List UInt8)) ++ [([] : List UInt8)]).map mkB, ((0 : Nat) : Int) + 1) = (([noBytes] : List ByteArray), (1 : Int)) := rfl
  simp only at h2
  rw [e1] at h2
  rw [h2]
  simp only [Option.bind_some]
  congr 1
  unfold partsP
  rw [pFold]
  cases hsl : splitL (s.data.toList.drop 1) with
  | nil => exact absurd hsl (splitL_ne _)
  | cons x t => simp
end Go.Proofs.YtapdjibjnfeipaaGreatDoor.AL

/- Plain laws: paths: split, cleaned, redirects, beginnings. -/
set_option linter.all false
namespace Go.Proofs.YtapdjibjnfeipaaGreatDoor.AL
open Go Go.Proofs
theorem splitL_len : ∀ l : List UInt8, (splitL l).length ≤ l.length + 1
  | [] => by simp [splitL]
  | b :: l => by
    have ih := splitL_len l
    unfold splitL
    split
    · simp; omega
    · split
      · simp
      · rename_i h t e
        rw [e] at ih
        simp only [List.length_cons] at ih ⊢
        omega
theorem partsP_len (s : ByteArray) : (partsP s).length ≤ s.size + 1 := by
  have := splitL_len (s.data.toList.drop 1)
  have hb := bsize s
  unfold partsP
  simp only [List.length_map, List.length_drop] at this ⊢
  omega
theorem abs_size {s : ByteArray} (h : absP s = true) : 1 ≤ s.size := by
  rw [absP_iff] at h
  have := (List.getElem?_eq_some_iff.1 h).1
  rw [bsize] at this
  omega
theorem abs_ix {s : ByteArray} (h : 1 ≤ s.size) : ∃ b, ixB s 0 = some b ∧ ((b.toNat : Int) = 47 ↔ absP s = true) := by
  have hb := bsize s
  refine ⟨_, ixB_at (s := s) (i := 0) (by omega), ?_⟩
  rw [absP_iff, List.getElem?_eq_getElem (by omega), Option.some.injEq]
  constructor
  · intro e
    apply UInt8.toNat.inj
    have : (s.data.toList[0]'(by omega)).toNat = 47 := by omega
    rw [this]; rfl
  · intro e; rw [e]; rfl
def rootB : ByteArray := ⟨#[47]⟩
def splitP (s : ByteArray) : List ByteArray × Bool := if s = rootB then ([], true) else if absP s = true ∧ (partsP s).all rightP = true then (partsP s, true) else ([], false)
theorem mySplit_eq {s : ByteArray} (hs : s.size ≤ 100000) : m_path_Split s = some (splitP s) := by
  have hl := partsP_len s
  unfold m_path_Split splitP
  rw [myParts_eq hs]
  simp only [Option.bind_some]
  by_cases h1 : s = rootB
  · have h1' : s = ByteArray.mk #[47] := h1
    rw [if_pos h1', if_pos h1]
  · have h1' : ¬ s = ByteArray.mk #[47] := h1
    rw [if_neg h1', if_neg h1]
    by_cases ha : absP s = true
    · rw [if_pos ha, if_neg (by simp), contains_tot (f := fun z => !rightP z) _ (fun z _ => by unfold m_path_Split_1; rw [nright_eq]; rfl) (by show (partsP s).length < _; omega)]
      simp only [Option.bind_some]
      by_cases hr : (partsP s).all rightP = true
      · have : ¬ ((partsP s).any fun z => !rightP z) = true := by
          rw [List.all_eq_true] at hr
          simp only [List.any_eq_true, not_exists, not_and]
          intro x hx
          simp [hr x hx]
        rw [if_neg this, if_pos ⟨ha, hr⟩]
      · have : ((partsP s).any fun z => !rightP z) = true := by
          simp only [Bool.not_eq_true, List.all_eq_false] at hr
          obtain ⟨x, hx, hn⟩ := hr
          exact List.any_eq_true.2 ⟨x, hx, by simpa using hn⟩
        rw [if_pos this, if_neg (fun h => hr h.2)]
    · rw [if_neg ha, if_pos (by simp), if_neg (fun h => ha h.1)]
theorem refSplit_eq {s : ByteArray} (hs : s.size ≤ 100000) : m_ref04_Split s = some (splitP s) := by
  have hl := partsP_len s
  unfold m_ref04_Split splitP
  by_cases h1 : s = rootB
  · have h1' : s = ByteArray.mk #[47] := h1
    rw [if_pos h1', if_pos h1]
  · have h1' : ¬ s = ByteArray.mk #[47] := h1
    rw [if_neg h1', if_neg h1]
    by_cases h0 : (s.size : Int) = 0
    · rw [if_pos h0, if_neg (fun h => by have := abs_size h.1; omega)]
    · rw [if_neg h0]
      obtain ⟨b, e1, e2⟩ := abs_ix (s := s) (by omega)
      rw [e1]
      simp only [Option.bind_some]
      by_cases ha : absP s = true
      · rw [if_pos (e2.2 ha), refParts_eq hs (by omega)]
        simp only [Option.bind_some]
        generalize partsP s = l at hl
        obtain ⟨r, g1, g2⟩ := iter_term (B := m_ref04_Split_b0 l) (R := fun r => match r with | .inl _ => l.all rightP = true | .inr q => q = ([], false) ∧ ¬ l.all rightP = true)
          (fun i t => t = (i : Int) ∧ i ≤ l.length ∧ ∀ j (h : j < l.length), j < i → rightP l[j] = true) l.length (by
          rintro i t ⟨rfl, hi, hj⟩
          refine ⟨hi, ?_⟩
          simp only [m_ref04_Split_b0]
          by_cases hlt : i < l.length
          · rw [if_pos (by omega), ix_at hlt]
            simp only [Option.bind_some]
            rw [right_eq]
            simp only [Option.bind_some]
            by_cases hr : rightP l[i] = true
            · rw [hr, if_neg (by simp), wr_suc (by omega)]
              refine .inl ⟨_, rfl, rfl, by omega, fun j h hj' => ?_⟩
              by_cases e : j = i
              · subst e; exact hr
              · exact hj j h (by omega)
            · rw [if_pos (by simpa using hr)]
              exact .inr ⟨_, rfl, rfl, fun h => hr (List.all_eq_true.1 h _ (List.getElem_mem hlt))⟩
          · rw [if_neg (by omega)]
            refine .inr ⟨_, rfl, ?_⟩
            simp only
            rw [List.all_eq_true]
            intro x hx
            obtain ⟨j, h, rfl⟩ := List.getElem_of_mem hx
            exact hj j h (by omega)) big 0 0 ⟨rfl, by omega, fun j _ h => by omega⟩ (by rw [big_eq]; omega)
        rw [g1]
        simp only [Option.bind_some]
        cases r with
        | inl u => simp only at g2; rw [if_pos ⟨ha, g2⟩]
        | inr q => simp only at g2; rw [if_neg (fun h => g2.2 h.2), g2.1]
      · rw [if_neg (fun h => ha (e2.1 h)), if_neg (fun h => ha h.1)]
def redirP (s : ByteArray) : List ByteArray × Bool × Bool := if 24 < s.size then ([], false, false) else if absP s = true then ((splitP s).1, (splitP s).2, (splitP s).2) else if rightP s = true then ([s], false, true) else ([], false, false)
theorem myRedirect_eq {s : ByteArray} (hs : s.size ≤ 100000) : m_path_Redirect s = some (redirP s) := by
  unfold m_path_Redirect redirP m_strings_HasPrefix
  by_cases h1 : 24 < s.size
  · rw [if_pos (by omega), if_pos h1]
  · rw [if_neg (by omega), if_neg h1]
    simp only [Option.bind_some]
    have hh : Lib.hasPrefix s.data.toList (ByteArray.mk #[47]).data.toList = absP s := rfl
    rw [hh]
    by_cases ha : absP s = true
    · rw [if_pos ha, if_pos ha, mySplit_eq hs]; rfl
    · rw [if_neg ha, if_neg ha, nright_eq]
      simp only [Option.bind_some]
      by_cases hr : rightP s = true
      · rw [if_pos hr, if_pos hr]
      · rw [if_neg hr, if_neg hr]
theorem refRedirect_eq {s : ByteArray} (hs : s.size ≤ 100000) : m_ref04_Redirect s = some (redirP s) := by
  have tail : ((m_ref03_Right s).bind fun v12 => if v12 = true then some (([s] : List ByteArray), false, true) else some ([], false, false)) = some (if rightP s = true then ([s], false, true) else ([], false, false)) := by
    rw [right_eq]
    simp only [Option.bind_some]
    by_cases hr : rightP s = true
    · rw [if_pos hr, if_pos hr]
    · rw [if_neg hr, if_neg hr]
  unfold m_ref04_Redirect redirP
  by_cases h1 : 24 < s.size
  · rw [if_pos (by omega), if_pos h1]
  · rw [if_neg (by omega), if_neg h1]
    by_cases h0 : 0 < s.size
    · rw [if_pos (by omega)]
      obtain ⟨b, e1, e2⟩ := abs_ix (s := s) (by omega)
      rw [e1]
      simp only [Option.bind_some]
      by_cases ha : absP s = true
      · rw [if_pos (e2.2 ha), if_pos ha, refSplit_eq hs]; rfl
      · rw [if_neg (fun h => ha (e2.1 h)), if_neg ha]
        exact tail
    · rw [if_neg (by omega), if_neg (fun h => by have := abs_size h; omega)]
      exact tail
end Go.Proofs.YtapdjibjnfeipaaGreatDoor.AL

