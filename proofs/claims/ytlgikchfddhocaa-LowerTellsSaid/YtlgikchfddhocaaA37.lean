/- What any node of any stack should say of copies, and which say otherwise, is what the document says: part 37 of 45. -/
import Derived.Test.YtlgikchfddhocaaA36
set_option linter.all false
/- Models of functions, and that the functions are as their models: written by gen.py. -/
set_option linter.all false
set_option maxRecDepth 100000
namespace Go.Proofs.Ytlgikchfddhocaa.AL
open Go Go.Proofs
def m_lower_pile_node (a0 : List Branch) (a1 : Place) : Option (Node) := if a1.layer < 1 then some (⟨0, 0, 0, 0, [], [], (⟨0, 0, noBytes, (⟨0, 0, 0⟩ : Origin), 0⟩ : Attr)⟩ : Node)
 else if (a0.length : Int) < a1.layer then some (⟨0, 0, 0, 0, [], [], (⟨0, 0, noBytes, (⟨0, 0, 0⟩ : Origin), 0⟩ : Attr)⟩ : Node)
 else (ix a0 (wr (a1.layer - 1))).bind fun v5 => if a1.ino < 1 then some (⟨0, 0, 0, 0, [], [], (⟨0, 0, noBytes, (⟨0, 0, 0⟩ : Origin), 0⟩ : Attr)⟩ : Node)
 else if (v5.nodes.length : Int) < a1.ino then some (⟨0, 0, 0, 0, [], [], (⟨0, 0, noBytes, (⟨0, 0, 0⟩ : Origin), 0⟩ : Attr)⟩ : Node)
 else (ix v5.nodes (wr (a1.ino - 1))).bind fun v12 => some v12
def Y_lower_pile_node := And.intro (And.intro (And.intro ((@EV)) (And.intro ((@R3)) ((@R36)))) (And.intro ((@R38)) (And.intro ((@R48)) ((@R66))))) (And.intro (And.intro ((@R73)) (And.intro ((@DBranch)) ((@DPlace)))) (And.intro (And.intro ((@DOrigin)) ((@DAttr))) (And.intro ((@DNode)) ((@DEntry)))))
set_option maxHeartbeats 2000000 in
theorem ok_lower_pile_node (a0 : List Branch) (a1 : Place) (r : Node) (hm0 : m_lower_pile_node a0 a1 = some r) : Ok Try.prog 50 [.sl 1 (a0.map encBranch), encPlace a1] (encNode r) := by
 unfold m_lower_pile_node at hm0
 refine okG fc_lower_pile_node ?_
 unfold c_lower_pile_node
 rcases iteE hm0 with ⟨e2, hm0⟩ | ⟨e2, hm0⟩
 · obtain rfl := Option.some.inj hm0
   simp only [e2, Y_lower_pile_node, ↓EVd, isCall, sevalprocAttr]
   all_goals first | done | rfl | exact frzR_closed (by simp only [CLO]) | exact frzR_sub (by simp only [CLO]) (Sub.agg (Subs.cons (Sub.refl _) (Subs.cons (Sub.refl _) (Subs.cons (Sub.refl _) (Subs.cons (Sub.refl _) (Subs.cons (Sub.nilS _) (Subs.cons (Sub.nilS _) (Subs.cons (Sub.refl _) (Subs.cons (Sub.refl _) (Subs.cons (Sub.refl _) (Subs.cons (Sub.refl _) (Subs.cons (Sub.refl _) (Subs.cons (Sub.refl _) (Subs.cons (Sub.refl _) (Subs.nil)))))))))))))))
 rcases iteE hm0 with ⟨e4, hm0⟩ | ⟨e4, hm0⟩
 · obtain rfl := Option.some.inj hm0
   simp only [e2, e4, Y_lower_pile_node, ↓EVd, isCall, sevalprocAttr]
   all_goals first | done | rfl | exact frzR_closed (by simp only [CLO]) | exact frzR_sub (by simp only [CLO]) (Sub.agg (Subs.cons (Sub.refl _) (Subs.cons (Sub.refl _) (Subs.cons (Sub.refl _) (Subs.cons (Sub.refl _) (Subs.cons (Sub.nilS _) (Subs.cons (Sub.nilS _) (Subs.cons (Sub.refl _) (Subs.cons (Sub.refl _) (Subs.cons (Sub.refl _) (Subs.cons (Sub.refl _) (Subs.cons (Sub.refl _) (Subs.cons (Sub.refl _) (Subs.cons (Sub.refl _) (Subs.nil)))))))))))))))
 obtain ⟨v5, e7, hm0⟩ := ixE encBranch hm0
 rcases iteE hm0 with ⟨e9, hm0⟩ | ⟨e9, hm0⟩
 · obtain rfl := Option.some.inj hm0
   simp only [e2, e4, e7, e9, Y_lower_pile_node, ↓EVd, isCall, sevalprocAttr]
   all_goals first | done | rfl | exact frzR_closed (by simp only [CLO]) | exact frzR_sub (by simp only [CLO]) (Sub.agg (Subs.cons (Sub.refl _) (Subs.cons (Sub.refl _) (Subs.cons (Sub.refl _) (Subs.cons (Sub.refl _) (Subs.cons (Sub.nilS _) (Subs.cons (Sub.nilS _) (Subs.cons (Sub.refl _) (Subs.cons (Sub.refl _) (Subs.cons (Sub.refl _) (Subs.cons (Sub.refl _) (Subs.cons (Sub.refl _) (Subs.cons (Sub.refl _) (Subs.cons (Sub.refl _) (Subs.nil)))))))))))))))
 rcases iteE hm0 with ⟨e11, hm0⟩ | ⟨e11, hm0⟩
 · obtain rfl := Option.some.inj hm0
   simp only [e2, e4, e7, e9, e11, Y_lower_pile_node, ↓EVd, isCall, sevalprocAttr]
   all_goals first | done | rfl | exact frzR_closed (by simp only [CLO]) | exact frzR_sub (by simp only [CLO]) (Sub.agg (Subs.cons (Sub.refl _) (Subs.cons (Sub.refl _) (Subs.cons (Sub.refl _) (Subs.cons (Sub.refl _) (Subs.cons (Sub.nilS _) (Subs.cons (Sub.nilS _) (Subs.cons (Sub.refl _) (Subs.cons (Sub.refl _) (Subs.cons (Sub.refl _) (Subs.cons (Sub.refl _) (Subs.cons (Sub.refl _) (Subs.cons (Sub.refl _) (Subs.cons (Sub.refl _) (Subs.nil)))))))))))))))
 obtain ⟨v12, e14, hm0⟩ := ixE encNode hm0
 obtain rfl := Option.some.inj hm0
 simp only [e2, e4, e7, e9, e11, e14, Y_lower_pile_node, ↓EVd, isCall, sevalprocAttr]
 all_goals first | done | rfl | exact frzR_closed (by simp only [CLO])
def m_lower_opaque (a0 : Node) : Option (Bool) := if 0 ≤ a0.attr.has then if (bAnd .i64 a0.attr.has 1) = 0 then some false
 else if a0.attr.opaque0 = 121 then some true
 else some false
 else some false
def Y_lower_opaque := And.intro (And.intro (And.intro ((@EV)) ((@R3))) (And.intro ((@R71)) ((@R73)))) (And.intro (And.intro ((@DOrigin)) ((@DAttr))) (And.intro ((@DNode)) ((@DEntry))))
set_option maxHeartbeats 2000000 in
theorem ok_lower_opaque (a0 : Node) (r : Bool) (hm0 : m_lower_opaque a0 = some r) : Ok Try.prog 45 [encNode a0] (bool r) := by
 unfold m_lower_opaque at hm0
 refine okG fc_lower_opaque ?_
 unfold c_lower_opaque
 rcases iteE hm0 with ⟨e2, hm0⟩ | ⟨e2, hm0⟩
 · rcases iteE hm0 with ⟨e4, hm0⟩ | ⟨e4, hm0⟩
   · obtain rfl := Option.some.inj hm0
     simp only [e2, e4, Y_lower_opaque, ↓EVd, isCall, sevalprocAttr]
     all_goals first | done | rfl
   rcases iteE hm0 with ⟨e6, hm0⟩ | ⟨e6, hm0⟩
   · obtain rfl := Option.some.inj hm0
     simp only [e2, e4, e6, Y_lower_opaque, ↓EVd, isCall, sevalprocAttr]
     all_goals first | done | rfl
   obtain rfl := Option.some.inj hm0
   simp only [e2, e4, e6, Y_lower_opaque, ↓EVd, isCall, sevalprocAttr]
   all_goals first | done | rfl
 obtain rfl := Option.some.inj hm0
 simp only [e2, Y_lower_opaque, ↓EVd, isCall, sevalprocAttr]
 all_goals first | done | rfl
def m_lower_pile_entry_b0 (a0 : List Branch) (a1 : Place) (a2 : ByteArray) (v1 : Node) : Int → Option (St (Int) ((Unit) ⊕ (Place × Node)))
 | v6 => if v6 < (v1.entries.length : Int) then (ix v1.entries v6).bind fun v10 => (m_lower_pile_node a0 (⟨a1.layer, v10.ino⟩ : Place)).bind fun v14 => if v10.name = a2 then if v14.kind = 0 then some (.nx (wr (v6 + 1)))
 else some (.out (.inr ((⟨a1.layer, v10.ino⟩ : Place), v14)))
 else some (.nx (wr (v6 + 1)))
 else some (.out (.inl ()))
def m_lower_pile_entry (a0 : List Branch) (a1 : Place) (a2 : ByteArray) : Option (Place × Node) := (m_lower_pile_node a0 a1).bind fun v1 => if v1.kind = 1 then (iter (m_lower_pile_entry_b0 a0 a1 a2 v1) big 0).bind fun o => (match o with
 | (.inl _) => some ((⟨0, 0⟩ : Place), (⟨0, 0, 0, 0, [], [], (⟨0, 0, noBytes, (⟨0, 0, 0⟩ : Origin), 0⟩ : Attr)⟩ : Node))
 | (.inr r) => some r)
 else some ((⟨0, 0⟩ : Place), (⟨0, 0, 0, 0, [], [], (⟨0, 0, noBytes, (⟨0, 0, 0⟩ : Origin), 0⟩ : Attr)⟩ : Node))
def Y_lower_pile_entry := And.intro (And.intro (And.intro (And.intro ((@EV)) ((@R3))) (And.intro ((@R9)) ((@R38)))) (And.intro (And.intro ((@R48)) ((@R66))) (And.intro ((@R67)) ((@R73))))) (And.intro (And.intro (And.intro ((@R83)) ((@DBranch))) (And.intro ((@DPlace)) ((@DOrigin)))) (And.intro (And.intro ((@DAttr)) ((@DNode))) (And.intro ((@DEntry)) ((@mixed)))))
set_option maxHeartbeats 2000000 in
theorem ok_lower_pile_entry (a0 : List Branch) (a1 : Place) (a2 : ByteArray) (r : Place × Node) (hm0 : m_lower_pile_entry a0 a1 a2 = some r) : Ok Try.prog 44 [.sl 1 (a0.map encBranch), encPlace a1, str a2] (.tup [encPlace r.1, encNode r.2]) := by
 unfold m_lower_pile_entry at hm0
 refine okG fc_lower_pile_entry ?_
 unfold c_lower_pile_entry
 obtain ⟨v1, h2, hm0⟩ := bsE hm0
 simp only [Y_lower_pile_entry, ↓EVd, isCall, sevalprocAttr]
 refine qc (ok_lower_pile_node _ _ _ h2) rfl ?_
 rcases iteE hm0 with ⟨e4, hm0⟩ | ⟨e4, hm0⟩
 · obtain ⟨o0, ho0, hm0⟩ := bsE hm0
   simp only [e4, Y_lower_pile_entry, ↓EVd, isCall, sevalprocAttr]
   refine cwp_cx 0 (fun s => (s.T 6 = .loc 1 2 0 0 ∧ s.T 7 = .loc 2 13 0 0 ∧ s.H 1 = some (.row 48 2 [.agg [int 0, int 0]]) ∧ s.H 2 = some (.row 73 13 [.agg [int 0, int 0, int 0, int 0, nilS, nilS, int 0, int 0, str noBytes, int 0, int 0, int 0, int 0]]) ∧ Lq 1 s.nx ∧ Lq 2 s.nx) ∧ (.inl ()) = o0) ?_ fun J0_0 hJ0_0 => ?_
   · rintro T0 H0 x7 ⟨kk0_0, rfl⟩
     dsimp only [Lq, Nq] at kk0_0
     try dsimp only at hm0
     have e20 : (.agg [int 0, int 0] : AV) = encPlace (⟨0, 0⟩ : Place) := _root_.id rfl
     obtain rfl := Option.some.inj hm0
     simp only [kk0_0, e4, e20, Y_lower_pile_entry, ↓EVd, isCall, sevalprocAttr]
     all_goals first | done | rfl | exact frzR_closed (by simp only [CLO]) | exact frzR_sub (by simp only [CLO]) (Sub.tup (Subs.cons (Sub.refl _) (Subs.cons (Sub.agg (Subs.cons (Sub.refl _) (Subs.cons (Sub.refl _) (Subs.cons (Sub.refl _) (Subs.cons (Sub.refl _) (Subs.cons (Sub.nilS _) (Subs.cons (Sub.nilS _) (Subs.cons (Sub.refl _) (Subs.cons (Sub.refl _) (Subs.cons (Sub.refl _) (Subs.cons (Sub.refl _) (Subs.cons (Sub.refl _) (Subs.cons (Sub.refl _) (Subs.cons (Sub.refl _) (Subs.nil))))))))))))))) (Subs.nil))))
   refine cwp_lp ho0 (fun v6 s => s.T 0 = .sl 1 (a0.map encBranch) ∧ s.T 2 = str a2 ∧ s.T 4 = .loc 0 2 0 0 ∧ s.T 6 = .loc 1 2 0 0 ∧ s.T 7 = .loc 2 13 0 0 ∧ s.T 22 = .sl 3 (v1.entries.map encEntry) ∧ s.T 23 = int (v1.entries.length : Int) ∧ s.T 24 = int v6 ∧ s.H 0 = some (.row 48 2 [encPlace a1]) ∧ s.H 1 = some (.row 48 2 [.agg [int 0, int 0]]) ∧ s.H 2 = some (.row 73 13 [.agg [int 0, int 0, int 0, int 0, nilS, nilS, int 0, int 0, str noBytes, int 0, int 0, int 0, int 0]]) ∧ Lq 0 s.nx ∧ Lq 1 s.nx ∧ Lq 2 s.nx) ?_ ?_
   · refine TI.here ⟨?_, ?_, ?_, ?_, ?_, ?_, ?_, ?_, ?_, ?_, ?_, ?_, ?_, ?_⟩
     all_goals try simp only [e4, Y_lower_pile_entry, ↓EVd, isCall, sevalprocAttr]
     all_goals first | omega | exact lq (by omega) | exact nq (by omega) | rfl | (congr 1; omega)
   rintro I0 v6 T0 H0 x5 st0 kk0 hm1 hI0 hO0
   dsimp only [Lq, Nq] at kk0
   simp only [m_lower_pile_entry_b0] at hm1
   rcases iteE hm1 with ⟨e9, hm1⟩ | ⟨e9, hm1⟩
   · obtain ⟨v10, e12, hm1⟩ := ixE encEntry hm1
     have e13 : (.agg [int a1.layer, int v10.ino] : AV) = encPlace (⟨a1.layer, v10.ino⟩ : Place) := _root_.id rfl
     obtain ⟨v14, h15, hm1⟩ := bsE hm1
     simp only [kk0, e4, e9, e12, e13, Y_lower_pile_entry, ↓EVd, isCall, sevalprocAttr]
     refine qc (ok_lower_pile_node _ _ _ h15) rfl ?_
     rcases iteE hm1 with ⟨e17, hm1⟩ | ⟨e17, hm1⟩
     · rcases iteE hm1 with ⟨e19, hm1⟩ | ⟨e19, hm1⟩
       · obtain rfl := Option.some.inj hm1
         simp only [kk0, e4, e9, e12, e13, e17, e19, Y_lower_pile_entry, ↓EVd, isCall, sevalprocAttr]
         refine TI.here (hI0 _ rfl _ ⟨?_, ?_, ?_, ?_, ?_, ?_, ?_, ?_, ?_, ?_, ?_, ?_, ?_, ?_⟩)
         all_goals try simp only [kk0, e4, e9, e12, e13, e17, e19, Y_lower_pile_entry, ↓EVd, isCall, sevalprocAttr]
         all_goals first | omega | exact lq (by omega) | exact nq (by omega) | rfl | (congr 1; omega)
       simp only [kk0, e4, e9, e12, e13, e17, e19, Y_lower_pile_entry, ↓EVd, isCall, sevalprocAttr]
       refine fineI [([(x5 + 10)], []), ([(x5 + 15)], []), ([], [1]), ([], [2])] rfl (by simp only [MT, sevalprocAttr]; first | done | omega) ?_
       obtain rfl := Option.some.inj hm1
       obtain rfl := hO0 _ rfl
       try dsimp only at hm0
       obtain rfl := Option.some.inj hm0
       simp only [kk0, e4, e9, e12, e13, e17, e19, Y_lower_pile_entry, ↓EVd, isCall, sevalprocAttr]
       all_goals first | done | rfl | exact frzR_closed (by simp only [CLO]) | exact frzR_sub (by simp only [CLO]) (Sub.tup (Subs.cons (Sub.refl _) (Subs.cons (Sub.refl _) (Subs.nil))))
     obtain rfl := Option.some.inj hm1
     simp only [kk0, e4, e9, e12, e13, e17, Y_lower_pile_entry, ↓EVd, isCall, sevalprocAttr]
     refine TI.here (hI0 _ rfl _ ⟨?_, ?_, ?_, ?_, ?_, ?_, ?_, ?_, ?_, ?_, ?_, ?_, ?_, ?_⟩)
     all_goals try simp only [kk0, e4, e9, e12, e13, e17, Y_lower_pile_entry, ↓EVd, isCall, sevalprocAttr]
     all_goals first | omega | exact lq (by omega) | exact nq (by omega) | rfl | (congr 1; omega)
   obtain rfl := Option.some.inj hm1
   simp only [kk0, e4, e9, Y_lower_pile_entry, ↓EVd, isCall, sevalprocAttr]
   refine TI.here (hJ0_0 _ ⟨⟨?_, ?_, ?_, ?_, ?_, ?_⟩, hO0 _ rfl⟩)
   all_goals try simp only [kk0, e4, e9, Y_lower_pile_entry, ↓EVd, isCall, sevalprocAttr]
   all_goals first | omega | exact lq (by omega) | exact nq (by omega) | rfl | (congr 1; omega)
 have e21 : (.agg [int 0, int 0] : AV) = encPlace (⟨0, 0⟩ : Place) := _root_.id rfl
 obtain rfl := Option.some.inj hm0
 simp only [e4, e21, Y_lower_pile_entry, ↓EVd, isCall, sevalprocAttr]
 all_goals first | done | rfl | exact frzR_closed (by simp only [CLO]) | exact frzR_sub (by simp only [CLO]) (Sub.tup (Subs.cons (Sub.refl _) (Subs.cons (Sub.agg (Subs.cons (Sub.refl _) (Subs.cons (Sub.refl _) (Subs.cons (Sub.refl _) (Subs.cons (Sub.refl _) (Subs.cons (Sub.nilS _) (Subs.cons (Sub.nilS _) (Subs.cons (Sub.refl _) (Subs.cons (Sub.refl _) (Subs.cons (Sub.refl _) (Subs.cons (Sub.refl _) (Subs.cons (Sub.refl _) (Subs.cons (Sub.refl _) (Subs.cons (Sub.refl _) (Subs.nil))))))))))))))) (Subs.nil))))
def m_lower_Find_b1 (a0 : Stack) (a1 : List Place) (a2 : ByteArray) : (List Place × Int) → Option (St (List Place × Int) ((List Place) ⊕ ((List Place) ⊕ (Int × List Place))))
 | (v3, v4) => if v4 < (a1.length : Int) then (ix a1 v4).bind fun v13 => (m_lower_pile_entry a0.lowers v13 a2).bind fun v16 => if v16.2.kind = 0 then some (.nx (v3, (wr (v4 + 1))))
 else if v16.2.kind = 1 then (ap 16 v3 ([v16.1] : List Place)).bind fun _ => (m_lower_opaque v16.2).bind fun v26 => if (!v26) = true then some (.nx ((v3 ++ ([v16.1] : List Place)), (wr (v4 + 1))))
 else some (.out (.inr (.inl (v3 ++ ([v16.1] : List Place)))))
 else if v16.2.kind = 2 then if (v3.length : Int) = 0 then some (.out (.inr (.inr (v16.2.kind, ([v16.1] : List Place)))))
 else some (.out (.inr (.inl v3)))
 else if v16.2.kind = 3 then if (v3.length : Int) = 0 then some (.out (.inr (.inr (v16.2.kind, ([v16.1] : List Place)))))
 else some (.out (.inr (.inl v3)))
 else some (.out (.inr (.inl v3)))
 else some (.out (.inl v3))
def m_lower_Find (a0 : Stack) (a1 : List Place) (a2 : ByteArray) : Option (Int × List Place) := (iter (m_lower_Find_b1 a0 a1 a2) big ([], 0)).bind fun o => (match o with
 | (.inl v7) => if (v7.length : Int) = 0 then some (0, [])
 else some (1, v7)
 | (.inr (.inl v10)) => if (v10.length : Int) = 0 then some (0, [])
 else some (1, v10)
 | (.inr (.inr r)) => some r)
def Y_lower_Find := And.intro (And.intro (And.intro (And.intro ((@EV)) ((@R3))) (And.intro ((@R9)) ((@R38)))) (And.intro (And.intro ((@R39)) ((@R41))) (And.intro ((@R42)) (And.intro ((@R48)) ((@R66)))))) (And.intro (And.intro (And.intro ((@R73)) ((@DGeo))) (And.intro ((@DBranch)) (And.intro ((@DStack)) ((@DPlace))))) (And.intro (And.intro ((@DOrigin)) ((@DAttr))) (And.intro ((@DNode)) (And.intro ((@DEntry)) ((@mixed))))))
set_option maxHeartbeats 2000000 in
theorem ok_lower_Find (a0 : Stack) (a1 : List Place) (a2 : ByteArray) (r : Int × List Place) (hm0 : m_lower_Find a0 a1 a2 = some r) : Ok Try.prog 22 [encStack a0, .sl 2 (a1.map encPlace), str a2] (.tup [int r.1, .sl 2 (r.2.map encPlace)]) := by
 unfold m_lower_Find at hm0
 refine okG fc_lower_Find ?_
 unfold c_lower_Find
 simp only [Y_lower_Find, ↓EVd, isCall, sevalprocAttr]
 refine cwp_fwd 0 rfl ?_
 intro F0 hF0
 obtain ⟨o1, ho1, hm0⟩ := bsE hm0
 simp only [Y_lower_Find, ↓EVd, isCall, sevalprocAttr]
 refine cwp_cx 0 (fun s => ∃ v7 : List Place, ∃ l6 : Nat, (s.T 9 = .msl l6 v7.length ∧ s.H l6 = some (.row 48 2 (v7.map encPlace)) ∧ Lq l6 s.nx) ∧ (.inl v7) = o1) ?_ fun J1_0 hJ1_0 => ?_
 · rintro T1 H1 x5 ⟨v7, l6, kk1_0, rfl⟩
   dsimp only [Lq, Nq] at kk1_0
   try dsimp only at hm0
   rcases iteE hm0 with ⟨e39, hm0⟩ | ⟨e39, hm0⟩
   · obtain rfl := Option.some.inj hm0
     simp only [kk1_0, e39, Y_lower_Find, ↓EVd, isCall, sevalprocAttr]
     all_goals first | done | rfl | exact frzR_closed (by simp only [CLO]) | exact frzR_sub (by simp only [CLO]) (Sub.tup (Subs.cons (Sub.refl _) (Subs.cons (Sub.nilS _) (Subs.nil))))
   obtain rfl := Option.some.inj hm0
   simp only [kk1_0, e39, Y_lower_Find, ↓EVd, isCall, sevalprocAttr]
   all_goals first | done | rfl | exact frzR_of 9 (by simp only [kk1_0, e39, FZ, CLO, Y_lower_Find, ↓EVd, isCall, sevalprocAttr]) (Sub.tup (Subs.cons (Sub.refl _) (Subs.cons (Sub.refl _) (Subs.nil))))
 refine cwp_cg 0 (fun s => ∃ v10 : List Place, ∃ l9 : Nat, (s.T 9 = .msl l9 v10.length ∧ s.H l9 = some (.row 48 2 (v10.map encPlace)) ∧ Lq l9 s.nx) ∧ (.inr (.inl v10)) = o1) ?_ fun J1_1 hJ1_1 => ?_
 · rintro T1 H1 x8 ⟨v10, l9, kk1_1, rfl⟩
   dsimp only [Lq, Nq] at kk1_1
   try dsimp only at hm0
   simp only [kk1_1, Y_lower_Find, ↓EVd, isCall, sevalprocAttr]
   refine hF0 _ ?_
   rcases iteE hm0 with ⟨e41, hm0⟩ | ⟨e41, hm0⟩
   · obtain rfl := Option.some.inj hm0
     simp only [kk1_1, e41, Y_lower_Find, ↓EVd, isCall, sevalprocAttr]
     all_goals first | done | rfl | exact frzR_closed (by simp only [CLO]) | exact frzR_sub (by simp only [CLO]) (Sub.tup (Subs.cons (Sub.refl _) (Subs.cons (Sub.nilS _) (Subs.nil))))
   obtain rfl := Option.some.inj hm0
   simp only [kk1_1, e41, Y_lower_Find, ↓EVd, isCall, sevalprocAttr]
   all_goals first | done | rfl | exact frzR_of 9 (by simp only [kk1_1, e41, FZ, CLO, Y_lower_Find, ↓EVd, isCall, sevalprocAttr]) (Sub.tup (Subs.cons (Sub.refl _) (Subs.cons (Sub.refl _) (Subs.nil))))
 refine cwp_lp ho1 (fun (v3, v4) s => ∃ l2 : Nat, s.T 2 = str a2 ∧ s.T 8 = .sl 1 (a0.lowers.map encBranch) ∧ s.T 9 = .msl l2 v3.length ∧ s.T 16 = .sl 2 (a1.map encPlace) ∧ s.T 17 = int (a1.length : Int) ∧ s.T 18 = int v4 ∧ s.H l2 = some (.row 48 2 (v3.map encPlace)) ∧ Lq l2 s.nx) ?_ ?_
 · refine TI.by (Tn.adopt 9 48 2 (by simp only [Y_lower_Find, ↓EVd, isCall, sevalprocAttr])) ?_
   refine TI.here ⟨10, ?_, ?_, ?_, ?_, ?_, ?_, ?_, ?_⟩
   all_goals try simp only [Y_lower_Find, ↓EVd, isCall, sevalprocAttr]
   all_goals first | omega | exact lq (by omega) | exact nq (by omega) | rfl | (congr 1; omega)
 rintro I1 ⟨v3, v4⟩ T1 H1 x1 st1 ⟨l2, kk1⟩ hm1 hI1 hO1
 dsimp only [Lq, Nq] at kk1
 simp only [m_lower_Find_b1] at hm1
 rcases iteE hm1 with ⟨e12, hm1⟩ | ⟨e12, hm1⟩
 · obtain ⟨v13, e15, hm1⟩ := ixE encPlace hm1
   obtain ⟨v16, h17, hm1⟩ := bsE hm1
   simp only [kk1, e12, e15, Y_lower_Find, ↓EVd, isCall, sevalprocAttr]
   refine qc (ok_lower_pile_entry _ _ _ _ h17) rfl ?_
   rcases iteE hm1 with ⟨e19, hm1⟩ | ⟨e19, hm1⟩
   · obtain rfl := Option.some.inj hm1
     simp only [kk1, e12, e15, e19, Y_lower_Find, ↓EVd, isCall, sevalprocAttr]
     refine TI.here (hI1 _ rfl _ ⟨l2, ?_, ?_, ?_, ?_, ?_, ?_, ?_, ?_⟩)
     all_goals try simp only [kk1, e12, e15, e19, Y_lower_Find, ↓EVd, isCall, sevalprocAttr]
     all_goals first | omega | exact lq (by omega) | exact nq (by omega) | rfl | (congr 1; omega)
   rcases iteE hm1 with ⟨e21, hm1⟩ | ⟨e21, hm1⟩
   · obtain ⟨e24, hm1⟩ := apE hm1
     try simp only [ZL] at e24
     obtain ⟨v26, h27, hm1⟩ := bsE hm1
     simp only [kk1, e12, e15, e19, e21, e24, Y_lower_Find, ↓EVd, isCall, sevalprocAttr]
     refine qc (ok_lower_opaque _ _ h27) rfl ?_
     rcases itbE hm1 with ⟨e29, hm1⟩ | ⟨e29, hm1⟩
     · obtain rfl := Option.some.inj hm1
       simp only [kk1, e12, e15, e19, e21, e24, e29, Y_lower_Find, ↓EVd, isCall, sevalprocAttr]
       refine TI.here (hI1 _ rfl _ ⟨(x1 + 25), ?_, ?_, ?_, ?_, ?_, ?_, ?_, ?_⟩)
       all_goals try simp only [kk1, e12, e15, e19, e21, e24, e29, Y_lower_Find, ↓EVd, isCall, sevalprocAttr]
       all_goals first | omega | exact lq (by omega) | exact nq (by omega) | rfl | (congr 1; omega)
     obtain rfl := Option.some.inj hm1
     simp only [kk1, e12, e15, e19, e21, e24, e29, Y_lower_Find, ↓EVd, isCall, sevalprocAttr]
     refine TI.here (hJ1_1 _ ⟨(v3 ++ ([v16.1] : List Place)), (x1 + 25), ⟨?_, ?_, ?_⟩, hO1 _ rfl⟩)
     all_goals try simp only [kk1, e12, e15, e19, e21, e24, e29, Y_lower_Find, ↓EVd, isCall, sevalprocAttr]
     all_goals first | omega | exact lq (by omega) | exact nq (by omega) | rfl | (congr 1; omega)
   rcases iteE hm1 with ⟨e31, hm1⟩ | ⟨e31, hm1⟩
   · rcases iteE hm1 with ⟨e33, hm1⟩ | ⟨e33, hm1⟩
     · obtain rfl := Option.some.inj hm1
       obtain rfl := hO1 _ rfl
       try dsimp only at hm0
       obtain rfl := Option.some.inj hm0
       simp only [kk1, e12, e15, e19, e21, e31, e33, Y_lower_Find, ↓EVd, isCall, sevalprocAttr]
       all_goals first | done | rfl | exact frzR_of 9 (by simp only [kk1, e12, e15, e19, e21, e31, e33, FZ, CLO, Y_lower_Find, ↓EVd, isCall, sevalprocAttr]) (Sub.tup (Subs.cons (Sub.refl _) (Subs.cons (Sub.refl _) (Subs.nil))))
     obtain rfl := Option.some.inj hm1
     simp only [kk1, e12, e15, e19, e21, e31, e33, Y_lower_Find, ↓EVd, isCall, sevalprocAttr]
     refine TI.here (hJ1_1 _ ⟨v3, l2, ⟨?_, ?_, ?_⟩, hO1 _ rfl⟩)
     all_goals try simp only [kk1, e12, e15, e19, e21, e31, e33, Y_lower_Find, ↓EVd, isCall, sevalprocAttr]
     all_goals first | omega | exact lq (by omega) | exact nq (by omega) | rfl | (congr 1; omega)
   rcases iteE hm1 with ⟨e35, hm1⟩ | ⟨e35, hm1⟩
   · rcases iteE hm1 with ⟨e37, hm1⟩ | ⟨e37, hm1⟩
     · obtain rfl := Option.some.inj hm1
       obtain rfl := hO1 _ rfl
       try dsimp only at hm0
       obtain rfl := Option.some.inj hm0
       simp only [kk1, e12, e15, e19, e21, e31, e35, e37, Y_lower_Find, ↓EVd, isCall, sevalprocAttr]
       all_goals first | done | rfl | exact frzR_of 9 (by simp only [kk1, e12, e15, e19, e21, e31, e35, e37, FZ, CLO, Y_lower_Find, ↓EVd, isCall, sevalprocAttr]) (Sub.tup (Subs.cons (Sub.refl _) (Subs.cons (Sub.refl _) (Subs.nil))))
     obtain rfl := Option.some.inj hm1
     simp only [kk1, e12, e15, e19, e21, e31, e35, e37, Y_lower_Find, ↓EVd, isCall, sevalprocAttr]
     refine TI.here (hJ1_1 _ ⟨v3, l2, ⟨?_, ?_, ?_⟩, hO1 _ rfl⟩)
     all_goals try simp only [kk1, e12, e15, e19, e21, e31, e35, e37, Y_lower_Find, ↓EVd, isCall, sevalprocAttr]
     all_goals first | omega | exact lq (by omega) | exact nq (by omega) | rfl | (congr 1; omega)
   obtain rfl := Option.some.inj hm1
   simp only [kk1, e12, e15, e19, e21, e31, e35, Y_lower_Find, ↓EVd, isCall, sevalprocAttr]
   refine TI.here (hJ1_1 _ ⟨v3, l2, ⟨?_, ?_, ?_⟩, hO1 _ rfl⟩)
   all_goals try simp only [kk1, e12, e15, e19, e21, e31, e35, Y_lower_Find, ↓EVd, isCall, sevalprocAttr]
   all_goals first | omega | exact lq (by omega) | exact nq (by omega) | rfl | (congr 1; omega)
 obtain rfl := Option.some.inj hm1
 simp only [kk1, e12, Y_lower_Find, ↓EVd, isCall, sevalprocAttr]
 refine TI.here (hJ1_0 _ ⟨v3, l2, ⟨?_, ?_, ?_⟩, hO1 _ rfl⟩)
 all_goals try simp only [kk1, e12, Y_lower_Find, ↓EVd, isCall, sevalprocAttr]
 all_goals first | omega | exact lq (by omega) | exact nq (by omega) | rfl | (congr 1; omega)
def m_lower_Look_b0 (a0 : Stack) (a2 : List ByteArray) : (List Place × Int) → Option (St (List Place × Int) ((List Place) ⊕ (List Place × Bool)))
 | (v4, v5) => if v5 < (a2.length : Int) then (ix a2 v5).bind fun v10 => (m_lower_Find a0 v4 v10).bind fun v13 => if v13.1 = 1 then some (.nx (v13.2, (wr (v5 + 1))))
 else some (.out (.inr ([], false)))
 else some (.out (.inl v4))
def m_lower_Look (a0 : Stack) (a1 : List Place) (a2 : List ByteArray) : Option (List Place × Bool) := (cloneM 16 a1).bind fun v1 => (iter (m_lower_Look_b0 a0 a2) big (v1, 0)).bind fun o => (match o with
 | (.inl v7) => some (v7, true)
 | (.inr r) => some r)
def Y_lower_Look := And.intro (And.intro (And.intro ((@EV)) (And.intro ((@R3)) ((@R9)))) (And.intro (And.intro ((@R30)) ((@R41))) (And.intro ((@R42)) ((@R48))))) (And.intro (And.intro (And.intro ((@DGeo)) ((@DBranch))) (And.intro ((@DStack)) ((@DPlace)))) (And.intro (And.intro ((@DOrigin)) ((@DAttr))) (And.intro ((@DNode)) ((@DEntry)))))
set_option maxHeartbeats 2000000 in
theorem ok_lower_Look (a0 : Stack) (a1 : List Place) (a2 : List ByteArray) (r : List Place × Bool) (hm0 : m_lower_Look a0 a1 a2 = some r) : Ok Try.prog 25 [encStack a0, .sl 2 (a1.map encPlace), .sl 1 (a2.map str)] (.tup [.sl 2 (r.1.map encPlace), bool r.2]) := by
 unfold m_lower_Look at hm0
 refine okG fc_lower_Look ?_
 unfold c_lower_Look
 obtain ⟨v1, h2, hm0⟩ := bsE hm0
 simp only [Y_lower_Look, ↓EVd, isCall, sevalprocAttr]
 refine qc (cloneM_ok fc_slices_Clone_api_Place_api_Place elemOfT_42 aggN_48 bytesOfT_48 zero_48 rfl (by decide) encPlace _ _ h2 (fun z => by simp only [CLO])) rfl ?_
 obtain ⟨o0, ho0, hm0⟩ := bsE hm0
 simp only [Y_lower_Look, ↓EVd, isCall, sevalprocAttr]
 refine cwp_cx 0 (fun s => ∃ v7 : List Place, (s.T 8 = .sl 2 (v7.map encPlace)) ∧ (.inl v7) = o0) ?_ fun J0_0 hJ0_0 => ?_
 · rintro T0 H0 x6 ⟨v7, kk0_0, rfl⟩
   dsimp only [Lq, Nq] at kk0_0
   try dsimp only at hm0
   obtain rfl := Option.some.inj hm0
   simp only [kk0_0, Y_lower_Look, ↓EVd, isCall, sevalprocAttr]
   all_goals first | done | rfl | exact frzR_closed (by simp only [CLO]) | exact frzR_sub (by simp only [CLO]) (Sub.tup (Subs.cons (Sub.refl _) (Subs.cons (Sub.refl _) (Subs.nil))))
 refine cwp_lp ho0 (fun (v4, v5) s => s.T 3 = .loc 0 6 0 0 ∧ s.T 8 = .sl 2 (v4.map encPlace) ∧ s.T 15 = .sl 1 (a2.map str) ∧ s.T 16 = int (a2.length : Int) ∧ s.T 17 = int v5 ∧ s.H 0 = some (.row 41 6 [encStack a0]) ∧ Lq 0 s.nx) ?_ ?_
 · refine TI.here ⟨?_, ?_, ?_, ?_, ?_, ?_, ?_⟩
   all_goals try simp only [Y_lower_Look, ↓EVd, isCall, sevalprocAttr]
   all_goals first | omega | exact lq (by omega) | exact nq (by omega) | rfl | (congr 1; omega)
 rintro I0 ⟨v4, v5⟩ T0 H0 x3 st0 kk0 hm1 hI0 hO0
 dsimp only [Lq, Nq] at kk0
 simp only [m_lower_Look_b0] at hm1
 rcases iteE hm1 with ⟨e9, hm1⟩ | ⟨e9, hm1⟩
 · obtain ⟨v10, e12, hm1⟩ := ixE str hm1
   obtain ⟨v13, h14, hm1⟩ := bsE hm1
   simp only [kk0, e9, e12, Y_lower_Look, ↓EVd, isCall, sevalprocAttr]
   refine qc (ok_lower_Find _ _ _ _ h14) rfl ?_
   rcases iteE hm1 with ⟨e16, hm1⟩ | ⟨e16, hm1⟩
   · obtain rfl := Option.some.inj hm1
     simp only [kk0, e9, e12, e16, Y_lower_Look, ↓EVd, isCall, sevalprocAttr]
     refine TI.here (hI0 _ rfl _ ⟨?_, ?_, ?_, ?_, ?_, ?_, ?_⟩)
     all_goals try simp only [kk0, e9, e12, e16, Y_lower_Look, ↓EVd, isCall, sevalprocAttr]
     all_goals first | omega | exact lq (by omega) | exact nq (by omega) | rfl | (congr 1; omega)
   obtain rfl := Option.some.inj hm1
   obtain rfl := hO0 _ rfl
   try dsimp only at hm0
   obtain rfl := Option.some.inj hm0
   simp only [kk0, e9, e12, e16, Y_lower_Look, ↓EVd, isCall, sevalprocAttr]
   all_goals first | done | rfl | exact frzR_closed (by simp only [CLO]) | exact frzR_sub (by simp only [CLO]) (Sub.tup (Subs.cons (Sub.nilS _) (Subs.cons (Sub.refl _) (Subs.nil))))
 obtain rfl := Option.some.inj hm1
 simp only [kk0, e9, Y_lower_Look, ↓EVd, isCall, sevalprocAttr]
 refine TI.here (hJ0_0 _ ⟨v4, ?_, hO0 _ rfl⟩)
 all_goals try simp only [kk0, e9, Y_lower_Look, ↓EVd, isCall, sevalprocAttr]
 all_goals first | omega | exact lq (by omega) | exact nq (by omega) | rfl | (congr 1; omega)
def m_lower_Roots_b0 (a0 : Stack) : (List Place × Int) → Option (St (List Place × Int) (List Place))
 | (v3, v4) => if v4 < (a0.lowers.length : Int) then (m_lower_pile_node a0.lowers (⟨(wr (v4 + 1)), 1⟩ : Place)).bind fun v11 => if v11.kind = 1 then (ap 16 v3 ([(⟨(wr (v4 + 1)), 1⟩ : Place)] : List Place)).bind fun _ => (m_lower_opaque v11).bind fun v19 => if v19 = true then some (.out (v3 ++ ([(⟨(wr (v4 + 1)), 1⟩ : Place)] : List Place)))
 else some (.nx ((v3 ++ ([(⟨(wr (v4 + 1)), 1⟩ : Place)] : List Place)), (wr (v4 + 1))))
 else some (.nx (v3, (wr (v4 + 1))))
 else some (.out v3)
def m_lower_Roots (a0 : Stack) : Option (List Place) := (iter (m_lower_Roots_b0 a0) big ([], 0)).bind fun o => (match o with
 | v7 => some v7)
def Y_lower_Roots := And.intro (And.intro (And.intro (And.intro ((@EV)) ((@R3))) (And.intro ((@R38)) ((@R39)))) (And.intro (And.intro ((@R41)) ((@R42))) (And.intro ((@R48)) ((@R66))))) (And.intro (And.intro (And.intro ((@R73)) ((@DGeo))) (And.intro ((@DBranch)) ((@DStack)))) (And.intro (And.intro ((@DPlace)) ((@DOrigin))) (And.intro ((@DAttr)) (And.intro ((@DNode)) ((@DEntry))))))
set_option maxHeartbeats 2000000 in
theorem ok_lower_Roots (a0 : Stack) (r : List Place) (hm0 : m_lower_Roots a0 = some r) : Ok Try.prog 27 [encStack a0] (.sl 2 (r.map encPlace)) := by
 unfold m_lower_Roots at hm0
 refine okG fc_lower_Roots ?_
 unfold c_lower_Roots
 obtain ⟨o0, ho0, hm0⟩ := bsE hm0
 simp only [Y_lower_Roots, ↓EVd, isCall, sevalprocAttr]
 refine cwp_cx 0 (fun s => ∃ v7 : List Place, ∃ l6 : Nat, (s.T 4 = .msl l6 v7.length ∧ s.H l6 = some (.row 48 2 (v7.map encPlace)) ∧ Lq l6 s.nx) ∧ v7 = o0) ?_ fun J0_0 hJ0_0 => ?_
 · rintro T0 H0 x5 ⟨v7, l6, kk0_0, rfl⟩
   dsimp only [Lq, Nq] at kk0_0
   try dsimp only at hm0
   obtain rfl := Option.some.inj hm0
   simp only [kk0_0, Y_lower_Roots, ↓EVd, isCall, sevalprocAttr]
   all_goals first | done | rfl | exact frzR_e (by simp only [kk0_0, FZ, CLO, Y_lower_Roots, ↓EVd, isCall, sevalprocAttr])
 refine cwp_lp ho0 (fun (v3, v4) s => ∃ l2 : Nat, s.T 3 = .sl 1 (a0.lowers.map encBranch) ∧ s.T 4 = .msl l2 v3.length ∧ s.T 11 = int (a0.lowers.length : Int) ∧ s.T 12 = int v4 ∧ s.H l2 = some (.row 48 2 (v3.map encPlace)) ∧ Lq l2 s.nx) ?_ ?_
 · refine TI.by (Tn.adopt 4 48 2 (by simp only [Y_lower_Roots, ↓EVd, isCall, sevalprocAttr])) ?_
   refine TI.here ⟨9, ?_, ?_, ?_, ?_, ?_, ?_⟩
   all_goals try simp only [Y_lower_Roots, ↓EVd, isCall, sevalprocAttr]
   all_goals first | omega | exact lq (by omega) | exact nq (by omega) | rfl | (congr 1; omega)
 rintro I0 ⟨v3, v4⟩ T0 H0 x1 st0 ⟨l2, kk0⟩ hm1 hI0 hO0
 dsimp only [Lq, Nq] at kk0
 simp only [m_lower_Roots_b0] at hm1
 rcases iteE hm1 with ⟨e9, hm1⟩ | ⟨e9, hm1⟩
 · have e10 : (.agg [int (wr (v4 + 1)), int 1] : AV) = encPlace (⟨(wr (v4 + 1)), 1⟩ : Place) := _root_.id rfl
   obtain ⟨v11, h12, hm1⟩ := bsE hm1
   simp only [kk0, e9, e10, Y_lower_Roots, ↓EVd, isCall, sevalprocAttr]
   refine qc (ok_lower_pile_node _ _ _ h12) rfl ?_
   rcases iteE hm1 with ⟨e14, hm1⟩ | ⟨e14, hm1⟩
   · obtain ⟨e17, hm1⟩ := apE hm1
     try simp only [ZL] at e17
     obtain ⟨v19, h20, hm1⟩ := bsE hm1
     simp only [kk0, e9, e10, e14, e17, Y_lower_Roots, ↓EVd, isCall, sevalprocAttr]
     refine qc (ok_lower_opaque _ _ h20) rfl ?_
     rcases itbE hm1 with ⟨e22, hm1⟩ | ⟨e22, hm1⟩
     · obtain rfl := Option.some.inj hm1
       simp only [kk0, e9, e10, e14, e17, e22, Y_lower_Roots, ↓EVd, isCall, sevalprocAttr]
       refine TI.here (hJ0_0 _ ⟨(v3 ++ ([(⟨(wr (v4 + 1)), 1⟩ : Place)] : List Place)), (x1 + 19), ⟨?_, ?_, ?_⟩, hO0 _ rfl⟩)
       all_goals try simp only [kk0, e9, e10, e14, e17, e22, Y_lower_Roots, ↓EVd, isCall, sevalprocAttr]
       all_goals first | omega | exact lq (by omega) | exact nq (by omega) | rfl | (congr 1; omega)
     obtain rfl := Option.some.inj hm1
     simp only [kk0, e9, e10, e14, e17, e22, Y_lower_Roots, ↓EVd, isCall, sevalprocAttr]
     refine TI.here (hI0 _ rfl _ ⟨(x1 + 19), ?_, ?_, ?_, ?_, ?_, ?_⟩)
     all_goals try simp only [kk0, e9, e10, e14, e17, e22, Y_lower_Roots, ↓EVd, isCall, sevalprocAttr]
     all_goals first | omega | exact lq (by omega) | exact nq (by omega) | rfl | (congr 1; omega)
   obtain rfl := Option.some.inj hm1
   simp only [kk0, e9, e10, e14, Y_lower_Roots, ↓EVd, isCall, sevalprocAttr]
   refine TI.here (hI0 _ rfl _ ⟨l2, ?_, ?_, ?_, ?_, ?_, ?_⟩)
   all_goals try simp only [kk0, e9, e10, e14, Y_lower_Roots, ↓EVd, isCall, sevalprocAttr]
   all_goals first | omega | exact lq (by omega) | exact nq (by omega) | rfl | (congr 1; omega)
 obtain rfl := Option.some.inj hm1
 simp only [kk0, e9, Y_lower_Roots, ↓EVd, isCall, sevalprocAttr]
 refine TI.here (hJ0_0 _ ⟨v3, l2, ⟨?_, ?_, ?_⟩, hO0 _ rfl⟩)
 all_goals try simp only [kk0, e9, Y_lower_Roots, ↓EVd, isCall, sevalprocAttr]
 all_goals first | omega | exact lq (by omega) | exact nq (by omega) | rfl | (congr 1; omega)
def m_lower_Names_1 (a0 : ByteArray) (a1 : Stack) (a2 : List Place) : Option (Bool) := (m_lower_Find a1 a2 a0).bind fun v1 => if v1.1 = 0 then some true
 else some false
def Y_lower_Names_1 := And.intro (And.intro (And.intro ((@EV)) (And.intro ((@R3)) ((@R9)))) (And.intro (And.intro ((@R41)) ((@R42))) (And.intro ((@R48)) ((@DGeo))))) (And.intro (And.intro ((@DBranch)) (And.intro ((@DStack)) ((@DPlace)))) (And.intro (And.intro ((@DOrigin)) ((@DAttr))) (And.intro ((@DNode)) ((@DEntry)))))
set_option maxHeartbeats 2000000 in
theorem ok_lower_Names_1 (a0 : ByteArray) (a1 : Stack) (a2 : List Place) (r : Bool) (hm0 : m_lower_Names_1 a0 a1 a2 = some r) : Ok Try.prog 52 [str a0, .ptr (encStack a1) 0, .ptr (.sl 2 (a2.map encPlace)) 0] (bool r) := by
 unfold m_lower_Names_1 at hm0
 refine okG fc_lower_Names_1 ?_
 unfold c_lower_Names_1
 obtain ⟨v1, h2, hm0⟩ := bsE hm0
 simp only [Y_lower_Names_1, ↓EVd, isCall, sevalprocAttr]
 refine qc (ok_lower_Find _ _ _ _ h2) rfl ?_
 rcases iteE hm0 with ⟨e4, hm0⟩ | ⟨e4, hm0⟩
 · obtain rfl := Option.some.inj hm0
   simp only [e4, Y_lower_Names_1, ↓EVd, isCall, sevalprocAttr]
   all_goals first | done | rfl
 obtain rfl := Option.some.inj hm0
 simp only [e4, Y_lower_Names_1, ↓EVd, isCall, sevalprocAttr]
 all_goals first | done | rfl
def m_slices_Equal_string_string_b0 (a0 : List ByteArray) (a1 : List ByteArray) : Int → Option (St (Int) ((Unit) ⊕ (Bool)))
 | v4 => if v4 < (a0.length : Int) then (ix a0 v4).bind fun v8 => (ix a1 v4).bind fun v11 => if v8 = v11 then some (.nx (wr (v4 + 1)))
 else some (.out (.inr false))
 else some (.out (.inl ()))
def m_slices_Equal_string_string (a0 : List ByteArray) (a1 : List ByteArray) : Option (Bool) := if (a0.length : Int) = (a1.length : Int) then (iter (m_slices_Equal_string_string_b0 a0 a1) big 0).bind fun o => (match o with
 | (.inl _) => some true
 | (.inr r) => some r)
 else some false
def Y_slices_Equal_string_string := And.intro (And.intro ((@EV)) ((@R3))) (And.intro ((@R9)) (And.intro ((@R30)) ((@mixed))))
set_option maxHeartbeats 2000000 in
theorem ok_slices_Equal_string_string (a0 : List ByteArray) (a1 : List ByteArray) (r : Bool) (hm0 : m_slices_Equal_string_string a0 a1 = some r) : Ok Try.prog 17 [.sl 1 (a0.map str), .sl 1 (a1.map str)] (bool r) := by
 unfold m_slices_Equal_string_string at hm0
 refine okG fc_slices_Equal_string_string ?_
 unfold c_slices_Equal_string_string
 rcases iteE hm0 with ⟨e2, hm0⟩ | ⟨e2, hm0⟩
 · obtain ⟨o0, ho0, hm0⟩ := bsE hm0
   simp only [e2, Y_slices_Equal_string_string, ↓EVd, isCall, sevalprocAttr]
   refine cwp_cx 0 (fun s => (.inl ()) = o0) ?_ fun J0_0 hJ0_0 => ?_
   · rintro T0 H0 x5 rfl
     try dsimp only at hm0
     obtain rfl := Option.some.inj hm0
     simp only [e2, Y_slices_Equal_string_string, ↓EVd, isCall, sevalprocAttr]
     all_goals first | done | rfl
   refine cwp_lp ho0 (fun v4 s => s.T 0 = .sl 1 (a0.map str) ∧ s.T 1 = .sl 1 (a1.map str) ∧ s.T 12 = int (a0.length : Int) ∧ s.T 13 = int v4) ?_ ?_
   · refine TI.here ⟨?_, ?_, ?_, ?_⟩
     all_goals try simp only [e2, Y_slices_Equal_string_string, ↓EVd, isCall, sevalprocAttr]
     all_goals first | omega | exact lq (by omega) | exact nq (by omega) | rfl | (congr 1; omega)
   rintro I0 v4 T0 H0 x3 st0 kk0 hm1 hI0 hO0
   dsimp only [Lq, Nq] at kk0
   simp only [m_slices_Equal_string_string_b0] at hm1
   rcases iteE hm1 with ⟨e7, hm1⟩ | ⟨e7, hm1⟩
   · obtain ⟨v8, e10, hm1⟩ := ixE str hm1
     obtain ⟨v11, e13, hm1⟩ := ixE str hm1
     rcases iteE hm1 with ⟨e15, hm1⟩ | ⟨e15, hm1⟩
     · obtain rfl := Option.some.inj hm1
       simp only [kk0, e2, e7, e10, e13, e15, Y_slices_Equal_string_string, ↓EVd, isCall, sevalprocAttr]
       refine TI.here (hI0 _ rfl _ ⟨?_, ?_, ?_, ?_⟩)
       all_goals try simp only [kk0, e2, e7, e10, e13, e15, Y_slices_Equal_string_string, ↓EVd, isCall, sevalprocAttr]
       all_goals first | omega | exact lq (by omega) | exact nq (by omega) | rfl | (congr 1; omega)
     obtain rfl := Option.some.inj hm1
     obtain rfl := hO0 _ rfl
     try dsimp only at hm0
     obtain rfl := Option.some.inj hm0
     simp only [kk0, e2, e7, e10, e13, e15, Y_slices_Equal_string_string, ↓EVd, isCall, sevalprocAttr]
     all_goals first | done | rfl
   obtain rfl := Option.some.inj hm1
   simp only [kk0, e2, e7, Y_slices_Equal_string_string, ↓EVd, isCall, sevalprocAttr]
   refine TI.here (hJ0_0 _ (hO0 _ rfl))
 obtain rfl := Option.some.inj hm0
 simp only [e2, Y_slices_Equal_string_string, ↓EVd, isCall, sevalprocAttr]
 all_goals first | done | rfl
def m_slices_Equal_api_Place_api_Place_b0 (a0 : List Place) (a1 : List Place) : Int → Option (St (Int) ((Unit) ⊕ (Bool)))
 | v4 => if v4 < (a0.length : Int) then (ix a0 v4).bind fun v8 => (ix a1 v4).bind fun v11 => if (decide (v8 = v11)) = true then some (.nx (wr (v4 + 1)))
 else some (.out (.inr false))
 else some (.out (.inl ()))
def m_slices_Equal_api_Place_api_Place (a0 : List Place) (a1 : List Place) : Option (Bool) := if (a0.length : Int) = (a1.length : Int) then (iter (m_slices_Equal_api_Place_api_Place_b0 a0 a1) big 0).bind fun o => (match o with
 | (.inl _) => some true
 | (.inr r) => some r)
 else some false
def Y_slices_Equal_api_Place_api_Place := And.intro (And.intro ((@EV)) (And.intro ((@R3)) ((@R42)))) (And.intro (And.intro ((@R48)) ((@DPlace))) (And.intro ((@eq48)) ((@mixed))))
set_option maxHeartbeats 2000000 in
theorem ok_slices_Equal_api_Place_api_Place (a0 : List Place) (a1 : List Place) (r : Bool) (hm0 : m_slices_Equal_api_Place_api_Place a0 a1 = some r) : Ok Try.prog 24 [.sl 2 (a0.map encPlace), .sl 2 (a1.map encPlace)] (bool r) := by
 unfold m_slices_Equal_api_Place_api_Place at hm0
 refine okG fc_slices_Equal_api_Place_api_Place ?_
 unfold c_slices_Equal_api_Place_api_Place
 rcases iteE hm0 with ⟨e2, hm0⟩ | ⟨e2, hm0⟩
 · obtain ⟨o0, ho0, hm0⟩ := bsE hm0
   simp only [e2, Y_slices_Equal_api_Place_api_Place, ↓EVd, isCall, sevalprocAttr]
   refine cwp_cx 0 (fun s => (.inl ()) = o0) ?_ fun J0_0 hJ0_0 => ?_
   · rintro T0 H0 x5 rfl
     try dsimp only at hm0
     obtain rfl := Option.some.inj hm0
     simp only [e2, Y_slices_Equal_api_Place_api_Place, ↓EVd, isCall, sevalprocAttr]
     all_goals first | done | rfl
   refine cwp_lp ho0 (fun v4 s => s.T 0 = .sl 2 (a0.map encPlace) ∧ s.T 1 = .sl 2 (a1.map encPlace) ∧ s.T 12 = int (a0.length : Int) ∧ s.T 13 = int v4) ?_ ?_
   · refine TI.here ⟨?_, ?_, ?_, ?_⟩
     all_goals try simp only [e2, Y_slices_Equal_api_Place_api_Place, ↓EVd, isCall, sevalprocAttr]
     all_goals first | omega | exact lq (by omega) | exact nq (by omega) | rfl | (congr 1; omega)
   rintro I0 v4 T0 H0 x3 st0 kk0 hm1 hI0 hO0
   dsimp only [Lq, Nq] at kk0
   simp only [m_slices_Equal_api_Place_api_Place_b0] at hm1
   rcases iteE hm1 with ⟨e7, hm1⟩ | ⟨e7, hm1⟩
   · obtain ⟨v8, e10, hm1⟩ := ixE encPlace hm1
     obtain ⟨v11, e13, hm1⟩ := ixE encPlace hm1
     rcases itbE hm1 with ⟨e15, hm1⟩ | ⟨e15, hm1⟩
     · obtain rfl := Option.some.inj hm1
       simp only [kk0, e2, e7, e10, e13, e15, Y_slices_Equal_api_Place_api_Place, ↓EVd, isCall, sevalprocAttr]
       refine TI.here (hI0 _ rfl _ ⟨?_, ?_, ?_, ?_⟩)
       all_goals try simp only [kk0, e2, e7, e10, e13, e15, Y_slices_Equal_api_Place_api_Place, ↓EVd, isCall, sevalprocAttr]
       all_goals first | omega | exact lq (by omega) | exact nq (by omega) | rfl | (congr 1; omega)
     obtain rfl := Option.some.inj hm1
     obtain rfl := hO0 _ rfl
     try dsimp only at hm0
     obtain rfl := Option.some.inj hm0
     simp only [kk0, e2, e7, e10, e13, e15, Y_slices_Equal_api_Place_api_Place, ↓EVd, isCall, sevalprocAttr]
     all_goals first | done | rfl
   obtain rfl := Option.some.inj hm1
   simp only [kk0, e2, e7, Y_slices_Equal_api_Place_api_Place, ↓EVd, isCall, sevalprocAttr]
   refine TI.here (hJ0_0 _ (hO0 _ rfl))
 obtain rfl := Option.some.inj hm0
 simp only [e2, Y_slices_Equal_api_Place_api_Place, ↓EVd, isCall, sevalprocAttr]
 all_goals first | done | rfl
def m_cmp_isNaN_string (a0 : ByteArray) : Option (Bool) := some false
def Y_cmp_isNaN_string := And.intro ((@EV)) ((@R9))
set_option maxHeartbeats 2000000 in
theorem ok_cmp_isNaN_string (a0 : ByteArray) (r : Bool) (hm0 : m_cmp_isNaN_string a0 = some r) : Ok Try.prog 57 [str a0] (bool r) := by
 unfold m_cmp_isNaN_string at hm0
 refine okG fc_cmp_isNaN_string ?_
 unfold c_cmp_isNaN_string
 obtain rfl := Option.some.inj hm0
 simp only [Y_cmp_isNaN_string, ↓EVd, isCall, sevalprocAttr]
 all_goals first | done | rfl
def m_cmp_Less_string (a0 : ByteArray) (a1 : ByteArray) : Option (Bool) := (m_cmp_isNaN_string a0).bind fun v1 => if v1 = true then (m_cmp_isNaN_string a1).bind fun v5 => if (!v5) = true then some true
 else if (Op.bytesLess a0.toList a1.toList) = true then some true
 else some false
 else if (Op.bytesLess a0.toList a1.toList) = true then some true
 else some false
def Y_cmp_Less_string := And.intro ((@EV)) ((@R9))
set_option maxHeartbeats 2000000 in
theorem ok_cmp_Less_string (a0 : ByteArray) (a1 : ByteArray) (r : Bool) (hm0 : m_cmp_Less_string a0 a1 = some r) : Ok Try.prog 39 [str a0, str a1] (bool r) := by
 unfold m_cmp_Less_string at hm0
 refine okG fc_cmp_Less_string ?_
 unfold c_cmp_Less_string
 obtain ⟨v1, h2, hm0⟩ := bsE hm0
 simp only [Y_cmp_Less_string, ↓EVd, isCall, sevalprocAttr]
 refine qc (ok_cmp_isNaN_string _ _ h2) rfl ?_
 rcases itbE hm0 with ⟨e4, hm0⟩ | ⟨e4, hm0⟩
 · obtain ⟨v5, h6, hm0⟩ := bsE hm0
   simp only [e4, Y_cmp_Less_string, ↓EVd, isCall, sevalprocAttr]
   refine qc (ok_cmp_isNaN_string _ _ h6) rfl ?_
   rcases itbE hm0 with ⟨e8, hm0⟩ | ⟨e8, hm0⟩
   · obtain rfl := Option.some.inj hm0
     simp only [e4, e8, Y_cmp_Less_string, ↓EVd, isCall, sevalprocAttr]
     all_goals first | done | rfl
   rcases itbE hm0 with ⟨e10, hm0⟩ | ⟨e10, hm0⟩
   · obtain rfl := Option.some.inj hm0
     simp only [e4, e8, e10, Y_cmp_Less_string, ↓EVd, isCall, sevalprocAttr]
     all_goals first | done | rfl
   obtain rfl := Option.some.inj hm0
   simp only [e4, e8, e10, Y_cmp_Less_string, ↓EVd, isCall, sevalprocAttr]
   all_goals first | done | rfl
 rcases itbE hm0 with ⟨e12, hm0⟩ | ⟨e12, hm0⟩
 · obtain rfl := Option.some.inj hm0
   simp only [e4, e12, Y_cmp_Less_string, ↓EVd, isCall, sevalprocAttr]
   all_goals first | done | rfl
 obtain rfl := Option.some.inj hm0
 simp only [e4, e12, Y_cmp_Less_string, ↓EVd, isCall, sevalprocAttr]
 all_goals first | done | rfl
def m_slices_IsSorted_string_string_b0 (a0 : List ByteArray) : Int → Option (St (Int) ((Unit) ⊕ (Bool)))
 | v2 => if 0 < v2 then (ix a0 v2).bind fun v6 => (ix a0 (wr (v2 - 1))).bind fun v9 => (m_cmp_Less_string v6 v9).bind fun v12 => if v12 = true then some (.out (.inr false))
 else some (.nx (wr (v2 - 1)))
 else some (.out (.inl ()))
def m_slices_IsSorted_string_string (a0 : List ByteArray) : Option (Bool) := (iter (m_slices_IsSorted_string_string_b0 a0) big (wr ((a0.length : Int) - 1))).bind fun o => (match o with
 | (.inl _) => some true
 | (.inr r) => some r)
def Y_slices_IsSorted_string_string := And.intro (And.intro ((@EV)) ((@R3))) (And.intro ((@R9)) (And.intro ((@R30)) ((@mixed))))
set_option maxHeartbeats 2000000 in
theorem ok_slices_IsSorted_string_string (a0 : List ByteArray) (r : Bool) (hm0 : m_slices_IsSorted_string_string a0 = some r) : Ok Try.prog 19 [.sl 1 (a0.map str)] (bool r) := by
 unfold m_slices_IsSorted_string_string at hm0
 refine okG fc_slices_IsSorted_string_string ?_
 unfold c_slices_IsSorted_string_string
 obtain ⟨o0, ho0, hm0⟩ := bsE hm0
 simp only [Y_slices_IsSorted_string_string, ↓EVd, isCall, sevalprocAttr]
 refine cwp_cx 0 (fun s => (.inl ()) = o0) ?_ fun J0_0 hJ0_0 => ?_
 · rintro T0 H0 x3 rfl
   try dsimp only at hm0
   obtain rfl := Option.some.inj hm0
   simp only [Y_slices_IsSorted_string_string, ↓EVd, isCall, sevalprocAttr]
   all_goals first | done | rfl
 refine cwp_lp ho0 (fun v2 s => s.T 0 = .sl 1 (a0.map str) ∧ s.T 3 = int v2) ?_ ?_
 · refine TI.here ⟨?_, ?_⟩
   all_goals try simp only [Y_slices_IsSorted_string_string, ↓EVd, isCall, sevalprocAttr]
   all_goals first | omega | exact lq (by omega) | exact nq (by omega) | rfl | (congr 1; omega)
 rintro I0 v2 T0 H0 x1 st0 kk0 hm1 hI0 hO0
 dsimp only [Lq, Nq] at kk0
 simp only [m_slices_IsSorted_string_string_b0] at hm1
 rcases iteE hm1 with ⟨e5, hm1⟩ | ⟨e5, hm1⟩
 · obtain ⟨v6, e8, hm1⟩ := ixE str hm1
   obtain ⟨v9, e11, hm1⟩ := ixE str hm1
   obtain ⟨v12, h13, hm1⟩ := bsE hm1
   simp only [kk0, e5, e8, e11, Y_slices_IsSorted_string_string, ↓EVd, isCall, sevalprocAttr]
   refine qd (ok_cmp_Less_string _ _ _ h13) rfl ?_
   rcases itbE hm1 with ⟨e15, hm1⟩ | ⟨e15, hm1⟩
   · obtain rfl := Option.some.inj hm1
     obtain rfl := hO0 _ rfl
     try dsimp only at hm0
     obtain rfl := Option.some.inj hm0
     simp only [kk0, e5, e8, e11, e15, Y_slices_IsSorted_string_string, ↓EVd, isCall, sevalprocAttr]
     all_goals first | done | rfl
   obtain rfl := Option.some.inj hm1
   simp only [kk0, e5, e8, e11, e15, Y_slices_IsSorted_string_string, ↓EVd, isCall, sevalprocAttr]
   refine TI.here (hI0 _ rfl _ ⟨?_, ?_⟩)
   all_goals try simp only [kk0, e5, e8, e11, e15, Y_slices_IsSorted_string_string, ↓EVd, isCall, sevalprocAttr]
   all_goals first | omega | exact lq (by omega) | exact nq (by omega) | rfl | (congr 1; omega)
 obtain rfl := Option.some.inj hm1
 simp only [kk0, e5, Y_slices_IsSorted_string_string, ↓EVd, isCall, sevalprocAttr]
 refine TI.here (hJ0_0 _ (hO0 _ rfl))
def m_slices_Index_string_string_b0 (a0 : List ByteArray) (a1 : ByteArray) : Int → Option (St (Int) ((Unit) ⊕ (Int)))
 | v2 => if v2 < (a0.length : Int) then (ix a0 v2).bind fun v6 => if a1 = v6 then some (.out (.inr v2))
 else some (.nx (wr (v2 + 1)))
 else some (.out (.inl ()))
def m_slices_Index_string_string (a0 : List ByteArray) (a1 : ByteArray) : Option (Int) := (iter (m_slices_Index_string_string_b0 a0 a1) big 0).bind fun o => (match o with
 | (.inl _) => some (-1)
 | (.inr r) => some r)
def Y_slices_Index_string_string := And.intro (And.intro ((@EV)) ((@R3))) (And.intro ((@R9)) ((@R30)))
set_option maxHeartbeats 2000000 in
theorem ok_slices_Index_string_string (a0 : List ByteArray) (a1 : ByteArray) (r : Int) (hm0 : m_slices_Index_string_string a0 a1 = some r) : Ok Try.prog 53 [.sl 1 (a0.map str), str a1] (int r) := by
 unfold m_slices_Index_string_string at hm0
 refine okG fc_slices_Index_string_string ?_
 unfold c_slices_Index_string_string
 obtain ⟨o0, ho0, hm0⟩ := bsE hm0
 simp only [Y_slices_Index_string_string, ↓EVd, isCall, sevalprocAttr]
 refine cwp_cx 0 (fun s => (.inl ()) = o0) ?_ fun J0_0 hJ0_0 => ?_
 · rintro T0 H0 x3 rfl
   try dsimp only at hm0
   obtain rfl := Option.some.inj hm0
   simp only [Y_slices_Index_string_string, ↓EVd, isCall, sevalprocAttr]
   all_goals first | done | rfl
 refine cwp_lp ho0 (fun v2 s => s.T 0 = .sl 1 (a0.map str) ∧ s.T 1 = str a1 ∧ s.T 7 = int (a0.length : Int) ∧ s.T 8 = int v2) ?_ ?_
 · refine TI.here ⟨?_, ?_, ?_, ?_⟩
   all_goals try simp only [Y_slices_Index_string_string, ↓EVd, isCall, sevalprocAttr]
   all_goals first | omega | exact lq (by omega) | exact nq (by omega) | rfl | (congr 1; omega)
 rintro I0 v2 T0 H0 x1 st0 kk0 hm1 hI0 hO0
 dsimp only [Lq, Nq] at kk0
 simp only [m_slices_Index_string_string_b0] at hm1
 rcases iteE hm1 with ⟨e5, hm1⟩ | ⟨e5, hm1⟩
 · obtain ⟨v6, e8, hm1⟩ := ixE str hm1
   rcases iteE hm1 with ⟨e10, hm1⟩ | ⟨e10, hm1⟩
   · obtain rfl := Option.some.inj hm1
     obtain rfl := hO0 _ rfl
     try dsimp only at hm0
     obtain rfl := Option.some.inj hm0
     simp only [kk0, e5, e8, e10, Y_slices_Index_string_string, ↓EVd, isCall, sevalprocAttr]
     all_goals first | done | rfl
   obtain rfl := Option.some.inj hm1
   simp only [kk0, e5, e8, e10, Y_slices_Index_string_string, ↓EVd, isCall, sevalprocAttr]
   refine TI.here (hI0 _ rfl _ ⟨?_, ?_, ?_, ?_⟩)
   all_goals try simp only [kk0, e5, e8, e10, Y_slices_Index_string_string, ↓EVd, isCall, sevalprocAttr]
   all_goals first | omega | exact lq (by omega) | exact nq (by omega) | rfl | (congr 1; omega)
 obtain rfl := Option.some.inj hm1
 simp only [kk0, e5, Y_slices_Index_string_string, ↓EVd, isCall, sevalprocAttr]
 refine TI.here (hJ0_0 _ (hO0 _ rfl))
def m_slices_Contains_string_string (a0 : List ByteArray) (a1 : ByteArray) : Option (Bool) := (m_slices_Index_string_string a0 a1).bind fun v1 => if 0 ≤ v1 then some true
 else some false
def Y_slices_Contains_string_string := And.intro (And.intro ((@EV)) ((@R3))) (And.intro ((@R9)) ((@R30)))
set_option maxHeartbeats 2000000 in
theorem ok_slices_Contains_string_string (a0 : List ByteArray) (a1 : ByteArray) (r : Bool) (hm0 : m_slices_Contains_string_string a0 a1 = some r) : Ok Try.prog 31 [.sl 1 (a0.map str), str a1] (bool r) := by
 unfold m_slices_Contains_string_string at hm0
 refine okG fc_slices_Contains_string_string ?_
 unfold c_slices_Contains_string_string
 obtain ⟨v1, h2, hm0⟩ := bsE hm0
 simp only [Y_slices_Contains_string_string, ↓EVd, isCall, sevalprocAttr]
 refine qc (ok_slices_Index_string_string _ _ _ h2) rfl ?_
 rcases iteE hm0 with ⟨e4, hm0⟩ | ⟨e4, hm0⟩
 · obtain rfl := Option.some.inj hm0
   simp only [e4, Y_slices_Contains_string_string, ↓EVd, isCall, sevalprocAttr]
   all_goals first | done | rfl
 obtain rfl := Option.some.inj hm0
 simp only [e4, Y_slices_Contains_string_string, ↓EVd, isCall, sevalprocAttr]
 all_goals first | done | rfl
end Go.Proofs.Ytlgikchfddhocaa.AL

