/- A law of the given program is proved: part 44 of 50. -/
import Derived.Test.YtapdjibjnfeipaaGreatDoorC43
set_option linter.all false
/- Models of functions, and that the functions are as their models: written by gen.py. -/
set_option linter.all false
set_option maxRecDepth 100000
namespace Go.Proofs.YtapdjibjnfeipaaGreatDoor.AL
open Go Go.Proofs
def m_view_Opaque (a0 : Node) : Option (Bool) := if a0.kind = 1 then if 0 ≤ a0.attr.has then if (bAnd .i64 a0.attr.has 1) = 0 then some false
 else if a0.attr.opaque0 = 121 then some true
 else some false
 else some false
 else some false
def Y_view_Opaque := And.intro (And.intro (And.intro ((@EV)) ((@R3))) (And.intro ((@R66)) ((@R68)))) (And.intro (And.intro ((@DEntry)) ((@DOrigin))) (And.intro ((@DAttr)) ((@DNode))))
set_option maxHeartbeats 2000000 in
theorem ok_view_Opaque (a0 : Node) (r : Bool) (hm0 : m_view_Opaque a0 = some r) : Ok Tryz.prog 40 [encNode a0] (bool r) := by
 unfold m_view_Opaque at hm0
 refine okG fc_view_Opaque ?_
 unfold c_view_Opaque
 rcases iteE hm0 with ⟨e2, hm0⟩ | ⟨e2, hm0⟩
 · rcases iteE hm0 with ⟨e4, hm0⟩ | ⟨e4, hm0⟩
   · rcases iteE hm0 with ⟨e6, hm0⟩ | ⟨e6, hm0⟩
     · obtain rfl := Option.some.inj hm0
       simp only [e2, e4, e6, Y_view_Opaque, ↓EVd, isCall, sevalprocAttr]
       all_goals first | done | rfl
     rcases iteE hm0 with ⟨e8, hm0⟩ | ⟨e8, hm0⟩
     · obtain rfl := Option.some.inj hm0
       simp only [e2, e4, e6, e8, Y_view_Opaque, ↓EVd, isCall, sevalprocAttr]
       all_goals first | done | rfl
     obtain rfl := Option.some.inj hm0
     simp only [e2, e4, e6, e8, Y_view_Opaque, ↓EVd, isCall, sevalprocAttr]
     all_goals first | done | rfl
   obtain rfl := Option.some.inj hm0
   simp only [e2, e4, Y_view_Opaque, ↓EVd, isCall, sevalprocAttr]
   all_goals first | done | rfl
 obtain rfl := Option.some.inj hm0
 simp only [e2, Y_view_Opaque, ↓EVd, isCall, sevalprocAttr]
 all_goals first | done | rfl
def m_view_stack_node (a0 : Stack) (a1 : Int) : Option (Node) := if a1 < 1 then some (⟨0, 0, 0, 0, [], [], (⟨0, 0, noBytes, (⟨0, 0, 0⟩ : Origin), 0⟩ : Attr)⟩ : Node)
 else if (a0.upper.nodes.length : Int) < a1 then some (⟨0, 0, 0, 0, [], [], (⟨0, 0, noBytes, (⟨0, 0, 0⟩ : Origin), 0⟩ : Attr)⟩ : Node)
 else (ix a0.upper.nodes (wr (a1 - 1))).bind fun v5 => some v5
def Y_view_stack_node := And.intro (And.intro (And.intro ((@EV)) (And.intro ((@R3)) ((@R23)))) (And.intro (And.intro ((@R24)) ((@R26))) (And.intro ((@R29)) ((@R68))))) (And.intro (And.intro (And.intro ((@R92)) ((@DGeo))) (And.intro ((@DBranch)) ((@DStack)))) (And.intro (And.intro ((@DEntry)) ((@DOrigin))) (And.intro ((@DAttr)) ((@DNode)))))
set_option maxHeartbeats 2000000 in
theorem ok_view_stack_node (a0 : Stack) (a1 : Int) (r : Node) (hm0 : m_view_stack_node a0 a1 = some r) : Ok Tryz.prog 53 [encStack a0, int a1] (encNode r) := by
 unfold m_view_stack_node at hm0
 refine okG fc_view_stack_node ?_
 unfold c_view_stack_node
 rcases iteE hm0 with ⟨e2, hm0⟩ | ⟨e2, hm0⟩
 · obtain rfl := Option.some.inj hm0
   simp only [e2, Y_view_stack_node, ↓EVd, isCall, sevalprocAttr]
   all_goals first | done | rfl | exact frzR_closed (by simp only [CLO]) | exact frzR_sub (by simp only [CLO]) (Sub.agg (Subs.cons (Sub.refl _) (Subs.cons (Sub.refl _) (Subs.cons (Sub.refl _) (Subs.cons (Sub.refl _) (Subs.cons (Sub.nilS _) (Subs.cons (Sub.nilS _) (Subs.cons (Sub.refl _) (Subs.cons (Sub.refl _) (Subs.cons (Sub.refl _) (Subs.cons (Sub.refl _) (Subs.cons (Sub.refl _) (Subs.cons (Sub.refl _) (Subs.cons (Sub.refl _) (Subs.nil)))))))))))))))
 rcases iteE hm0 with ⟨e4, hm0⟩ | ⟨e4, hm0⟩
 · obtain rfl := Option.some.inj hm0
   simp only [e2, e4, Y_view_stack_node, ↓EVd, isCall, sevalprocAttr]
   all_goals first | done | rfl | exact frzR_closed (by simp only [CLO]) | exact frzR_sub (by simp only [CLO]) (Sub.agg (Subs.cons (Sub.refl _) (Subs.cons (Sub.refl _) (Subs.cons (Sub.refl _) (Subs.cons (Sub.refl _) (Subs.cons (Sub.nilS _) (Subs.cons (Sub.nilS _) (Subs.cons (Sub.refl _) (Subs.cons (Sub.refl _) (Subs.cons (Sub.refl _) (Subs.cons (Sub.refl _) (Subs.cons (Sub.refl _) (Subs.cons (Sub.refl _) (Subs.cons (Sub.refl _) (Subs.nil)))))))))))))))
 obtain ⟨v5, e7, hm0⟩ := ixE encNode hm0
 obtain rfl := Option.some.inj hm0
 simp only [e2, e4, e7, Y_view_stack_node, ↓EVd, isCall, sevalprocAttr]
 all_goals first | done | rfl | exact frzR_closed (by simp only [CLO])
def m_view_Root (a0 : Stack) : Option (View) := (m_view_stack_node (⟨(⟨a0.geo.lowers, a0.geo.inodes, a0.geo.blocks, a0.geo.log⟩ : Geo), (⟨a0.upper.nodes⟩ : Branch), a0.lowers⟩ : Stack) 1).bind fun v2 => if v2.kind = 1 then (m_view_Opaque v2).bind fun v6 => if (!v6) = true then (m_lower_Roots a0).bind fun v10 => some (⟨1, v10⟩ : View)
 else some (⟨1, []⟩ : View)
 else (m_view_Opaque v2).bind fun v12 => if (!v12) = true then (m_lower_Roots a0).bind fun v16 => some (⟨0, v16⟩ : View)
 else some (⟨0, []⟩ : View)
def Y_view_Root := And.intro (And.intro (And.intro (And.intro ((@EV)) ((@R3))) (And.intro ((@R29)) ((@R30)))) (And.intro (And.intro ((@R32)) ((@R45))) (And.intro ((@R68)) ((@R92))))) (And.intro (And.intro (And.intro ((@DGeo)) ((@DBranch))) (And.intro ((@DStack)) ((@DView)))) (And.intro (And.intro ((@DPlace)) ((@DEntry))) (And.intro ((@DOrigin)) (And.intro ((@DAttr)) ((@DNode))))))
set_option maxHeartbeats 2000000 in
theorem ok_view_Root (a0 : Stack) (r : View) (hm0 : m_view_Root a0 = some r) : Ok Tryz.prog 22 [encStack a0] (encView r) := by
 unfold m_view_Root at hm0
 refine okG fc_view_Root ?_
 unfold c_view_Root
 have e1 : (.agg [int a0.geo.lowers, int a0.geo.inodes, int a0.geo.blocks, int a0.geo.log, .sl 13 (a0.upper.nodes.map encNode), .sl 1 (a0.lowers.map encBranch)] : AV) = encStack (⟨(⟨a0.geo.lowers, a0.geo.inodes, a0.geo.blocks, a0.geo.log⟩ : Geo), (⟨a0.upper.nodes⟩ : Branch), a0.lowers⟩ : Stack) := _root_.id rfl
 obtain ⟨v2, h3, hm0⟩ := bsE hm0
 simp only [e1, Y_view_Root, ↓EVd, isCall, sevalprocAttr]
 refine qc (ok_view_stack_node _ _ _ h3) rfl ?_
 rcases iteE hm0 with ⟨e5, hm0⟩ | ⟨e5, hm0⟩
 · obtain ⟨v6, h7, hm0⟩ := bsE hm0
   simp only [e1, e5, Y_view_Root, ↓EVd, isCall, sevalprocAttr]
   refine qc (ok_view_Opaque _ _ h7) rfl ?_
   rcases itbE hm0 with ⟨e9, hm0⟩ | ⟨e9, hm0⟩
   · obtain ⟨v10, h11, hm0⟩ := bsE hm0
     simp only [e1, e5, e9, Y_view_Root, ↓EVd, isCall, sevalprocAttr]
     refine qc (ok_lower_Roots _ _ h11) rfl ?_
     obtain rfl := Option.some.inj hm0
     simp only [e1, e5, e9, Y_view_Root, ↓EVd, isCall, sevalprocAttr]
     all_goals first | done | rfl | exact frzR_closed (by simp only [CLO]) | exact frzR_sub (by simp only [CLO]) (Sub.agg (Subs.cons (Sub.refl _) (Subs.cons (Sub.refl _) (Subs.nil))))
   obtain rfl := Option.some.inj hm0
   simp only [e1, e5, e9, Y_view_Root, ↓EVd, isCall, sevalprocAttr]
   all_goals first | done | rfl | exact frzR_closed (by simp only [CLO]) | exact frzR_sub (by simp only [CLO]) (Sub.agg (Subs.cons (Sub.refl _) (Subs.cons (Sub.nilS _) (Subs.nil))))
 obtain ⟨v12, h13, hm0⟩ := bsE hm0
 simp only [e1, e5, Y_view_Root, ↓EVd, isCall, sevalprocAttr]
 refine qc (ok_view_Opaque _ _ h13) rfl ?_
 rcases itbE hm0 with ⟨e15, hm0⟩ | ⟨e15, hm0⟩
 · obtain ⟨v16, h17, hm0⟩ := bsE hm0
   simp only [e1, e5, e15, Y_view_Root, ↓EVd, isCall, sevalprocAttr]
   refine qc (ok_lower_Roots _ _ h17) rfl ?_
   obtain rfl := Option.some.inj hm0
   simp only [e1, e5, e15, Y_view_Root, ↓EVd, isCall, sevalprocAttr]
   all_goals first | done | rfl | exact frzR_closed (by simp only [CLO]) | exact frzR_sub (by simp only [CLO]) (Sub.agg (Subs.cons (Sub.refl _) (Subs.cons (Sub.refl _) (Subs.nil))))
 obtain rfl := Option.some.inj hm0
 simp only [e1, e5, e15, Y_view_Root, ↓EVd, isCall, sevalprocAttr]
 all_goals first | done | rfl | exact frzR_closed (by simp only [CLO]) | exact frzR_sub (by simp only [CLO]) (Sub.agg (Subs.cons (Sub.refl _) (Subs.cons (Sub.nilS _) (Subs.nil))))
def m_view_stack_dirs (a0 : Stack) (a1 : List Place) (a2 : ByteArray) : Option (List Place) := (m_lower_Find a0 a1 a2).bind fun v1 => if v1.1 = 1 then some v1.2
 else some []
def Y_view_stack_dirs := And.intro (And.intro (And.intro (And.intro ((@EV)) ((@R3))) (And.intro ((@R9)) ((@R23)))) (And.intro (And.intro ((@R29)) ((@R30))) (And.intro ((@R45)) ((@R92))))) (And.intro (And.intro (And.intro ((@DGeo)) ((@DBranch))) (And.intro ((@DStack)) ((@DPlace)))) (And.intro (And.intro ((@DEntry)) ((@DOrigin))) (And.intro ((@DAttr)) ((@DNode)))))
set_option maxHeartbeats 2000000 in
theorem ok_view_stack_dirs (a0 : Stack) (a1 : List Place) (a2 : ByteArray) (r : List Place) (hm0 : m_view_stack_dirs a0 a1 a2 = some r) : Ok Tryz.prog 83 [encStack a0, .sl 2 (a1.map encPlace), str a2] (.sl 2 (r.map encPlace)) := by
 unfold m_view_stack_dirs at hm0
 refine okG fc_view_stack_dirs ?_
 unfold c_view_stack_dirs
 obtain ⟨v1, h2, hm0⟩ := bsE hm0
 simp only [Y_view_stack_dirs, ↓EVd, isCall, sevalprocAttr]
 refine qc (ok_lower_Find _ _ _ _ h2) rfl ?_
 rcases iteE hm0 with ⟨e4, hm0⟩ | ⟨e4, hm0⟩
 · obtain rfl := Option.some.inj hm0
   simp only [e4, Y_view_stack_dirs, ↓EVd, isCall, sevalprocAttr]
   all_goals first | done | rfl | exact frzR_closed (by simp only [CLO])
 obtain rfl := Option.some.inj hm0
 simp only [e4, Y_view_stack_dirs, ↓EVd, isCall, sevalprocAttr]
 all_goals first | done | rfl | exact frzR_sub (by simp only [CLO]) (Sub.nilS _)
def m_view_stack_part (a0 : Stack) (a1 : View) (a2 : Node) (a3 : ByteArray) : Option (List Place) := if a2.kind = 1 then (m_view_Opaque a2).bind fun v3 => if v3 = true then some []
 else if a2.attr.has < 0 then (m_view_stack_dirs a0 a1.lower a3).bind fun v9 => some v9
 else if (bAnd .i64 a2.attr.has 2) = 0 then (m_view_stack_dirs a0 a1.lower a3).bind fun v13 => some v13
 else (m_path_Redirect a2.attr.redirect).bind fun v15 => if (!v15.2.2) = true then some []
 else if v15.2.1 = true then (m_lower_Roots a0).bind fun v21 => (m_lower_Look a0 v21 v15.1).bind fun v23 => some v23.1
 else (ix v15.1 0).bind fun v25 => (m_view_stack_dirs a0 a1.lower v25).bind fun v28 => some v28
 else some []
def Y_view_stack_part := And.intro (And.intro (And.intro (And.intro ((@EV)) ((@R3))) (And.intro ((@R9)) (And.intro ((@R23)) ((@R29))))) (And.intro (And.intro ((@R30)) (And.intro ((@R32)) ((@R42)))) (And.intro ((@R45)) (And.intro ((@R66)) ((@R68)))))) (And.intro (And.intro (And.intro ((@R92)) ((@DGeo))) (And.intro ((@DBranch)) (And.intro ((@DStack)) ((@DView))))) (And.intro (And.intro ((@DPlace)) (And.intro ((@DEntry)) ((@DOrigin)))) (And.intro ((@DAttr)) (And.intro ((@DNode)) ((@mixed))))))
set_option maxHeartbeats 2000000 in
theorem ok_view_stack_part (a0 : Stack) (a1 : View) (a2 : Node) (a3 : ByteArray) (r : List Place) (hm0 : m_view_stack_part a0 a1 a2 a3 = some r) : Ok Tryz.prog 54 [encStack a0, encView a1, encNode a2, str a3] (.sl 2 (r.map encPlace)) := by
 unfold m_view_stack_part at hm0
 refine okG fc_view_stack_part ?_
 unfold c_view_stack_part
 rcases iteE hm0 with ⟨e2, hm0⟩ | ⟨e2, hm0⟩
 · obtain ⟨v3, h4, hm0⟩ := bsE hm0
   simp only [e2, Y_view_stack_part, ↓EVd, isCall, sevalprocAttr]
   refine qc (ok_view_Opaque _ _ h4) rfl ?_
   rcases itbE hm0 with ⟨e6, hm0⟩ | ⟨e6, hm0⟩
   · obtain rfl := Option.some.inj hm0
     simp only [e2, e6, Y_view_stack_part, ↓EVd, isCall, sevalprocAttr]
     all_goals first | done | rfl | exact frzR_sub (by simp only [CLO]) (Sub.nilS _)
   rcases iteE hm0 with ⟨e8, hm0⟩ | ⟨e8, hm0⟩
   · obtain ⟨v9, h10, hm0⟩ := bsE hm0
     simp only [e2, e6, e8, Y_view_stack_part, ↓EVd, isCall, sevalprocAttr]
     refine qc (ok_view_stack_dirs _ _ _ _ h10) rfl ?_
     obtain rfl := Option.some.inj hm0
     simp only [e2, e6, e8, Y_view_stack_part, ↓EVd, isCall, sevalprocAttr]
     all_goals first | done | rfl | exact frzR_closed (by simp only [CLO])
   rcases iteE hm0 with ⟨e12, hm0⟩ | ⟨e12, hm0⟩
   · obtain ⟨v13, h14, hm0⟩ := bsE hm0
     simp only [e2, e6, e8, e12, Y_view_stack_part, ↓EVd, isCall, sevalprocAttr]
     refine qc (ok_view_stack_dirs _ _ _ _ h14) rfl ?_
     obtain rfl := Option.some.inj hm0
     simp only [e2, e6, e8, e12, Y_view_stack_part, ↓EVd, isCall, sevalprocAttr]
     all_goals first | done | rfl | exact frzR_closed (by simp only [CLO])
   obtain ⟨v15, h16, hm0⟩ := bsE hm0
   simp only [e2, e6, e8, e12, Y_view_stack_part, ↓EVd, isCall, sevalprocAttr]
   refine qc (ok_path_Redirect _ _ h16) rfl ?_
   rcases itbE hm0 with ⟨e18, hm0⟩ | ⟨e18, hm0⟩
   · obtain rfl := Option.some.inj hm0
     simp only [e2, e6, e8, e12, e18, Y_view_stack_part, ↓EVd, isCall, sevalprocAttr]
     all_goals first | done | rfl | exact frzR_sub (by simp only [CLO]) (Sub.nilS _)
   rcases itbE hm0 with ⟨e20, hm0⟩ | ⟨e20, hm0⟩
   · obtain ⟨v21, h22, hm0⟩ := bsE hm0
     simp only [e2, e6, e8, e12, e18, e20, Y_view_stack_part, ↓EVd, isCall, sevalprocAttr]
     refine qd (ok_lower_Roots _ _ h22) rfl ?_
     obtain ⟨v23, h24, hm0⟩ := bsE hm0
     simp only [e2, e6, e8, e12, e18, e20, Y_view_stack_part, ↓EVd, isCall, sevalprocAttr]
     refine qd (ok_lower_Look _ _ _ _ h24) rfl ?_
     obtain rfl := Option.some.inj hm0
     simp only [e2, e6, e8, e12, e18, e20, Y_view_stack_part, ↓EVd, isCall, sevalprocAttr]
     all_goals first | done | rfl | exact frzR_closed (by simp only [CLO])
   obtain ⟨v25, e27, hm0⟩ := ixE str hm0
   try simp only [sevalprocAttr, eq_self, true_and] at e27
   obtain ⟨v28, h29, hm0⟩ := bsE hm0
   simp only [e2, e6, e8, e12, e18, e20, e27, Y_view_stack_part, ↓EVd, isCall, sevalprocAttr]
   refine qd (ok_view_stack_dirs _ _ _ _ h29) rfl ?_
   obtain rfl := Option.some.inj hm0
   simp only [e2, e6, e8, e12, e18, e20, e27, Y_view_stack_part, ↓EVd, isCall, sevalprocAttr]
   all_goals first | done | rfl | exact frzR_closed (by simp only [CLO])
 obtain rfl := Option.some.inj hm0
 simp only [e2, Y_view_stack_part, ↓EVd, isCall, sevalprocAttr]
 all_goals first | done | rfl | exact frzR_sub (by simp only [CLO]) (Sub.nilS _)
def m_view_Tree_b0 (a0 : Stack) (v2 : List Way) : (List View × Int) → Option (St (List View × Int) (List View))
 | (v6, v7) => if v7 < (v2.length : Int) then (ix v2 v7).bind fun v13 => (m_view_Root a0).bind fun v16 => if 0 ≤ v13.up then (ix v6 v13.up).bind fun v20 => (m_view_stack_node (⟨(⟨a0.geo.lowers, a0.geo.inodes, a0.geo.blocks, a0.geo.log⟩ : Geo), (⟨a0.upper.nodes⟩ : Branch), a0.lowers⟩ : Stack) v13.ino).bind fun v23 => (m_view_stack_part (⟨(⟨a0.geo.lowers, a0.geo.inodes, a0.geo.blocks, a0.geo.log⟩ : Geo), (⟨a0.upper.nodes⟩ : Branch), a0.lowers⟩ : Stack) v20 v23 v13.name).bind fun v25 => (ap 32 v6 ([(⟨v13.ino, v25⟩ : View)] : List View)).bind fun _ => some (.nx ((v6 ++ ([(⟨v13.ino, v25⟩ : View)] : List View)), (wr (v7 + 1))))
 else (ap 32 v6 ([v16] : List View)).bind fun _ => some (.nx ((v6 ++ ([v16] : List View)), (wr (v7 + 1))))
 else some (.out v6)
def m_view_Tree (a0 : Stack) : Option (List Way × List View) := (m_walk_Dirs a0.upper ([1] : List Int)).bind fun v2 => (iter (m_view_Tree_b0 a0 v2) big ([], 0)).bind fun o => (match o with
 | v10 => some (v2, v10))
def Y_view_Tree := And.intro (And.intro (And.intro (And.intro ((@EV)) ((@R3))) (And.intro ((@R9)) (And.intro ((@R26)) ((@R29))))) (And.intro (And.intro ((@R32)) (And.intro ((@R68)) ((@R73)))) (And.intro ((@R74)) (And.intro ((@R79)) ((@R92)))))) (And.intro (And.intro (And.intro ((@R111)) (And.intro ((@DGeo)) ((@DBranch)))) (And.intro ((@DStack)) (And.intro ((@DView)) ((@DPlace))))) (And.intro (And.intro ((@DEntry)) (And.intro ((@DOrigin)) ((@DAttr)))) (And.intro ((@DNode)) (And.intro ((@DWay)) ((@mixed))))))
set_option maxHeartbeats 2000000 in
theorem ok_view_Tree (a0 : Stack) (r : List Way × List View) (hm0 : m_view_Tree a0 = some r) : Ok Tryz.prog 35 [encStack a0] (.tup [.sl 3 (r.1.map encWay), .sl 2 (r.2.map encView)]) := by
 unfold m_view_Tree at hm0
 refine okG fc_view_Tree ?_
 unfold c_view_Tree
 have e1 : (.agg [int a0.geo.lowers, int a0.geo.inodes, int a0.geo.blocks, int a0.geo.log, .sl 13 (a0.upper.nodes.map encNode), .sl 1 (a0.lowers.map encBranch)] : AV) = encStack (⟨(⟨a0.geo.lowers, a0.geo.inodes, a0.geo.blocks, a0.geo.log⟩ : Geo), (⟨a0.upper.nodes⟩ : Branch), a0.lowers⟩ : Stack) := _root_.id rfl
 obtain ⟨v2, h3, hm0⟩ := bsE hm0
 simp only [e1, Y_view_Tree, ↓EVd, isCall, sevalprocAttr]
 refine qcq (ok_walk_Dirs _ _ _ h3) rfl (by simp only [e1, FQ, CLO, Y_view_Tree, ↓EVd, isCall, sevalprocAttr]; first | done | rfl) ?_
 obtain ⟨o0, ho0, hm0⟩ := bsE hm0
 simp only [e1, Y_view_Tree, ↓EVd, isCall, sevalprocAttr]
 refine cwp_cx 0 (fun s => ∃ v10 : List View, ∃ l9 : Nat, (s.T 5 = .sl 3 (v2.map encWay) ∧ s.T 6 = .msl l9 v10.length ∧ s.H l9 = some (.row 32 2 (v10.map encView)) ∧ Lq l9 s.nx) ∧ v10 = o0) ?_ fun J0_0 hJ0_0 => ?_
 · rintro T0 H0 x8 ⟨v10, l9, kk0_0, rfl⟩
   dsimp only [Lq, Nq] at kk0_0
   try dsimp only at hm0
   obtain rfl := Option.some.inj hm0
   simp only [kk0_0, e1, Y_view_Tree, ↓EVd, isCall, sevalprocAttr]
   all_goals first | done | rfl | exact frzR_of 9 (by simp only [kk0_0, e1, FZ, CLO, Y_view_Tree, ↓EVd, isCall, sevalprocAttr]) (Sub.tup (Subs.cons (Sub.refl _) (Subs.cons (Sub.refl _) (Subs.nil))))
 refine cwp_lp ho0 (fun (v6, v7) s => ∃ l5 : Nat, s.T 1 = .loc 0 6 0 0 ∧ s.T 4 = .loc 5 6 0 0 ∧ s.T 5 = .sl 3 (v2.map encWay) ∧ s.T 6 = .msl l5 v6.length ∧ s.T 16 = .sl 3 (v2.map encWay) ∧ s.T 17 = int (v2.length : Int) ∧ s.T 18 = int v7 ∧ s.H 0 = some (.row 29 6 [encStack a0]) ∧ s.H 5 = some (.row 92 6 [encStack (⟨(⟨a0.geo.lowers, a0.geo.inodes, a0.geo.blocks, a0.geo.log⟩ : Geo), (⟨a0.upper.nodes⟩ : Branch), a0.lowers⟩ : Stack)]) ∧ s.H l5 = some (.row 32 2 (v6.map encView)) ∧ Lq 0 s.nx ∧ Lq 5 s.nx ∧ Lq l5 s.nx ∧ Nq 0 l5 ∧ Nq 5 l5) ?_ ?_
 · refine TI.by (Tn.adopt 6 32 2 (by simp only [e1, Y_view_Tree, ↓EVd, isCall, sevalprocAttr])) ?_
   refine TI.here ⟨16, ?_, ?_, ?_, ?_, ?_, ?_, ?_, ?_, ?_, ?_, ?_, ?_, ?_, ?_, ?_⟩
   all_goals try simp only [e1, Y_view_Tree, ↓EVd, isCall, sevalprocAttr]
   all_goals first | omega | exact lq (by omega) | exact nq (by omega) | rfl | (congr 1; omega)
 rintro I0 ⟨v6, v7⟩ T0 H0 x4 st0 ⟨l5, kk0⟩ hm1 hI0 hO0
 dsimp only [Lq, Nq] at kk0
 simp only [m_view_Tree_b0] at hm1
 rcases iteE hm1 with ⟨e12, hm1⟩ | ⟨e12, hm1⟩
 · obtain ⟨v13, e15, hm1⟩ := ixE encWay hm1
   obtain ⟨v16, h17, hm1⟩ := bsE hm1
   simp only [kk0, e1, e12, e15, Y_view_Tree, ↓EVd, isCall, sevalprocAttr]
   refine qc (ok_view_Root _ _ h17) rfl ?_
   rcases iteE hm1 with ⟨e19, hm1⟩ | ⟨e19, hm1⟩
   · obtain ⟨v20, e22, hm1⟩ := ixE encView hm1
     obtain ⟨v23, h24, hm1⟩ := bsE hm1
     simp only [kk0, e1, e12, e15, e19, e22, Y_view_Tree, ↓EVd, isCall, sevalprocAttr]
     refine qd (ok_view_stack_node _ _ _ h24) rfl ?_
     obtain ⟨v25, h26, hm1⟩ := bsE hm1
     simp only [kk0, e1, e12, e15, e19, e22, Y_view_Tree, ↓EVd, isCall, sevalprocAttr]
     refine qd (ok_view_stack_part _ _ _ _ _ h26) rfl ?_
     have e27 : (.agg [int v13.ino, .sl 2 (v25.map encPlace)] : AV) = encView (⟨v13.ino, v25⟩ : View) := _root_.id rfl
     obtain ⟨e30, hm1⟩ := apE hm1
     try simp only [ZL] at e30
     obtain rfl := Option.some.inj hm1
     simp only [kk0, e1, e12, e15, e19, e22, e27, e30, Y_view_Tree, ↓EVd, isCall, sevalprocAttr]
     refine TI.here (hI0 _ rfl _ ⟨(x4 + 32), ?_, ?_, ?_, ?_, ?_, ?_, ?_, ?_, ?_, ?_, ?_, ?_, ?_, ?_, ?_⟩)
     all_goals try simp only [kk0, e1, e12, e15, e19, e22, e27, e30, Y_view_Tree, ↓EVd, isCall, sevalprocAttr]
     all_goals first | omega | exact lq (by omega) | exact nq (by omega) | rfl | (congr 1; omega)
   obtain ⟨e34, hm1⟩ := apE hm1
   try simp only [ZL] at e34
   obtain rfl := Option.some.inj hm1
   simp only [kk0, e1, e12, e15, e19, e34, Y_view_Tree, ↓EVd, isCall, sevalprocAttr]
   refine TI.here (hI0 _ rfl _ ⟨(x4 + 15), ?_, ?_, ?_, ?_, ?_, ?_, ?_, ?_, ?_, ?_, ?_, ?_, ?_, ?_, ?_⟩)
   all_goals try simp only [kk0, e1, e12, e15, e19, e34, Y_view_Tree, ↓EVd, isCall, sevalprocAttr]
   all_goals first | omega | exact lq (by omega) | exact nq (by omega) | rfl | (congr 1; omega)
 obtain rfl := Option.some.inj hm1
 simp only [kk0, e1, e12, Y_view_Tree, ↓EVd, isCall, sevalprocAttr]
 refine TI.here (hJ0_0 _ ⟨v6, l5, ⟨?_, ?_, ?_, ?_⟩, hO0 _ rfl⟩)
 all_goals try simp only [kk0, e1, e12, Y_view_Tree, ↓EVd, isCall, sevalprocAttr]
 all_goals first | omega | exact lq (by omega) | exact nq (by omega) | rfl | (congr 1; omega)
end Go.Proofs.YtapdjibjnfeipaaGreatDoor.AL

