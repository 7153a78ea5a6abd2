/- What of the attributes of any stack, and of any node, may not be, is what the document says: part 45 of 50. -/
import Derived.Test.YtapdjibjnfeipaaGreatDoorB44
set_option linter.all false
/- Models of functions, and that the functions are as their models: written by gen.py. -/
set_option linter.all false
set_option maxRecDepth 100000
namespace Go.Proofs.YtapdjibjnfeipaaGreatDoor.AL
open Go Go.Proofs
def m_ref17_Opaque (a0 : Node) : Option (Bool) := if a0.kind = 1 then (m_ref16_Opaque a0).bind fun v3 => some v3
 else some false
def Y_ref17_Opaque := And.intro (And.intro ((@EV)) (And.intro ((@R3)) ((@R68)))) (And.intro (And.intro ((@DEntry)) ((@DOrigin))) (And.intro ((@DAttr)) ((@DNode))))
set_option maxHeartbeats 2000000 in
theorem ok_ref17_Opaque (a0 : Node) (r : Bool) (hm0 : m_ref17_Opaque a0 = some r) : Ok Tryz.prog 41 [encNode a0] (bool r) := by
 unfold m_ref17_Opaque at hm0
 refine okG fc_ref17_Opaque ?_
 unfold c_ref17_Opaque
 rcases iteE hm0 with ⟨e2, hm0⟩ | ⟨e2, hm0⟩
 · obtain ⟨v3, h4, hm0⟩ := bsE hm0
   simp only [e2, Y_ref17_Opaque, ↓EVd, isCall, sevalprocAttr]
   refine qc (ok_ref16_Opaque _ _ h4) rfl ?_
   obtain rfl := Option.some.inj hm0
   simp only [e2, Y_ref17_Opaque, ↓EVd, isCall, sevalprocAttr]
   all_goals first | done | rfl
 obtain rfl := Option.some.inj hm0
 simp only [e2, Y_ref17_Opaque, ↓EVd, isCall, sevalprocAttr]
 all_goals first | done | rfl
def m_ref17_Root (a0 : Stack) : Option (View) := (m_ref13_At a0.upper 1).bind fun v1 => if v1.kind = 1 then (m_ref17_Opaque v1).bind fun v5 => if v5 = true then some (⟨1, []⟩ : View)
 else (m_ref16_Roots a0).bind fun v9 => some (⟨1, v9⟩ : View)
 else (m_ref16_Roots a0).bind fun v12 => some (⟨0, v12⟩ : View)
def Y_ref17_Root := And.intro (And.intro (And.intro ((@EV)) (And.intro ((@R3)) ((@R26)))) (And.intro (And.intro ((@R29)) ((@R32))) (And.intro ((@R68)) ((@DGeo))))) (And.intro (And.intro (And.intro ((@DBranch)) ((@DStack))) (And.intro ((@DView)) ((@DPlace)))) (And.intro (And.intro ((@DEntry)) ((@DOrigin))) (And.intro ((@DAttr)) ((@DNode)))))
set_option maxHeartbeats 2000000 in
theorem ok_ref17_Root (a0 : Stack) (r : View) (hm0 : m_ref17_Root a0 = some r) : Ok Tryz.prog 23 [encStack a0] (encView r) := by
 unfold m_ref17_Root at hm0
 refine okG fc_ref17_Root ?_
 unfold c_ref17_Root
 obtain ⟨v1, h2, hm0⟩ := bsE hm0
 simp only [Y_ref17_Root, ↓EVd, isCall, sevalprocAttr]
 refine qc (ok_ref13_At _ _ _ h2) rfl ?_
 rcases iteE hm0 with ⟨e4, hm0⟩ | ⟨e4, hm0⟩
 · obtain ⟨v5, h6, hm0⟩ := bsE hm0
   simp only [e4, Y_ref17_Root, ↓EVd, isCall, sevalprocAttr]
   refine qc (ok_ref17_Opaque _ _ h6) rfl ?_
   rcases itbE hm0 with ⟨e8, hm0⟩ | ⟨e8, hm0⟩
   · obtain rfl := Option.some.inj hm0
     simp only [e4, e8, Y_ref17_Root, ↓EVd, isCall, sevalprocAttr]
     all_goals first | done | rfl | exact frzR_closed (by simp only [CLO]) | exact frzR_sub (by simp only [CLO]) (Sub.agg (Subs.cons (Sub.refl _) (Subs.cons (Sub.nilS _) (Subs.nil))))
   obtain ⟨v9, h10, hm0⟩ := bsE hm0
   simp only [e4, e8, Y_ref17_Root, ↓EVd, isCall, sevalprocAttr]
   refine qc (ok_ref16_Roots _ _ h10) rfl ?_
   have e11 : (.agg [int 1, .sl 2 (v9.map encPlace)] : AV) = encView (⟨1, v9⟩ : View) := _root_.id rfl
   obtain rfl := Option.some.inj hm0
   simp only [e4, e8, e11, Y_ref17_Root, ↓EVd, isCall, sevalprocAttr]
   all_goals first | done | rfl | exact frzR_closed (by simp only [CLO])
 obtain ⟨v12, h13, hm0⟩ := bsE hm0
 simp only [e4, Y_ref17_Root, ↓EVd, isCall, sevalprocAttr]
 refine qc (ok_ref16_Roots _ _ h13) rfl ?_
 have e14 : (.agg [int 0, .sl 2 (v12.map encPlace)] : AV) = encView (⟨0, v12⟩ : View) := _root_.id rfl
 obtain rfl := Option.some.inj hm0
 simp only [e4, e14, Y_ref17_Root, ↓EVd, isCall, sevalprocAttr]
 all_goals first | done | rfl | exact frzR_closed (by simp only [CLO])
def m_ref17_Part (a0 : Stack) (a1 : View) (a2 : Int) (a3 : ByteArray) : Option (List Place) := (m_ref13_At a0.upper a2).bind fun v1 => if v1.kind = 1 then (m_ref17_Opaque v1).bind fun v5 => if v5 = true then some []
 else (m_ref09_Has v1.attr 2).bind fun v9 => if v9 = true then (m_ref04_Redirect v1.attr.redirect).bind fun v13 => if (!v13.2.2) = true then some []
 else if v13.2.1 = true then (m_ref16_Roots a0).bind fun v19 => (m_ref16_Look a0 v19 v13.1).bind fun v21 => some v21.1
 else (ix v13.1 0).bind fun v23 => (m_ref16_Find a0 a1.lower v23).bind fun v26 => if v26.1 = 1 then some v26.2
 else some []
 else (m_ref16_Find a0 a1.lower a3).bind fun v30 => if v30.1 = 1 then some v30.2
 else some []
 else some []
def Y_ref17_Part := And.intro (And.intro (And.intro (And.intro ((@EV)) ((@R3))) (And.intro ((@R9)) (And.intro ((@R26)) ((@R29))))) (And.intro (And.intro ((@R30)) ((@R32))) (And.intro ((@R42)) (And.intro ((@R45)) ((@R66)))))) (And.intro (And.intro (And.intro ((@R68)) ((@DGeo))) (And.intro ((@DBranch)) (And.intro ((@DStack)) ((@DView))))) (And.intro (And.intro ((@DPlace)) (And.intro ((@DEntry)) ((@DOrigin)))) (And.intro ((@DAttr)) (And.intro ((@DNode)) ((@mixed))))))
set_option maxHeartbeats 2000000 in
theorem ok_ref17_Part (a0 : Stack) (a1 : View) (a2 : Int) (a3 : ByteArray) (r : List Place) (hm0 : m_ref17_Part a0 a1 a2 a3 = some r) : Ok Tryz.prog 26 [encStack a0, encView a1, int a2, str a3] (.sl 2 (r.map encPlace)) := by
 unfold m_ref17_Part at hm0
 refine okG fc_ref17_Part ?_
 unfold c_ref17_Part
 obtain ⟨v1, h2, hm0⟩ := bsE hm0
 simp only [Y_ref17_Part, ↓EVd, isCall, sevalprocAttr]
 refine qc (ok_ref13_At _ _ _ h2) rfl ?_
 rcases iteE hm0 with ⟨e4, hm0⟩ | ⟨e4, hm0⟩
 · obtain ⟨v5, h6, hm0⟩ := bsE hm0
   simp only [e4, Y_ref17_Part, ↓EVd, isCall, sevalprocAttr]
   refine qc (ok_ref17_Opaque _ _ h6) rfl ?_
   rcases itbE hm0 with ⟨e8, hm0⟩ | ⟨e8, hm0⟩
   · obtain rfl := Option.some.inj hm0
     simp only [e4, e8, Y_ref17_Part, ↓EVd, isCall, sevalprocAttr]
     all_goals first | done | rfl | exact frzR_sub (by simp only [CLO]) (Sub.nilS _)
   obtain ⟨v9, h10, hm0⟩ := bsE hm0
   simp only [e4, e8, Y_ref17_Part, ↓EVd, isCall, sevalprocAttr]
   refine qc (ok_ref09_Has _ _ _ h10) rfl ?_
   rcases itbE hm0 with ⟨e12, hm0⟩ | ⟨e12, hm0⟩
   · obtain ⟨v13, h14, hm0⟩ := bsE hm0
     simp only [e4, e8, e12, Y_ref17_Part, ↓EVd, isCall, sevalprocAttr]
     refine qc (ok_ref04_Redirect _ _ h14) rfl ?_
     rcases itbE hm0 with ⟨e16, hm0⟩ | ⟨e16, hm0⟩
     · obtain rfl := Option.some.inj hm0
       simp only [e4, e8, e12, e16, Y_ref17_Part, ↓EVd, isCall, sevalprocAttr]
       all_goals first | done | rfl | exact frzR_sub (by simp only [CLO]) (Sub.nilS _)
     rcases itbE hm0 with ⟨e18, hm0⟩ | ⟨e18, hm0⟩
     · obtain ⟨v19, h20, hm0⟩ := bsE hm0
       simp only [e4, e8, e12, e16, e18, Y_ref17_Part, ↓EVd, isCall, sevalprocAttr]
       refine qd (ok_ref16_Roots _ _ h20) rfl ?_
       obtain ⟨v21, h22, hm0⟩ := bsE hm0
       simp only [e4, e8, e12, e16, e18, Y_ref17_Part, ↓EVd, isCall, sevalprocAttr]
       refine qd (ok_ref16_Look _ _ _ _ h22) rfl ?_
       obtain rfl := Option.some.inj hm0
       simp only [e4, e8, e12, e16, e18, Y_ref17_Part, ↓EVd, isCall, sevalprocAttr]
       all_goals first | done | rfl | exact frzR_closed (by simp only [CLO])
     obtain ⟨v23, e25, hm0⟩ := ixE str hm0
     try simp only [sevalprocAttr, eq_self, true_and] at e25
     obtain ⟨v26, h27, hm0⟩ := bsE hm0
     simp only [e4, e8, e12, e16, e18, e25, Y_ref17_Part, ↓EVd, isCall, sevalprocAttr]
     refine qc (ok_ref16_Find _ _ _ _ h27) rfl ?_
     rcases iteE hm0 with ⟨e29, hm0⟩ | ⟨e29, hm0⟩
     · obtain rfl := Option.some.inj hm0
       simp only [e4, e8, e12, e16, e18, e25, e29, Y_ref17_Part, ↓EVd, isCall, sevalprocAttr]
       all_goals first | done | rfl | exact frzR_closed (by simp only [CLO])
     obtain rfl := Option.some.inj hm0
     simp only [e4, e8, e12, e16, e18, e25, e29, Y_ref17_Part, ↓EVd, isCall, sevalprocAttr]
     all_goals first | done | rfl | exact frzR_sub (by simp only [CLO]) (Sub.nilS _)
   obtain ⟨v30, h31, hm0⟩ := bsE hm0
   simp only [e4, e8, e12, Y_ref17_Part, ↓EVd, isCall, sevalprocAttr]
   refine qc (ok_ref16_Find _ _ _ _ h31) rfl ?_
   rcases iteE hm0 with ⟨e33, hm0⟩ | ⟨e33, hm0⟩
   · obtain rfl := Option.some.inj hm0
     simp only [e4, e8, e12, e33, Y_ref17_Part, ↓EVd, isCall, sevalprocAttr]
     all_goals first | done | rfl | exact frzR_closed (by simp only [CLO])
   obtain rfl := Option.some.inj hm0
   simp only [e4, e8, e12, e33, Y_ref17_Part, ↓EVd, isCall, sevalprocAttr]
   all_goals first | done | rfl | exact frzR_sub (by simp only [CLO]) (Sub.nilS _)
 obtain rfl := Option.some.inj hm0
 simp only [e4, Y_ref17_Part, ↓EVd, isCall, sevalprocAttr]
 all_goals first | done | rfl | exact frzR_sub (by simp only [CLO]) (Sub.nilS _)
def m_ref17_Tree_b0 (a0 : Stack) (v1 : List Way) : (List View × Int) → Option (St (List View × Int) (List View))
 | (v5, v6) => if v6 < (v1.length : Int) then (ix v1 v6).bind fun v12 => if v12.up < 0 then (m_ref17_Root a0).bind fun v17 => (ap 32 v5 ([v17] : List View)).bind fun _ => some (.nx ((v5 ++ ([v17] : List View)), (wr (v6 + 1))))
 else (ix v5 v12.up).bind fun v23 => (m_ref17_Part a0 v23 v12.ino v12.name).bind fun v26 => (ap 32 v5 ([(⟨v12.ino, v26⟩ : View)] : List View)).bind fun _ => some (.nx ((v5 ++ ([(⟨v12.ino, v26⟩ : View)] : List View)), (wr (v6 + 1))))
 else some (.out v5)
def m_ref17_Tree (a0 : Stack) : Option (List Way × List View) := (m_ref13_Dirs a0.upper ([1] : List Int)).bind fun v1 => (iter (m_ref17_Tree_b0 a0 v1) big (([] : List View), 0)).bind fun o => (match o with
 | v9 => some (v1, v9))
def Y_ref17_Tree := And.intro (And.intro (And.intro (And.intro ((@EV)) ((@R3))) (And.intro ((@R9)) (And.intro ((@R26)) ((@R29))))) (And.intro (And.intro ((@R32)) ((@R73))) (And.intro ((@R74)) (And.intro ((@R79)) ((@R111)))))) (And.intro (And.intro (And.intro ((@DGeo)) ((@DBranch))) (And.intro ((@DStack)) (And.intro ((@DView)) ((@DPlace))))) (And.intro (And.intro ((@DEntry)) (And.intro ((@DOrigin)) ((@DAttr)))) (And.intro ((@DNode)) (And.intro ((@DWay)) ((@mixed))))))
set_option maxHeartbeats 2000000 in
theorem ok_ref17_Tree (a0 : Stack) (r : List Way × List View) (hm0 : m_ref17_Tree a0 = some r) : Ok Tryz.prog 36 [encStack a0] (.tup [.sl 3 (r.1.map encWay), .sl 2 (r.2.map encView)]) := by
 unfold m_ref17_Tree at hm0
 refine okG fc_ref17_Tree ?_
 unfold c_ref17_Tree
 obtain ⟨v1, h2, hm0⟩ := bsE hm0
 simp only [Y_ref17_Tree, ↓EVd, isCall, sevalprocAttr]
 refine qcq (ok_ref13_Dirs _ _ _ h2) rfl (by simp only [FQ, CLO, Y_ref17_Tree, ↓EVd, isCall, sevalprocAttr]; first | done | rfl) ?_
 obtain ⟨o0, ho0, hm0⟩ := bsE hm0
 simp only [Y_ref17_Tree, ↓EVd, isCall, sevalprocAttr]
 refine cwp_cx 0 (fun s => ∃ v9 : List View, ∃ l8 : Nat, (s.T 4 = .sl 3 (v1.map encWay) ∧ s.T 5 = .msl l8 v9.length ∧ s.H l8 = some (.row 32 2 (v9.map encView)) ∧ Lq l8 s.nx) ∧ v9 = o0) ?_ fun J0_0 hJ0_0 => ?_
 · rintro T0 H0 x7 ⟨v9, l8, kk0_0, rfl⟩
   dsimp only [Lq, Nq] at kk0_0
   try dsimp only at hm0
   obtain rfl := Option.some.inj hm0
   simp only [kk0_0, Y_ref17_Tree, ↓EVd, isCall, sevalprocAttr]
   all_goals first | done | rfl | exact frzR_of 9 (by simp only [kk0_0, FZ, CLO, Y_ref17_Tree, ↓EVd, isCall, sevalprocAttr]) (Sub.tup (Subs.cons (Sub.refl _) (Subs.cons (Sub.refl _) (Subs.nil))))
 refine cwp_lp ho0 (fun (v5, v6) s => ∃ l4 : Nat, s.T 1 = .loc 0 6 0 0 ∧ s.T 4 = .sl 3 (v1.map encWay) ∧ s.T 5 = .msl l4 v5.length ∧ s.T 6 = int v6 ∧ s.H 0 = some (.row 29 6 [encStack a0]) ∧ s.H l4 = some (.row 32 2 (v5.map encView)) ∧ Lq 0 s.nx ∧ Lq l4 s.nx ∧ Nq 0 l4) ?_ ?_
 · refine TI.here ⟨8, ?_, ?_, ?_, ?_, ?_, ?_, ?_, ?_, ?_⟩
   all_goals try simp only [Y_ref17_Tree, ↓EVd, isCall, sevalprocAttr]
   all_goals first | omega | exact lq (by omega) | exact nq (by omega) | rfl | (congr 1; omega)
 rintro I0 ⟨v5, v6⟩ T0 H0 x3 st0 ⟨l4, kk0⟩ hm1 hI0 hO0
 dsimp only [Lq, Nq] at kk0
 simp only [m_ref17_Tree_b0] at hm1
 rcases iteE hm1 with ⟨e11, hm1⟩ | ⟨e11, hm1⟩
 · obtain ⟨v12, e14, hm1⟩ := ixE encWay hm1
   rcases iteE hm1 with ⟨e16, hm1⟩ | ⟨e16, hm1⟩
   · obtain ⟨v17, h18, hm1⟩ := bsE hm1
     simp only [kk0, e11, e14, e16, Y_ref17_Tree, ↓EVd, isCall, sevalprocAttr]
     refine qc (ok_ref17_Root _ _ h18) rfl ?_
     obtain ⟨e21, hm1⟩ := apE hm1
     try simp only [ZL] at e21
     obtain rfl := Option.some.inj hm1
     simp only [kk0, e11, e14, e16, e21, Y_ref17_Tree, ↓EVd, isCall, sevalprocAttr]
     refine TI.here (hI0 _ rfl _ ⟨(x3 + 14), ?_, ?_, ?_, ?_, ?_, ?_, ?_, ?_, ?_⟩)
     all_goals try simp only [kk0, e11, e14, e16, e21, Y_ref17_Tree, ↓EVd, isCall, sevalprocAttr]
     all_goals first | omega | exact lq (by omega) | exact nq (by omega) | rfl | (congr 1; omega)
   obtain ⟨v23, e25, hm1⟩ := ixE encView hm1
   obtain ⟨v26, h27, hm1⟩ := bsE hm1
   simp only [kk0, e11, e14, e16, e25, Y_ref17_Tree, ↓EVd, isCall, sevalprocAttr]
   refine qd (ok_ref17_Part _ _ _ _ _ h27) rfl ?_
   have e28 : (.agg [int v12.ino, .sl 2 (v26.map encPlace)] : AV) = encView (⟨v12.ino, v26⟩ : View) := _root_.id rfl
   obtain ⟨e31, hm1⟩ := apE hm1
   try simp only [ZL] at e31
   obtain rfl := Option.some.inj hm1
   simp only [kk0, e11, e14, e16, e25, e28, e31, Y_ref17_Tree, ↓EVd, isCall, sevalprocAttr]
   refine TI.here (hI0 _ rfl _ ⟨(x3 + 38), ?_, ?_, ?_, ?_, ?_, ?_, ?_, ?_, ?_⟩)
   all_goals try simp only [kk0, e11, e14, e16, e25, e28, e31, Y_ref17_Tree, ↓EVd, isCall, sevalprocAttr]
   all_goals first | omega | exact lq (by omega) | exact nq (by omega) | rfl | (congr 1; omega)
 obtain rfl := Option.some.inj hm1
 simp only [kk0, e11, Y_ref17_Tree, ↓EVd, isCall, sevalprocAttr]
 refine TI.here (hJ0_0 _ ⟨v5, l4, ⟨?_, ?_, ?_, ?_⟩, hO0 _ rfl⟩)
 all_goals try simp only [kk0, e11, Y_ref17_Tree, ↓EVd, isCall, sevalprocAttr]
 all_goals first | omega | exact lq (by omega) | exact nq (by omega) | rfl | (congr 1; omega)
def m_ref17_SameView (a0 : View) (a1 : View) : Option (Bool) := if a0.upper = a1.upper then (m_ref16_Places a0.lower a1.lower).bind fun v3 => some v3
 else some false
def Y_ref17_SameView := And.intro (And.intro ((@EV)) (And.intro ((@R3)) ((@R30)))) (And.intro (And.intro ((@R32)) ((@R45))) (And.intro ((@DView)) ((@DPlace))))
set_option maxHeartbeats 2000000 in
theorem ok_ref17_SameView (a0 : View) (a1 : View) (r : Bool) (hm0 : m_ref17_SameView a0 a1 = some r) : Ok Tryz.prog 21 [encView a0, encView a1] (bool r) := by
 unfold m_ref17_SameView at hm0
 refine okG fc_ref17_SameView ?_
 unfold c_ref17_SameView
 rcases iteE hm0 with ⟨e2, hm0⟩ | ⟨e2, hm0⟩
 · obtain ⟨v3, h4, hm0⟩ := bsE hm0
   simp only [e2, Y_ref17_SameView, ↓EVd, isCall, sevalprocAttr]
   refine qc (ok_ref16_Places _ _ _ h4) rfl ?_
   obtain rfl := Option.some.inj hm0
   simp only [e2, Y_ref17_SameView, ↓EVd, isCall, sevalprocAttr]
   all_goals first | done | rfl
 obtain rfl := Option.some.inj hm0
 simp only [e2, Y_ref17_SameView, ↓EVd, isCall, sevalprocAttr]
 all_goals first | done | rfl
end Go.Proofs.YtapdjibjnfeipaaGreatDoor.AL


/- Plain laws, part 1: loops; the walk. -/
set_option linter.all false
namespace Go.Proofs.YtapdjibjnfeipaaGreatDoor.AL
open Go Go.Proofs
def zeroNode : Node := ⟨0, 0, 0, 0, [], [], ⟨0, 0, noBytes, ⟨0, 0, 0⟩, 0⟩⟩
def nodeP (b : Branch) (ino : Int) : Node := if ino < 1 then zeroNode else if (b.nodes.length : Int) < ino then zeroNode else (b.nodes[(ino - 1).toNat]?).getD zeroNode
structure PB (b : Branch) : Prop where
  len : b.nodes.length ≤ 24
  ents : ∀ x ∈ b.nodes, x.entries.length ≤ 16
theorem at_eq {b : Branch} (hb : PB b) (ino : Int) : m_ref13_At b ino = some (nodeP b ino) := by
  unfold m_ref13_At nodeP
  split
  · rfl
  · split
    · rfl
    · rename_i h1 h2
      have := hb.len
      rw [wr_in (by omega) (by omega), ix_of (by omega) (by omega)]
      have hlt : (ino - 1).toNat < b.nodes.length := by omega
      simp only [Option.bind_some, List.getElem?_eq_getElem hlt, Option.getD_some]
theorem nodeP_ents {b : Branch} (hb : PB b) (ino : Int) : (nodeP b ino).entries.length ≤ 16 := by
  unfold nodeP
  split
  · simp [zeroNode]
  · split
    · simp [zeroNode]
    · rename_i h1 h2
      have hlt : (ino - 1).toNat < b.nodes.length := by omega
      simp only [List.getElem?_eq_getElem hlt, Option.getD_some]
      exact hb.ents _ (List.getElem_mem hlt)
theorem nodeP_kind {b : Branch} {ino : Int} (h : (nodeP b ino).kind = 1) : 1 ≤ ino ∧ ino ≤ (b.nodes.length : Int) := by
  unfold nodeP at h
  split at h
  · simp [zeroNode] at h
  · split at h
    · simp [zeroNode] at h
    · omega
def seenB (ways : List Way) (ino : Int) : Bool := ways.any fun w => decide (w.ino = ino)
abbrev WS := List Way × List Ar2_Int
def eStep (b : Branch) (k : Nat) (ino : Int) (s : WS) (e : Entry) : WS :=
  if (nodeP b e.ino).kind = 1 then if seenB s.1 e.ino = true then (s.1, s.2 ++ [⟨ino, e.slot⟩]) else (s.1 ++ [⟨e.ino, k, e.name⟩], s.2) else s
def wIno (s : WS) (k : Nat) : Int := ((s.1[k]?).getD default).ino
def wStep (b : Branch) (k : Nat) (s : WS) : WS := (nodeP b (wIno s k)).entries.foldl (eStep b k (wIno s k)) s
def wLoop (b : Branch) (k : Nat) (s : WS) : Nat × WS := wl (wStep b) (fun s => s.1.length) 25 k s
def fStep (b : Branch) (t : Nat × WS) (r : Int) : Nat × WS :=
  if (nodeP b r).kind = 1 ∧ seenB t.2.1 r = false then wLoop b t.1 (t.2.1 ++ [⟨r, -1, noBytes⟩], t.2.2) else t
def walkP (b : Branch) (fr : List Int) : Nat × WS := fr.foldl (fStep b) (0, [], [])
structure WI (b : Branch) (ways : List Way) : Prop where
  nd : (ways.map (·.ino)).Nodup
  dir : ∀ w ∈ ways, (nodeP b w.ino).kind = 1
theorem nat_nodup_le : ∀ (n : Nat) (l : List Nat), l.Nodup → (∀ x ∈ l, x < n) → l.length ≤ n
  | 0, l, _, h => by
    cases l with
    | nil => simp
    | cons x l => have := h x (by simp); omega
  | n + 1, l, hd, h => by
    have h1 := nat_nodup_le n (l.erase n) (hd.erase n) (fun x hx => by
      have := (List.Nodup.mem_erase_iff hd).1 hx
      have := h x this.2
      omega)
    have := List.length_erase (a := n) (l := l)
    split at this <;> omega
theorem WI.len {b : Branch} {ways : List Way} (h : WI b ways) : ways.length ≤ b.nodes.length := by
  have h1 : (ways.map fun w => (w.ino - 1).toNat).Nodup := by
    refine List.pairwise_map.2 (List.Pairwise.imp_of_mem ?_ (List.pairwise_map.1 h.nd))
    intro x y hx hy hne e
    have := nodeP_kind (h.dir x hx)
    have := nodeP_kind (h.dir y hy)
    omega
  have := nat_nodup_le b.nodes.length _ h1 (fun x hx => by
    obtain ⟨w, hw, rfl⟩ := List.mem_map.1 hx
    have := nodeP_kind (h.dir w hw)
    omega)
  simpa using this
theorem seenB_iff {ways : List Way} {ino : Int} : seenB ways ino = true ↔ ∃ w ∈ ways, w.ino = ino := by simp [seenB]
theorem WI.push {b : Branch} {ways : List Way} (h : WI b ways) {w : Way} (hk : (nodeP b w.ino).kind = 1) (hs : seenB ways w.ino = false) : WI b (ways ++ [w]) := by
  refine ⟨?_, ?_⟩
  · rw [List.map_append, List.map_cons, List.map_nil]
    refine List.nodup_append.2 ⟨h.nd, by simp, ?_⟩
    intro x hx y hy e
    simp only [List.mem_singleton] at hy
    subst hy; subst e
    obtain ⟨w', hw', e⟩ := List.mem_map.1 hx
    have : seenB ways w.ino = true := seenB_iff.2 ⟨w', hw', e⟩
    rw [hs] at this; cases this
  · intro x hx
    rcases List.mem_append.1 hx with hx | hx
    · exact h.dir x hx
    · simp only [List.mem_singleton] at hx; subst hx; exact hk
theorem eStep_inv {b : Branch} {k : Nat} {ino : Int} {s : WS} {e : Entry} (h : WI b s.1) : WI b (eStep b k ino s e).1 ∧ s.1.length ≤ (eStep b k ino s e).1.length ∧ (eStep b k ino s e).2.length ≤ s.2.length + 1 ∧ (∀ j, j < s.1.length → (eStep b k ino s e).1[j]? = s.1[j]?) := by
  unfold eStep
  split
  · rename_i hk
    split
    · exact ⟨h, Nat.le_refl _, by simp, fun _ _ => rfl⟩
    · rename_i hs
      refine ⟨h.push (w := ⟨e.ino, k, e.name⟩) hk (by simpa using hs), by simp, by simp, fun j hj => List.getElem?_append_left hj⟩
  · exact ⟨h, Nat.le_refl _, by omega, fun _ _ => rfl⟩
theorem eFold_inv {b : Branch} {k : Nat} {ino : Int} : ∀ (es : List Entry) {s : WS}, WI b s.1 → WI b (es.foldl (eStep b k ino) s).1 ∧ s.1.length ≤ (es.foldl (eStep b k ino) s).1.length ∧ (es.foldl (eStep b k ino) s).2.length ≤ s.2.length + es.length ∧ (∀ j, j < s.1.length → (es.foldl (eStep b k ino) s).1[j]? = s.1[j]?)
  | [], s, h => ⟨h, Nat.le_refl _, by simp, fun _ _ => rfl⟩
  | e :: es, s, h => by
    obtain ⟨a1, a2, a3, a4⟩ := eStep_inv (k := k) (ino := ino) (e := e) h
    obtain ⟨b1, b2, b3, b4⟩ := eFold_inv es (k := k) (ino := ino) (s := eStep b k ino s e) a1
    rw [List.foldl_cons]
    exact ⟨b1, by omega, by simp only [List.length_cons]; omega, fun j hj => (b4 j (by omega)).trans (a4 j hj)⟩
structure LI (b : Branch) (k : Nat) (s : WS) : Prop where
  wi : WI b s.1
  at' : k ≤ s.1.length
  tw : s.2.length ≤ 16 * k
theorem wStep_inv {b : Branch} (hb : PB b) {k : Nat} {s : WS} (h : LI b k s) (hk : k < s.1.length) : LI b (k + 1) (wStep b k s) := by
  obtain ⟨a1, a2, a3, a4⟩ := eFold_inv (b := b) (k := k) (ino := wIno s k) (nodeP b (wIno s k)).entries h.wi
  have := nodeP_ents hb (wIno s k)
  have := h.tw
  refine ⟨a1, ?_, ?_⟩
  · unfold wStep; omega
  · unfold wStep; omega
theorem place_eq {ways : List Way} (hw : ways.length ≤ 24) (ino : Int) : ∃ r, m_ref13_place ways ino = some r ∧ (0 ≤ r ↔ seenB ways ino = true) := by
  unfold m_ref13_place
  have key := iter_term (B := m_ref13_place_b0 ways ino) (R := fun r => match r with | .inl _ => seenB ways ino = false | .inr i => 0 ≤ i ∧ seenB ways ino = true)
    (fun i s => s = (i : Int) ∧ i ≤ ways.length ∧ ∀ j (h : j < ways.length), j < i → ways[j].ino ≠ ino) ways.length (by
    rintro i s ⟨rfl, hi, hj⟩
    refine ⟨hi, ?_⟩
    by_cases hlt : i < ways.length
    · simp only [m_ref13_place_b0]
      rw [if_pos (by omega), ix_at hlt]
      simp only [Option.bind_some]
      by_cases he : ways[i].ino = ino
      · rw [if_pos he]
        exact .inr ⟨_, rfl, by omega, seenB_iff.2 ⟨_, List.getElem_mem hlt, he⟩⟩
      · rw [if_neg he, wr_suc (by omega)]
        refine .inl ⟨_, rfl, rfl, by omega, fun j h hj' => ?_⟩
        by_cases e : j = i
        · subst e; exact he
        · exact hj j h (by omega)
    · simp only [m_ref13_place_b0]
      rw [if_neg (by omega)]
      refine .inr ⟨_, rfl, ?_⟩
      simp only
      cases hs : seenB ways ino with
      | false => rfl
      | true =>
        obtain ⟨w, hw, e⟩ := seenB_iff.1 hs
        obtain ⟨j, hj', rfl⟩ := List.getElem_of_mem hw
        exact absurd e (hj j hj' (by omega))) big 0 0 ⟨rfl, by omega, fun j _ h => by omega⟩ (by rw [big_eq]; omega)
  obtain ⟨r, h1, h2⟩ := key
  rw [h1]
  cases r with
  | inl u => exact ⟨-1, rfl, by simp only at h2; simp [h2]⟩
  | inr i => exact ⟨i, rfl, by simp only at h2; simp [h2.1, h2.2]⟩
theorem ref_enter {b : Branch} (hb : PB b) {k : Nat} {s : WS} (h : LI b k s) (hk : k < s.1.length) :
    iter (m_ref13_walk_b2 b (k : Int) (nodeP b (wIno s k))) big (s.1, s.2, 0) = some (wStep b k s) := by
  have hlen := nodeP_ents hb (wIno s k)
  have hn := hb.len
  have := (iter_fold (B := m_ref13_walk_b2 b (k : Int) (nodeP b (wIno s k))) (fun (i : Nat) (s : WS) => (s.1, s.2, (i : Int))) (nodeP b (wIno s k)).entries (eStep b k (wIno s k)) (fun s => s)
    (fun i t => WI b t.1 ∧ t.2.length ≤ s.2.length + i ∧ (∀ j, j < s.1.length → t.1[j]? = s.1[j]?)) ?_ ?_ (s0 := s) ⟨h.wi, by omega, fun _ _ => rfl⟩ (fuel := big) (by rw [big_eq]; omega)).1
  · exact this
  · rintro i t hi ⟨w1, w2, w3⟩
    have htl := w1.len
    have hs2 := h.tw
    have hsl := h.wi.len
    obtain ⟨a1, a2, a3, a4⟩ := eStep_inv (k := k) (ino := wIno s k) (e := (nodeP b (wIno s k)).entries[i]) w1
    refine ⟨?_, a1, by omega, fun j hj => (a4 j ?_).trans (w3 j hj)⟩
    rotate_left
    · have := w3 j hj
      rw [List.getElem?_eq_getElem hj] at this
      exact (List.getElem?_eq_some_iff.1 this).1
    simp only [m_ref13_walk_b2]
    rw [if_pos (by omega), ix_at hi]
    simp only [Option.bind_some]
    rw [at_eq hb]
    simp only [Option.bind_some]
    generalize (nodeP b (wIno s k)).entries[i] = e
    unfold eStep
    by_cases hkd : (nodeP b e.ino).kind = 1
    · rw [if_pos hkd, if_pos hkd]
      obtain ⟨r, hr, hr2⟩ := place_eq (ways := t.1) (by omega) e.ino
      rw [hr]
      simp only [Option.bind_some]
      have hkt : t.1[k]? = s.1[k]? := w3 k hk
      have hkl : k < t.1.length := by
        rw [List.getElem?_eq_getElem hk] at hkt
        exact (List.getElem?_eq_some_iff.1 hkt).1
      by_cases hs : seenB t.1 e.ino = true
      · rw [if_pos (hr2.2 hs), if_pos hs, ix_at hkl]
        have he : t.1[k].ino = wIno s k := by
          unfold wIno
          rw [← hkt, List.getElem?_eq_getElem hkl]
          rfl
        simp only [Option.bind_some]
        rw [ap_of (by simp; omega) (by omega), wr_suc (by omega), he]
        rfl
      · rw [if_neg (fun h => hs (hr2.1 h)), if_neg hs, ap_of (by simp; omega) (by omega), wr_suc (by omega)]
        rfl
    · rw [if_neg hkd, if_neg hkd, wr_suc (by omega)]
  · rintro t ⟨w1, w2, w3⟩
    simp only [m_ref13_walk_b2]
    rw [if_neg (by omega)]
theorem ref_loop {b : Branch} (hb : PB b) {k : Nat} {s : WS} (h : LI b k s) :
    iter (m_ref13_walk_b1 b) big (s.1, s.2, (k : Int)) = some ((wLoop b k s).2.1, (wLoop b k s).2.2, ((wLoop b k s).1 : Int)) ∧ LI b (wLoop b k s).1 (wLoop b k s).2 ∧ (wLoop b k s).1 = (wLoop b k s).2.1.length := by
  have hn := hb.len
  refine iter_wl (B := m_ref13_walk_b1 b) (fun (k : Nat) (s : WS) => (s.1, s.2, (k : Int))) (wStep b) (fun s => s.1.length) (fun k s => (s.1, s.2, (k : Int))) (LI b) 24 (fun k s h => ⟨h.at', Nat.le_trans h.wi.len hn⟩) ?_ ?_ 25 k s big h (by omega) (by rw [big_eq]; omega)
  · intro k s h hk
    have := h.wi.len
    refine ⟨?_, wStep_inv hb h hk⟩
    simp only [m_ref13_walk_b1]
    rw [if_pos (by omega), ix_at hk]
    simp only [Option.bind_some]
    rw [at_eq hb]
    simp only [Option.bind_some]
    have he : s.1[k].ino = wIno s k := by unfold wIno; rw [List.getElem?_eq_getElem hk]; rfl
    rw [he, ref_enter hb h hk, wr_suc (by omega)]
    rfl
  · intro k s h hk
    simp only [m_ref13_walk_b1]
    rw [if_neg (by omega)]
theorem wl_done {σ : Type} {step : Nat → σ → σ} {len : σ → Nat} {f k : Nat} {s : σ} (h : ¬ k < len s) : wl step len f k s = (k, s) := by
  cases f with
  | zero => rfl
  | succ f => unfold wl; rw [if_neg h]
structure FI (b : Branch) (t : Nat × WS) : Prop where
  li : LI b t.1 t.2
  all : t.1 = t.2.1.length
theorem LI.push {b : Branch} {k : Nat} {s : WS} (h : LI b k s) {w : Way} (hk : (nodeP b w.ino).kind = 1) (hs : seenB s.1 w.ino = false) : LI b k (s.1 ++ [w], s.2) :=
  ⟨h.wi.push hk hs, by have := h.at'; simp; omega, h.tw⟩
theorem fStep_inv {b : Branch} (hb : PB b) {t : Nat × WS} (h : FI b t) (r : Int) : FI b (fStep b t r) := by
  unfold fStep
  split
  · rename_i hc
    obtain ⟨_, a2, a3⟩ := ref_loop hb (h.li.push (w := ⟨r, -1, noBytes⟩) hc.1 hc.2)
    exact ⟨a2, a3⟩
  · exact h
theorem FI.nil (b : Branch) : FI b (0, [], []) := ⟨⟨⟨by simp, by simp⟩, by simp, by simp⟩, rfl⟩
theorem ref_walk {b : Branch} (hb : PB b) {fr : List Int} (hf : fr.length ≤ 1000) : m_ref13_walk b fr = some (walkP b fr).2 ∧ FI b (walkP b fr) := by
  have hn := hb.len
  have key := iter_fold (B := m_ref13_walk_b0 b fr) (fun (i : Nat) (t : Nat × WS) => (t.2.1, t.2.2, (t.1 : Int), (i : Int))) fr (fStep b) (fun t => (t.2.1, t.2.2)) (fun _ t => FI b t) (by
    intro i t hi h
    have hl := h.li.wi.len
    have ht := h.li.tw
    refine ⟨?_, fStep_inv hb h _⟩
    simp only [m_ref13_walk_b0]
    rw [if_pos (by omega), ix_at hi]
    simp only [Option.bind_some]
    rw [at_eq hb]
    simp only [Option.bind_some]
    unfold fStep
    by_cases hk : (nodeP b fr[i]).kind = 1
    · rw [if_pos hk]
      obtain ⟨r, hr, hr2⟩ := place_eq (ways := t.2.1) (by omega) fr[i]
      rw [hr]
      simp only [Option.bind_some]
      by_cases hs : seenB t.2.1 fr[i] = true
      · rw [if_pos (hr2.2 hs), if_neg (by rw [hs]; simp), wr_suc (by omega)]
      · have hs' : seenB t.2.1 fr[i] = false := by simpa using hs
        rw [if_neg (fun h => hs (hr2.1 h)), if_pos ⟨hk, hs'⟩, ap_of (by simp; omega) (by omega)]
        have := (ref_loop hb (h.li.push (w := ⟨fr[i], -1, noBytes⟩) hk hs')).1
        simp only [Option.bind_some]
        rw [this, wr_suc (by omega)]
        rfl
    · rw [if_neg hk, if_neg (fun h => hk h.1), wr_suc (by omega)]) (by
    intro t h
    simp only [m_ref13_walk_b0]
    rw [if_neg (by omega)]) (FI.nil b) (fuel := big) (by rw [big_eq]; omega)
  refine ⟨?_, key.2⟩
  unfold m_ref13_walk
  have h1 := key.1
  simp only at h1
  rw [show ((0 : Nat) : Int) = 0 from rfl] at h1
  rw [h1]
  rfl
end Go.Proofs.YtapdjibjnfeipaaGreatDoor.AL

/- Plain laws of chapter 17: nodes, roots, parts, entries, steps. -/
set_option linter.all false
namespace Go.Proofs.YtapdjibjnfeipaaGreatDoor.AL
open Go Go.Proofs
structure NV (x : Node) : Prop where
  ents : x.entries.length ≤ 32
  has0 : 0 ≤ x.attr.has
  has1 : x.attr.has ≤ 31
structure PU (b : Branch) : Prop where
  len : b.nodes.length ≤ 30
  nodes : ∀ x ∈ b.nodes, NV x
structure SV (s : Stack) : Prop where
  up : PU s.upper
  low : PQ s.lowers
theorem NB.nv {x : Node} (h : NB x) : NV x := ⟨Nat.le_trans h.ents (by omega), h.has0, h.has1⟩
theorem SB.sv {s : Stack} (h : SB s) : SV s := ⟨⟨Nat.le_trans h.up.1 (by omega), fun x hx => (h.up.2 x hx).nv⟩, h.pq⟩
theorem SB.pb {s : Stack} (h : SB s) : PB s.upper := ⟨h.up.1, fun x hx => (h.up.2 x hx).ents⟩
theorem stack_eta (s : Stack) : (⟨(⟨s.geo.lowers, s.geo.inodes, s.geo.blocks, s.geo.log⟩ : Geo), (⟨s.upper.nodes⟩ : Branch), s.lowers⟩ : Stack) = s := rfl
theorem vnode_eq {s : Stack} (h : SV s) (ino : Int) : m_view_stack_node s ino = some (nodeP s.upper ino) := by
  unfold m_view_stack_node nodeP
  split
  · rfl
  · split
    · rfl
    · rename_i h1 h2
      have := h.up.len
      rw [wr_in (by omega) (by omega), ix_of (by omega) (by omega)]
      have hlt : (ino - 1).toNat < s.upper.nodes.length := by omega
      simp only [Option.bind_some, List.getElem?_eq_getElem hlt, Option.getD_some]
theorem atv_eq {s : Stack} (h : SV s) (ino : Int) : m_ref13_At s.upper ino = some (nodeP s.upper ino) := by
  rw [← vnode_eq h ino]
  rfl
theorem zero_nv : NV zeroNode := ⟨by simp [zeroNode], by simp [zeroNode], by simp [zeroNode]⟩
theorem nodeP_nv {b : Branch} (h : PU b) (ino : Int) : NV (nodeP b ino) := by
  unfold nodeP
  split
  · exact zero_nv
  · split
    · exact zero_nv
    · rename_i h1 h2
      have hlt : (ino - 1).toNat < b.nodes.length := by omega
      simp only [List.getElem?_eq_getElem hlt, Option.getD_some]
      exact h.nodes _ (List.getElem_mem hlt)
theorem nodeP_live {b : Branch} {ino : Int} (h : ¬ (nodeP b ino).kind = 0) : 1 ≤ ino ∧ ino ≤ (b.nodes.length : Int) := by
  unfold nodeP at h
  split at h
  · exact absurd rfl h
  · split at h
    · exact absurd rfl h
    · omega
def opqV (n : Node) : Bool := decide (n.kind = 1) && opqQ n
theorem lopq_nv {n : Node} (h : NV n) : m_lower_opaque n = some (opqQ n) := by
  have := lopaque_eq (n := { n with entries := [] }) ⟨by simp, h.has0, h.has1⟩
  exact this
theorem ropq_nv {n : Node} (h : NV n) : m_ref16_Opaque n = some (opqQ n) := by
  have := ropaque_eq (n := { n with entries := [] }) ⟨by simp, h.has0, h.has1⟩
  exact this
theorem vopaque_eq {n : Node} (h : NV n) : m_view_Opaque n = some (opqV n) := by
  have e : m_view_Opaque n = if n.kind = 1 then m_lower_opaque n else some false := rfl
  rw [e, lopq_nv h]
  unfold opqV
  by_cases hk : n.kind = 1 <;> simp [hk]
theorem r17opaque_eq {n : Node} (h : NV n) : m_ref17_Opaque n = some (opqV n) := by
  unfold m_ref17_Opaque
  rw [ropq_nv h]
  unfold opqV
  by_cases hk : n.kind = 1 <;> simp [hk]
def rootV (s : Stack) : View := ⟨if (nodeP s.upper 1).kind = 1 then 1 else 0, if opqV (nodeP s.upper 1) = true then [] else rootsQ s.lowers⟩
theorem vroot_eq {s : Stack} (h : SV s) : m_view_Root s = some (rootV s) := by
  unfold m_view_Root rootV
  rw [stack_eta, vnode_eq h]
  simp only [Option.bind_some]
  rw [vopaque_eq (nodeP_nv h.up 1), roots_eq h.low]
  simp only [Option.bind_some]
  by_cases hk : (nodeP s.upper 1).kind = 1
  · rw [if_pos hk, if_pos hk]
    cases opqV (nodeP s.upper 1) <;> rfl
  · rw [if_neg hk, if_neg hk]
    cases opqV (nodeP s.upper 1) <;> rfl
theorem rroot_eq {s : Stack} (h : SV s) : m_ref17_Root s = some (rootV s) := by
  unfold m_ref17_Root rootV
  rw [atv_eq h]
  simp only [Option.bind_some]
  rw [r17opaque_eq (nodeP_nv h.up 1), rroots_eq h.low]
  simp only [Option.bind_some]
  by_cases hk : (nodeP s.upper 1).kind = 1
  · rw [if_pos hk, if_pos hk]
    cases opqV (nodeP s.upper 1) <;> rfl
  · rw [if_neg hk, if_neg hk]
    have : ¬ opqV (nodeP s.upper 1) = true := by simp [opqV, hk]
    rw [if_neg this]
theorem rootV_len {s : Stack} (h : SV s) : (rootV s).lower.length ≤ 3 := by
  show (if opqV (nodeP s.upper 1) = true then [] else rootsQ s.lowers).length ≤ 3
  split
  · simp
  · exact rootsQ_len h.low
theorem bits2 (k : Fin 32) : bAnd .i64 (k.val : Int) 2 = 0 ↔ ¬ (wr ((k.val : Int).tdiv 2)).tmod 2 = 1 := by
  revert k
  decide +kernel
def redB (n : Node) : Bool := decide ((wr (n.attr.has.tdiv 2)).tmod 2 = 1)
theorem redB_my {n : Node} (h : NV n) : bAnd .i64 n.attr.has 2 = 0 ↔ ¬ redB n = true := by
  have e : ((n.attr.has.toNat : Nat) : Int) = n.attr.has := by have := h.has0; omega
  have hb := bits2 ⟨n.attr.has.toNat, by have := h.has0; have := h.has1; omega⟩
  simp only [e] at hb
  rw [hb]
  simp [redB]
theorem redB_ref {n : Node} (h : NV n) : m_ref09_Has n.attr 2 = some (redB n) := by
  unfold m_ref09_Has m_ref09_has redB ck
  rw [if_pos h.has0, if_pos (by decide)]
  simp only [Option.bind_some]
  by_cases hq : (wr (n.attr.has.tdiv 2)).tmod 2 = 1
  · rw [if_pos hq]; exact congrArg some (decide_eq_true hq).symm
  · rw [if_neg hq]; exact congrArg some (decide_eq_false hq).symm
theorem redir_my (s : ByteArray) : m_path_Redirect s = some (redirP s) := by
  by_cases h : s.size ≤ 100000
  · exact myRedirect_eq h
  · unfold m_path_Redirect redirP
    rw [if_pos (by omega), if_pos (by omega)]
theorem redir_ref (s : ByteArray) : m_ref04_Redirect s = some (redirP s) := by
  by_cases h : s.size ≤ 100000
  · exact refRedirect_eq h
  · unfold m_ref04_Redirect redirP
    rw [if_pos (by omega), if_pos (by omega)]
theorem redirP_len (s : ByteArray) : (redirP s).1.length ≤ 1000 := by
  unfold redirP
  split
  · simp
  · split
    · rename_i h1 h2
      unfold splitP
      split
      · simp
      · split
        · have := partsP_len s; simp only; omega
        · simp
    · split <;> simp
theorem redirP_one {s : ByteArray} (h : (redirP s).2.2 = true) (h2 : ¬ (redirP s).2.1 = true) : ∃ x, (redirP s).1 = [x] := by
  unfold redirP at h h2 ⊢
  split
  · rename_i h1; rw [if_pos h1] at h; cases h
  · rename_i h1
    rw [if_neg h1] at h h2
    split
    · rename_i h3; rw [if_pos h3] at h h2; exact absurd h h2
    · rename_i h3
      rw [if_neg h3] at h
      split
      · exact ⟨_, rfl⟩
      · rename_i h4; rw [if_neg h4] at h; cases h
def dirsV (s : Stack) (l : List Place) (nm : ByteArray) : List Place := if (findQ s.lowers l nm).1 = 1 then (findQ s.lowers l nm).2 else []
def partV (s : Stack) (v : View) (n : Node) (nm : ByteArray) : List Place :=
  if n.kind = 1 then if opqQ n = true then [] else if redB n = true then
    if (redirP n.attr.redirect).2.2 = true then if (redirP n.attr.redirect).2.1 = true then (lookQ s.lowers (rootsQ s.lowers) (redirP n.attr.redirect).1).1 else dirsV s v.lower ((redirP n.attr.redirect).1.headD noBytes) else []
    else dirsV s v.lower nm else []
theorem dirs_eq {s : Stack} (h : SV s) {l : List Place} (hl : l.length ≤ 1000) (nm : ByteArray) : m_view_stack_dirs s l nm = some (dirsV s l nm) := by
  unfold m_view_stack_dirs dirsV
  rw [find_eq h.low hl]
  simp only [Option.bind_some]
  split <;> rfl
theorem part_eq {s : Stack} (h : SV s) {v : View} (hv : v.lower.length ≤ 1000) {n : Node} (hn : NV n) (nm : ByteArray) : m_view_stack_part s v n nm = some (partV s v n nm) := by
  unfold m_view_stack_part partV
  by_cases hk : n.kind = 1
  · rw [if_pos hk, if_pos hk, vopaque_eq hn]
    have eo : opqV n = opqQ n := by simp [opqV, hk]
    rw [eo]
    simp only [Option.bind_some]
    by_cases ho : opqQ n = true
    · rw [if_pos ho, if_pos ho]
    · rw [if_neg ho, if_neg ho, if_neg (by have := hn.has0; omega), dirs_eq h hv]
      simp only [Option.bind_some]
      by_cases hr : redB n = true
      · rw [if_neg (fun e => (redB_my hn).1 e hr), if_pos hr, redir_my]
        simp only [Option.bind_some]
        by_cases hok : (redirP n.attr.redirect).2.2 = true
        · rw [if_neg (by simp [hok]), if_pos hok]
          by_cases ha : (redirP n.attr.redirect).2.1 = true
          · have hrl := rootsQ_len h.low
            rw [if_pos ha, if_pos ha, roots_eq h.low]
            simp only [Option.bind_some]
            rw [look_eq h.low (by omega) (redirP_len _)]
            rfl
          · rw [if_neg ha, if_neg ha]
            obtain ⟨x, hx⟩ := redirP_one hok ha
            rw [hx]
            have : ix [x] 0 = some x := rfl
            rw [this]
            simp only [Option.bind_some, List.headD_cons]
            rw [dirs_eq h hv]
            rfl
        · rw [if_pos (by simpa using hok), if_neg hok]
      · rw [if_pos ((redB_my hn).2 hr), if_neg hr]
  · rw [if_neg hk, if_neg hk]
theorem rpart_eq {s : Stack} (h : SV s) {v : View} (hv : v.lower.length ≤ 1000) (ino : Int) (nm : ByteArray) : m_ref17_Part s v ino nm = some (partV s v (nodeP s.upper ino) nm) := by
  unfold m_ref17_Part
  rw [atv_eq h]
  simp only [Option.bind_some]
  have hn := nodeP_nv h.up ino
  generalize nodeP s.upper ino = n at hn
  unfold partV
  by_cases hk : n.kind = 1
  · rw [if_pos hk, if_pos hk, r17opaque_eq hn]
    have eo : opqV n = opqQ n := by simp [opqV, hk]
    rw [eo]
    simp only [Option.bind_some]
    by_cases ho : opqQ n = true
    · rw [if_pos ho, if_pos ho]
    · rw [if_neg ho, if_neg ho, redB_ref hn]
      simp only [Option.bind_some]
      by_cases hr : redB n = true
      · rw [if_pos hr, if_pos hr, redir_ref]
        simp only [Option.bind_some]
        by_cases hok : (redirP n.attr.redirect).2.2 = true
        · rw [if_neg (by simp [hok]), if_pos hok]
          by_cases ha : (redirP n.attr.redirect).2.1 = true
          · have hrl := rootsQ_len h.low
            rw [if_pos ha, if_pos ha, rroots_eq h.low]
            simp only [Option.bind_some]
            rw [rlook_eq h.low (by omega) (redirP_len _)]
            rfl
          · rw [if_neg ha, if_neg ha]
            obtain ⟨x, hx⟩ := redirP_one hok ha
            rw [hx]
            have : ix [x] 0 = some x := rfl
            rw [this]
            simp only [Option.bind_some, List.headD_cons]
            rw [rfind_eq h.low hv]
            simp only [Option.bind_some, dirsV]
            split <;> rfl
        · rw [if_pos (by simpa using hok), if_neg hok]
      · rw [if_neg hr, if_neg hr, rfind_eq h.low hv]
        simp only [Option.bind_some, dirsV]
        split <;> rfl
  · rw [if_neg hk, if_neg hk]
theorem dirsV_len (s : Stack) (l : List Place) (nm : ByteArray) : (dirsV s l nm).length ≤ l.length := by
  unfold dirsV
  split
  · exact findQ_len _ _ _
  · simp
theorem partV_len {s : Stack} (h : SV s) {v : View} {m : Nat} (hv : v.lower.length ≤ m) (hm : 3 ≤ m) (n : Node) (nm : ByteArray) : (partV s v n nm).length ≤ m := by
  unfold partV
  split
  · split
    · simp
    · split
      · split
        · split
          · have h1 := lookQ_len (bs := s.lowers) (redirP n.attr.redirect).1 (rootsQ s.lowers)
            have h2 := rootsQ_len h.low
            omega
          · exact Nat.le_trans (dirsV_len _ _ _) hv
        · simp
      · exact Nat.le_trans (dirsV_len _ _ _) hv
  · simp
theorem partV_opq {s : Stack} {v : View} {n : Node} {nm : ByteArray} (h : opqV n = true) : partV s v n nm = [] := by
  unfold opqV at h
  simp only [Bool.and_eq_true, decide_eq_true_eq] at h
  unfold partV
  rw [if_pos h.1, if_pos h.2]
end Go.Proofs.YtapdjibjnfeipaaGreatDoor.AL

/- Plain laws, part 2: the program's walk; what is common. -/
set_option linter.all false
namespace Go.Proofs.YtapdjibjnfeipaaGreatDoor.AL
open Go Go.Proofs
theorem mget_mset (m : List (Int × Int)) (k v k' : Int) : mget (mset m k v) k' = if k' = k then v else mget m k' := by
  induction m with
  | nil =>
    unfold mget mset
    by_cases h : k' = k
    · subst h; simp
    · have : (k' == k) = false := by simpa using h
      simp [this, h]
  | cons p m ih =>
    unfold mset
    by_cases h : k = p.1
    · rw [if_pos h]
      unfold mget
      by_cases h' : k' = k
      · subst h'; simp [h]
      · have : (k' == p.1) = false := by simp; omega
        simp [this, h']
    · rw [if_neg h]
      unfold mget at ih ⊢
      by_cases h' : k' = p.1
      · have h2 : ¬ k' = k := by omega
        have : (k' == p.1) = true := by simpa using h'
        simp [this, h2]
      · have : (k' == p.1) = false := by simpa using h'
        simpa [List.find?_cons, this] using ih
abbrev MS := WS × List (Int × Int)
def SM (t : MS) : Prop := ∀ ino, mget t.2 ino = if seenB t.1.1 ino = true then 1 else 0
def eStepM (b : Branch) (k : Nat) (ino : Int) (t : MS) (e : Entry) : MS :=
  (eStep b k ino t.1 e, if (nodeP b e.ino).kind = 1 ∧ seenB t.1.1 e.ino = false then mset t.2 e.ino 1 else t.2)
theorem seenB_push (ways : List Way) (w : Way) (ino : Int) : seenB (ways ++ [w]) ino = (seenB ways ino || decide (w.ino = ino)) := by simp [seenB]
theorem eStepM_sm {b : Branch} {k : Nat} {ino : Int} {t : MS} {e : Entry} (h : SM t) : SM (eStepM b k ino t e) := by
  intro i
  unfold eStepM eStep
  by_cases hk : (nodeP b e.ino).kind = 1
  · by_cases hs : seenB t.1.1 e.ino = true
    · simp only [hk, hs, true_and, if_true, reduceCtorEq, if_false]
      simpa using h i
    · have hs' : seenB t.1.1 e.ino = false := by simpa using hs
      simp only [hk, hs', true_and, if_true, if_false, Bool.false_eq_true]
      rw [mget_mset, seenB_push, h i]
      by_cases hi : i = e.ino
      · subst hi; simp
      · have : ¬ e.ino = i := fun h => hi h.symm
        simp [hi, this]
  · simp only [hk, false_and, if_false]
    exact h i
theorem foldM_fst (b : Branch) (k : Nat) (ino : Int) : ∀ (es : List Entry) (t : MS), (es.foldl (eStepM b k ino) t).1 = es.foldl (eStep b k ino) t.1
  | [], t => rfl
  | e :: es, t => by rw [List.foldl_cons, List.foldl_cons, foldM_fst b k ino es]; rfl
def wStepM (b : Branch) (k : Nat) (t : MS) : MS := (nodeP b (wIno t.1 k)).entries.foldl (eStepM b k (wIno t.1 k)) t
theorem wStepM_fst (b : Branch) (k : Nat) (t : MS) : (wStepM b k t).1 = wStep b k t.1 := foldM_fst _ _ _ _ _
theorem nodeP_in {b : Branch} {ino : Int} (h1 : ¬ ino < 1) (h2 : ¬ (b.nodes.length : Int) < ino) (hn : b.nodes.length ≤ 24) : ix b.nodes (wr (ino - 1)) = some (nodeP b ino) := by
  rw [wr_in (by omega) (by omega), ix_of (by omega) (by omega)]
  unfold nodeP
  rw [if_neg h1, if_neg h2]
  have hlt : (ino - 1).toNat < b.nodes.length := by omega
  simp only [List.getElem?_eq_getElem hlt, Option.getD_some]
theorem nodeP_out {b : Branch} {ino : Int} (h : ino < 1 ∨ (b.nodes.length : Int) < ino) : nodeP b ino = zeroNode := by
  unfold nodeP
  rcases h with h | h
  · rw [if_pos h]
  · rw [if_pos h]; split <;> rfl
theorem kind_zero : ¬ zeroNode.kind = 1 := by simp [zeroNode]
def wLoopM (b : Branch) (k : Nat) (t : MS) : Nat × MS := wl (wStepM b) (fun t => t.1.1.length) 25 k t
theorem wlM_fst (b : Branch) : ∀ (f k : Nat) (t : MS), (wl (wStepM b) (fun t => t.1.1.length) f k t).1 = (wl (wStep b) (fun s => s.1.length) f k t.1).1 ∧ (wl (wStepM b) (fun t => t.1.1.length) f k t).2.1 = (wl (wStep b) (fun s => s.1.length) f k t.1).2
  | 0, k, t => ⟨rfl, rfl⟩
  | f + 1, k, t => by
    unfold wl
    by_cases h : k < t.1.1.length
    · rw [if_pos h, if_pos h]
      have := wlM_fst b f (k + 1) (wStepM b k t)
      rw [wStepM_fst] at this
      exact this
    · rw [if_neg h, if_neg h]
      exact ⟨rfl, rfl⟩
def fStepM (b : Branch) (t : Nat × MS) (r : Int) : Nat × MS :=
  if (nodeP b r).kind = 1 ∧ seenB t.2.1.1 r = false then wLoopM b t.1 ((t.2.1.1 ++ [⟨r, -1, noBytes⟩], t.2.1.2), mset t.2.2 r 1) else t
theorem fStepM_fst (b : Branch) (t : Nat × MS) (r : Int) : ((fStepM b t r).1, (fStepM b t r).2.1) = fStep b (t.1, t.2.1) r := by
  unfold fStepM fStep
  split
  · have := wlM_fst b 25 t.1 ((t.2.1.1 ++ [⟨r, -1, noBytes⟩], t.2.1.2), mset t.2.2 r 1)
    exact Prod.ext this.1 this.2
  · rfl
theorem SM.push {t : MS} (h : SM t) (r : Int) (hs : seenB t.1.1 r = false) : SM ((t.1.1 ++ [⟨r, -1, noBytes⟩], t.1.2), mset t.2 r 1) := by
  intro i
  rw [mget_mset, seenB_push, h i]
  by_cases hi : i = r
  · subst hi; simp
  · have : ¬ r = i := fun h => hi h.symm
    simp [hi, this]
end Go.Proofs.YtapdjibjnfeipaaGreatDoor.AL

/- Plain laws, part 2: the program's walk is the document's: as walk_Dirs has it. -/
set_option linter.all false
namespace Go.Proofs.YtapdjibjnfeipaaGreatDoor.AL
open Go Go.Proofs
theorem my_enter_walk_Dirs {b : Branch} (hb : PB b) {k : Nat} {t : MS} (h : LI b k t.1) (hm : SM t) (hk : k < t.1.1.length) (w : Way) (hw : w.ino = wIno t.1 k) :
    iter (m_walk_Dirs_b5 b (k : Int) w (nodeP b (wIno t.1 k))) big (0, t.1.1, t.1.2, t.2) = some ((wStepM b k t).1.1, (wStepM b k t).2, (wStepM b k t).1.2) ∧ SM (wStepM b k t) := by
  have hlen := nodeP_ents hb (wIno t.1 k)
  have hn := hb.len
  have key := (iter_fold (B := m_walk_Dirs_b5 b (k : Int) w (nodeP b (wIno t.1 k))) (fun (i : Nat) (s : MS) => ((i : Int), s.1.1, s.1.2, s.2)) (nodeP b (wIno t.1 k)).entries (eStepM b k (wIno t.1 k)) (fun s => (s.1.1, s.2, s.1.2))
    (fun i u => WI b u.1.1 ∧ u.1.2.length ≤ t.1.2.length + i ∧ SM u) (by
    rintro i u hi ⟨w1, w2, w3⟩
    have htl := w1.len
    have hs2 := h.tw
    have hsl := h.wi.len
    have hat := h.at'
    obtain ⟨a1, a2, a3, a4⟩ := eStep_inv (k := k) (ino := wIno t.1 k) (e := (nodeP b (wIno t.1 k)).entries[i]) w1
    refine ⟨?_, a1, by show (eStep _ _ _ _ _).2.length ≤ _; omega, eStepM_sm w3⟩
    simp only [m_walk_Dirs_b5]
    rw [if_pos (by omega), ix_at hi]
    simp only [Option.bind_some]
    generalize (nodeP b (wIno t.1 k)).entries[i] = e
    unfold eStepM eStep
    by_cases h1 : e.ino < 1
    · rw [if_pos h1, nodeP_out (.inl h1), if_neg kind_zero, if_neg (fun h => kind_zero h.1), wr_suc (by omega)]
    · rw [if_neg h1]
      by_cases h2 : (b.nodes.length : Int) < e.ino
      · rw [if_pos h2, nodeP_out (.inr h2), if_neg kind_zero, if_neg (fun h => kind_zero h.1), wr_suc (by omega)]
      · rw [if_neg h2, nodeP_in h1 h2 hn]
        simp only [Option.bind_some]
        by_cases hkd : (nodeP b e.ino).kind = 1
        · rw [if_pos hkd, if_pos hkd]
          have hg := w3 e.ino
          by_cases hs : seenB u.1.1 e.ino = true
          · rw [if_pos (by rw [hg, if_pos hs]; omega), if_pos hs, if_neg (by rw [hs]; simp), ap_of (by simp; omega) (by omega), wr_suc (by omega), hw]
            rfl
          · have hs' : seenB u.1.1 e.ino = false := by simpa using hs
            rw [if_neg (by rw [hg, if_neg hs]; omega), if_neg hs, if_pos ⟨hkd, hs'⟩, ap_of (by simp; omega) (by omega), wr_suc (by omega), hg, if_neg hs, wr_in (by omega) (by omega)]
            rfl
        · rw [if_neg hkd, if_neg hkd, if_neg (fun h => hkd h.1), wr_suc (by omega)]) (by
    rintro u ⟨w1, w2, w3⟩
    simp only [m_walk_Dirs_b5]
    rw [if_neg (by omega)]) (s0 := t) ⟨h.wi, by omega, hm⟩ (fuel := big) (by rw [big_eq]; omega))
  exact ⟨key.1, key.2.2.2⟩
theorem my_loop_walk_Dirs {b : Branch} (hb : PB b) {k : Nat} {t : MS} (h : LI b k t.1) (hm : SM t) :
    iter (m_walk_Dirs_b2 b) (big + 1) ((k : Int), t.1.1, t.1.2, t.2) = some ((wLoopM b k t).2.1.1, (wLoopM b k t).2.2, (wLoopM b k t).2.1.2, ((wLoopM b k t).1 : Int)) ∧ (LI b (wLoopM b k t).1 (wLoopM b k t).2.1 ∧ SM (wLoopM b k t).2) ∧ (wLoopM b k t).1 = (wLoopM b k t).2.1.1.length := by
  have hn := hb.len
  refine iter_wl (B := m_walk_Dirs_b2 b) (fun (k : Nat) (t : MS) => ((k : Int), t.1.1, t.1.2, t.2)) (wStepM b) (fun t => t.1.1.length) (fun k t => (t.1.1, t.2, t.1.2, (k : Int))) (fun k t => LI b k t.1 ∧ SM t) 24 (fun k s h => ⟨h.1.at', Nat.le_trans h.1.wi.len hn⟩) ?_ ?_ 25 k t (big + 1) ⟨h, hm⟩ (by omega) (by rw [big_eq]; omega)
  · rintro k t ⟨h, hm⟩ hk
    have hl := h.wi.len
    have he : t.1.1[k].ino = wIno t.1 k := by unfold wIno; rw [List.getElem?_eq_getElem hk]; rfl
    obtain ⟨r1, r2⟩ := nodeP_kind (h.wi.dir _ (List.getElem_mem hk))
    obtain ⟨e1, e2⟩ := my_enter_walk_Dirs hb h hm hk t.1.1[k] he
    refine ⟨?_, by rw [wStepM_fst]; exact wStep_inv hb h hk, e2⟩
    simp only [m_walk_Dirs_b2]
    rw [if_pos (by omega), ix_at hk]
    simp only [Option.bind_some]
    rw [if_neg (by omega), if_neg (by omega), nodeP_in (by omega) (by omega) hn, he]
    simp only [Option.bind_some]
    rw [e1, wr_suc (by omega)]
    rfl
  · rintro k t ⟨h, hm⟩ hk
    simp only [m_walk_Dirs_b2]
    rw [if_neg (by omega)]
theorem my_push_walk_Dirs {b : Branch} (hb : PB b) {t : Nat × MS} (h : FI b (t.1, t.2.1)) (hm : SM t.2) (r : Int) :
    m_walk_Dirs_p1 b t.2.1.1 t.2.2 r = some (if (nodeP b r).kind = 1 ∧ seenB t.2.1.1 r = false then (t.2.1.1 ++ [⟨r, -1, noBytes⟩], mset t.2.2 r 1) else (t.2.1.1, t.2.2)) := by
  have hn := hb.len
  have hl := h.li.wi.len
  simp only at hl
  unfold m_walk_Dirs_p1
  by_cases h1 : r < 1
  · rw [if_pos h1, nodeP_out (.inl h1), if_neg (fun h => kind_zero h.1)]
  · rw [if_neg h1]
    by_cases h2 : (b.nodes.length : Int) < r
    · rw [if_pos h2, nodeP_out (.inr h2), if_neg (fun h => kind_zero h.1)]
    · rw [if_neg h2, nodeP_in h1 h2 hn]
      simp only [Option.bind_some]
      by_cases hk : (nodeP b r).kind = 1
      · rw [if_pos hk]
        have hg := hm r
        by_cases hs : seenB t.2.1.1 r = true
        · rw [if_pos (by rw [hg, if_pos hs]; omega), if_neg (by rw [hs]; simp)]
        · have hs' : seenB t.2.1.1 r = false := by simpa using hs
          rw [if_neg (by rw [hg, if_neg hs]; omega), if_pos ⟨hk, hs'⟩, ap_of (by simp; omega) (by omega), hg, if_neg hs, wr_in (by omega) (by omega)]
          rfl
      · rw [if_neg hk, if_neg (fun h => hk h.1)]
theorem my_walk_walk_Dirs {b : Branch} (hb : PB b) {fr : List Int} (hf : fr.length ≤ 1000) : ∃ M, iter (m_walk_Dirs_b0 b fr) big (0, 0, [], [], ([] : List (Int × Int))) = some ((walkP b fr).2.1, M, (walkP b fr).2.2) := by
  have hn := hb.len
  have key := iter_fold (B := m_walk_Dirs_b0 b fr) (fun (i : Nat) (t : Nat × MS) => ((t.1 : Int), (i : Int), t.2.1.1, t.2.1.2, t.2.2)) fr (fStepM b) (fun t => (t.2.1.1, t.2.2, t.2.1.2)) (fun _ t => FI b (t.1, t.2.1) ∧ SM t.2) (by
    rintro i t hi ⟨h, hm⟩
    have hl := h.li.wi.len
    have hi2 : FI b ((fStepM b t fr[i]).1, (fStepM b t fr[i]).2.1) := by rw [fStepM_fst]; exact fStep_inv hb h _
    simp only [m_walk_Dirs_b0]
    rw [if_pos (by omega), ix_at hi]
    simp only [Option.bind_some]
    rw [my_push_walk_Dirs hb h hm]
    unfold fStepM at hi2 ⊢
    by_cases hc : (nodeP b fr[i]).kind = 1 ∧ seenB t.2.1.1 fr[i] = false
    · rw [if_pos hc] at hi2
      rw [if_pos hc, if_pos hc]
      have hp := h.li.push (w := ⟨fr[i], -1, noBytes⟩) hc.1 hc.2
      obtain ⟨q1, q2, q3⟩ := my_loop_walk_Dirs hb (k := t.1) (t := ((t.2.1.1 ++ [⟨fr[i], -1, noBytes⟩], t.2.1.2), mset t.2.2 fr[i] 1)) hp (hm.push _ hc.2)
      simp only [Option.bind_some]
      simp only at q1
      rw [q1, wr_suc (by omega)]
      exact ⟨rfl, hi2, q2.2⟩
    · rw [if_neg hc] at hi2
      rw [if_neg hc, if_neg hc]
      obtain ⟨q1, q2, q3⟩ := my_loop_walk_Dirs hb (k := t.1) (t := t.2) h.li hm
      have hd : wLoopM b t.1 t.2 = (t.1, t.2) := wl_done (by have := h.all; simp only at this; omega)
      rw [hd] at q1
      simp only [Option.bind_some]
      simp only at q1
      rw [q1, wr_suc (by omega)]
      exact ⟨rfl, hi2, hm⟩) (by
    rintro t ⟨h, hm⟩
    simp only [m_walk_Dirs_b0]
    rw [if_neg (by omega)]) (s0 := (0, (([], []), []))) ⟨FI.nil b, fun i => by simp [mget, seenB]⟩ (fuel := big) (by rw [big_eq]; omega)
  have hfst : ∀ (l : List Int) (t : Nat × MS), ((l.foldl (fStepM b) t).1, (l.foldl (fStepM b) t).2.1) = l.foldl (fStep b) (t.1, t.2.1) := by
    intro l
    induction l with
    | nil => intro t; rfl
    | cons x l ih => intro t; rw [List.foldl_cons, List.foldl_cons, ih, fStepM_fst]
  have h2 := hfst fr (0, (([], []), []))
  have h3 : (fr.foldl (fStepM b) (0, (([], []), []))).2.1 = (walkP b fr).2 := by
    unfold walkP
    rw [← h2]
  refine ⟨(fr.foldl (fStepM b) (0, (([], []), []))).2.2, ?_⟩
  have h1 := key.1
  rw [← h3]
  exact h1
end Go.Proofs.YtapdjibjnfeipaaGreatDoor.AL

/- Plain laws of the walk: each way stands behind the one that names it. -/
set_option linter.all false
namespace Go.Proofs.YtapdjibjnfeipaaGreatDoor.AL
open Go Go.Proofs
def UpI (fr : List Int) (ws : List Way) : Prop := ∀ (i : Nat) (w : Way), ws[i]? = some w → w.up < (i : Int) ∧ (w.up < 0 → w.ino ∈ fr)
theorem UpI.push {fr : List Int} {ws : List Way} (h : UpI fr ws) {w : Way} (h1 : w.up < (ws.length : Int)) (h2 : w.up < 0 → w.ino ∈ fr) : UpI fr (ws ++ [w]) := by
  intro i v hv
  rw [List.getElem?_append] at hv
  split at hv
  · exact h i v hv
  · rename_i hi
    have hi2 : i - ws.length = 0 := by
      have := (List.getElem?_eq_some_iff.1 hv).1
      simp at this
      omega
    rw [hi2] at hv
    obtain rfl : w = v := by simpa using hv
    exact ⟨by omega, h2⟩
theorem eStep_up {b : Branch} {fr : List Int} {k : Nat} {ino : Int} {s : WS} {e : Entry} (h : UpI fr s.1) (hk : k < s.1.length) : UpI fr (eStep b k ino s e).1 ∧ k < (eStep b k ino s e).1.length := by
  unfold eStep
  split
  · split
    · exact ⟨h, hk⟩
    · exact ⟨h.push (w := ⟨e.ino, k, e.name⟩) (by simp only; omega) (fun h0 => absurd h0 (by simp only; omega)), by simp; omega⟩
  · exact ⟨h, hk⟩
theorem eFold_up {b : Branch} {fr : List Int} {k : Nat} {ino : Int} : ∀ (es : List Entry) (s : WS), UpI fr s.1 → k < s.1.length → UpI fr (es.foldl (eStep b k ino) s).1
  | [], s, h, _ => h
  | e :: es, s, h, hk => by
    obtain ⟨h1, h2⟩ := eStep_up (b := b) (ino := ino) (e := e) h hk
    rw [List.foldl_cons]
    exact eFold_up es _ h1 h2
theorem wl_up {b : Branch} {fr : List Int} : ∀ (f k : Nat) (s : WS), UpI fr s.1 → UpI fr (wl (wStep b) (fun s => s.1.length) f k s).2.1
  | 0, k, s, h => h
  | f + 1, k, s, h => by
    unfold wl
    split
    · rename_i hk; exact wl_up f (k + 1) _ (eFold_up _ _ h hk)
    · exact h
theorem fStep_up {b : Branch} {fr : List Int} {t : Nat × WS} {r : Int} (h : UpI fr t.2.1) (hr : r ∈ fr) : UpI fr (fStep b t r).2.1 := by
  unfold fStep
  split
  · exact wl_up _ _ _ (h.push (w := ⟨r, -1, noBytes⟩) (by simp only; omega) (fun _ => hr))
  · exact h
theorem fFold_up {b : Branch} {fr : List Int} : ∀ (l : List Int) (t : Nat × WS), (∀ r ∈ l, r ∈ fr) → UpI fr t.2.1 → UpI fr (l.foldl (fStep b) t).2.1
  | [], t, _, h => h
  | r :: l, t, hl, h => by
    rw [List.foldl_cons]
    exact fFold_up l _ (fun x hx => hl x (by simp [hx])) (fStep_up h (hl r (by simp)))
theorem walk_up (b : Branch) (fr : List Int) : UpI fr (walkP b fr).2.1 := fFold_up fr _ (fun _ h => h) (fun i w h => by simp at h)
end Go.Proofs.YtapdjibjnfeipaaGreatDoor.AL

