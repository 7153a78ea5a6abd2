/- A law of the given program is proved: part 49 of 51. -/
import Derived.Test.YtnmljicimdhpmaaD48
set_option linter.all false
/- Models of functions, and that the functions are as their models: written by gen.py. -/
set_option linter.all false
set_option maxRecDepth 100000
namespace Go.Proofs.Ytnmljicimdhpmaa.AL
open Go Go.Proofs
def m_ref15_Lower (a0 : Stack) (a1 : Place) : Option (Node) := if a1.layer < 1 then some (⟨0, 0, 0, 0, [], [], (⟨0, 0, noBytes, (⟨0, 0, 0⟩ : Origin), 0⟩ : Attr)⟩ : Node)
 else if (a0.lowers.length : Int) < a1.layer then some (⟨0, 0, 0, 0, [], [], (⟨0, 0, noBytes, (⟨0, 0, 0⟩ : Origin), 0⟩ : Attr)⟩ : Node)
 else (ix a0.lowers (wr (a1.layer - 1))).bind fun v5 => (m_ref13_At v5 a1.ino).bind fun v8 => some v8
def m_ref15_Find (a0 : Stack) (a1 : Origin) : Option (Node × Bool) := (m_ref15_Lower a0 (⟨a1.layer, a1.ino⟩ : Place)).bind fun v2 => if v2.kind = 1 then if v2.gen = a1.gen then some (v2, true)
 else some ((⟨0, 0, 0, 0, [], [], (⟨0, 0, noBytes, (⟨0, 0, 0⟩ : Origin), 0⟩ : Attr)⟩ : Node), false)
 else if v2.kind = 2 then if v2.gen = a1.gen then some (v2, true)
 else some ((⟨0, 0, 0, 0, [], [], (⟨0, 0, noBytes, (⟨0, 0, 0⟩ : Origin), 0⟩ : Attr)⟩ : Node), false)
 else if v2.kind = 3 then if v2.gen = a1.gen then some (v2, true)
 else some ((⟨0, 0, 0, 0, [], [], (⟨0, 0, noBytes, (⟨0, 0, 0⟩ : Origin), 0⟩ : Attr)⟩ : Node), false)
 else some ((⟨0, 0, 0, 0, [], [], (⟨0, 0, noBytes, (⟨0, 0, 0⟩ : Origin), 0⟩ : Attr)⟩ : Node), false)
def m_ref22_Odd (a0 : Node) : Option (Bool) := (m_ref09_Has a0.attr 1).bind fun v1 => if v1 = true then if a0.kind = 1 then if a0.attr.opaque0 = 121 then some false
 else some true
 else some true
 else some false
def m_ref22_Stale (a0 : Stack) (a1 : Node) : Option (Bool) := (m_ref09_Has a1.attr 4).bind fun v1 => if (!v1) = true then some false
 else (m_ref15_Find a0 a1.attr.origin).bind fun v5 => if a1.kind = 1 then if (!v5.2) = true then some true
 else if v5.1.kind = 1 then some false
 else some true
 else if a1.kind = 2 then if (!v5.2) = true then some true
 else if v5.1.kind = 1 then some true
 else some false
 else if a1.kind = 3 then if (!v5.2) = true then some true
 else if v5.1.kind = 1 then some true
 else some false
 else some true
def m_ref22_Lacks (a0 : Stack) (a1 : Node) : Option (Bool) := (m_ref09_Has a1.attr 16).bind fun v1 => if (!v1) = true then some false
 else (m_ref15_Find a0 a1.attr.origin).bind fun v5 => if a1.kind = 2 then (m_ref09_Has a1.attr 4).bind fun v9 => if (!v9) = true then some true
 else if (!v5.2) = true then some true
 else if v5.1.kind = 2 then some false
 else some true
 else some true
def m_handle_Find (a0 : Stack) (a1 : Origin) : Option (Node × Bool) := if a1.layer < 1 then some ((⟨0, 0, 0, 0, [], [], (⟨0, 0, noBytes, (⟨0, 0, 0⟩ : Origin), 0⟩ : Attr)⟩ : Node), false)
 else if (a0.lowers.length : Int) < a1.layer then some ((⟨0, 0, 0, 0, [], [], (⟨0, 0, noBytes, (⟨0, 0, 0⟩ : Origin), 0⟩ : Attr)⟩ : Node), false)
 else (ix a0.lowers (wr (a1.layer - 1))).bind fun v5 => if a1.ino < 1 then some ((⟨0, 0, 0, 0, [], [], (⟨0, 0, noBytes, (⟨0, 0, 0⟩ : Origin), 0⟩ : Attr)⟩ : Node), false)
 else if (v5.nodes.length : Int) < a1.ino then some ((⟨0, 0, 0, 0, [], [], (⟨0, 0, noBytes, (⟨0, 0, 0⟩ : Origin), 0⟩ : Attr)⟩ : Node), false)
 else (ix v5.nodes (wr (a1.ino - 1))).bind fun v12 => if v12.kind = 1 then if v12.gen = a1.gen then some (v12, true)
 else some ((⟨0, 0, 0, 0, [], [], (⟨0, 0, noBytes, (⟨0, 0, 0⟩ : Origin), 0⟩ : Attr)⟩ : Node), false)
 else if v12.kind = 2 then if v12.gen = a1.gen then some (v12, true)
 else some ((⟨0, 0, 0, 0, [], [], (⟨0, 0, noBytes, (⟨0, 0, 0⟩ : Origin), 0⟩ : Attr)⟩ : Node), false)
 else if v12.kind = 3 then if v12.gen = a1.gen then some (v12, true)
 else some ((⟨0, 0, 0, 0, [], [], (⟨0, 0, noBytes, (⟨0, 0, 0⟩ : Origin), 0⟩ : Attr)⟩ : Node), false)
 else some ((⟨0, 0, 0, 0, [], [], (⟨0, 0, noBytes, (⟨0, 0, 0⟩ : Origin), 0⟩ : Attr)⟩ : Node), false)
def Y_handle_Find := And.intro (And.intro (And.intro ((@EV)) (And.intro ((@R3)) ((@R24)))) (And.intro (And.intro ((@R26)) ((@R27))) (And.intro ((@R29)) ((@R42))))) (And.intro (And.intro (And.intro ((@R46)) ((@DGeo))) (And.intro ((@DBranch)) ((@DStack)))) (And.intro (And.intro ((@DOrigin)) ((@DAttr))) (And.intro ((@DNode)) ((@DEntry)))))
set_option maxHeartbeats 2000000 in
theorem ok_handle_Find (a0 : Stack) (a1 : Origin) (r : Node × Bool) (hm0 : m_handle_Find a0 a1 = some r) : Ok Try.prog 97 [encStack a0, encOrigin a1] (.tup [encNode r.1, bool r.2]) := by
 unfold m_handle_Find at hm0
 refine okG fc_handle_Find ?_
 unfold c_handle_Find
 rcases iteE hm0 with ⟨e2, hm0⟩ | ⟨e2, hm0⟩
 · obtain rfl := Option.some.inj hm0
   simp only [e2, Y_handle_Find, ↓EVd, isCall, sevalprocAttr]
   all_goals first | done | rfl | exact frzR_closed (by simp only [CLO]) | exact frzR_sub (by simp only [CLO]) (Sub.tup (Subs.cons (Sub.agg (Subs.cons (Sub.refl _) (Subs.cons (Sub.refl _) (Subs.cons (Sub.refl _) (Subs.cons (Sub.refl _) (Subs.cons (Sub.nilS _) (Subs.cons (Sub.nilS _) (Subs.cons (Sub.refl _) (Subs.cons (Sub.refl _) (Subs.cons (Sub.refl _) (Subs.cons (Sub.refl _) (Subs.cons (Sub.refl _) (Subs.cons (Sub.refl _) (Subs.cons (Sub.refl _) (Subs.nil))))))))))))))) (Subs.cons (Sub.refl _) (Subs.nil))))
 rcases iteE hm0 with ⟨e4, hm0⟩ | ⟨e4, hm0⟩
 · obtain rfl := Option.some.inj hm0
   simp only [e2, e4, Y_handle_Find, ↓EVd, isCall, sevalprocAttr]
   all_goals first | done | rfl | exact frzR_closed (by simp only [CLO]) | exact frzR_sub (by simp only [CLO]) (Sub.tup (Subs.cons (Sub.agg (Subs.cons (Sub.refl _) (Subs.cons (Sub.refl _) (Subs.cons (Sub.refl _) (Subs.cons (Sub.refl _) (Subs.cons (Sub.nilS _) (Subs.cons (Sub.nilS _) (Subs.cons (Sub.refl _) (Subs.cons (Sub.refl _) (Subs.cons (Sub.refl _) (Subs.cons (Sub.refl _) (Subs.cons (Sub.refl _) (Subs.cons (Sub.refl _) (Subs.cons (Sub.refl _) (Subs.nil))))))))))))))) (Subs.cons (Sub.refl _) (Subs.nil))))
 obtain ⟨v5, e7, hm0⟩ := ixE encBranch hm0
 rcases iteE hm0 with ⟨e9, hm0⟩ | ⟨e9, hm0⟩
 · obtain rfl := Option.some.inj hm0
   simp only [e2, e4, e7, e9, Y_handle_Find, ↓EVd, isCall, sevalprocAttr]
   all_goals first | done | rfl | exact frzR_closed (by simp only [CLO]) | exact frzR_sub (by simp only [CLO]) (Sub.tup (Subs.cons (Sub.agg (Subs.cons (Sub.refl _) (Subs.cons (Sub.refl _) (Subs.cons (Sub.refl _) (Subs.cons (Sub.refl _) (Subs.cons (Sub.nilS _) (Subs.cons (Sub.nilS _) (Subs.cons (Sub.refl _) (Subs.cons (Sub.refl _) (Subs.cons (Sub.refl _) (Subs.cons (Sub.refl _) (Subs.cons (Sub.refl _) (Subs.cons (Sub.refl _) (Subs.cons (Sub.refl _) (Subs.nil))))))))))))))) (Subs.cons (Sub.refl _) (Subs.nil))))
 rcases iteE hm0 with ⟨e11, hm0⟩ | ⟨e11, hm0⟩
 · obtain rfl := Option.some.inj hm0
   simp only [e2, e4, e7, e9, e11, Y_handle_Find, ↓EVd, isCall, sevalprocAttr]
   all_goals first | done | rfl | exact frzR_closed (by simp only [CLO]) | exact frzR_sub (by simp only [CLO]) (Sub.tup (Subs.cons (Sub.agg (Subs.cons (Sub.refl _) (Subs.cons (Sub.refl _) (Subs.cons (Sub.refl _) (Subs.cons (Sub.refl _) (Subs.cons (Sub.nilS _) (Subs.cons (Sub.nilS _) (Subs.cons (Sub.refl _) (Subs.cons (Sub.refl _) (Subs.cons (Sub.refl _) (Subs.cons (Sub.refl _) (Subs.cons (Sub.refl _) (Subs.cons (Sub.refl _) (Subs.cons (Sub.refl _) (Subs.nil))))))))))))))) (Subs.cons (Sub.refl _) (Subs.nil))))
 obtain ⟨v12, e14, hm0⟩ := ixE encNode hm0
 rcases iteE hm0 with ⟨e16, hm0⟩ | ⟨e16, hm0⟩
 · rcases iteE hm0 with ⟨e18, hm0⟩ | ⟨e18, hm0⟩
   · obtain rfl := Option.some.inj hm0
     simp only [e2, e4, e7, e9, e11, e14, e16, e18, Y_handle_Find, ↓EVd, isCall, sevalprocAttr]
     all_goals first | done | rfl | exact frzR_closed (by simp only [CLO]) | exact frzR_sub (by simp only [CLO]) (Sub.tup (Subs.cons (Sub.refl _) (Subs.cons (Sub.refl _) (Subs.nil))))
   obtain rfl := Option.some.inj hm0
   simp only [e2, e4, e7, e9, e11, e14, e16, e18, Y_handle_Find, ↓EVd, isCall, sevalprocAttr]
   all_goals first | done | rfl | exact frzR_closed (by simp only [CLO]) | exact frzR_sub (by simp only [CLO]) (Sub.tup (Subs.cons (Sub.agg (Subs.cons (Sub.refl _) (Subs.cons (Sub.refl _) (Subs.cons (Sub.refl _) (Subs.cons (Sub.refl _) (Subs.cons (Sub.nilS _) (Subs.cons (Sub.nilS _) (Subs.cons (Sub.refl _) (Subs.cons (Sub.refl _) (Subs.cons (Sub.refl _) (Subs.cons (Sub.refl _) (Subs.cons (Sub.refl _) (Subs.cons (Sub.refl _) (Subs.cons (Sub.refl _) (Subs.nil))))))))))))))) (Subs.cons (Sub.refl _) (Subs.nil))))
 rcases iteE hm0 with ⟨e20, hm0⟩ | ⟨e20, hm0⟩
 · have g27 := And.intro (And.intro (And.intro ((e2)) ((e4))) (And.intro ((e7)) ((e9)))) (And.intro (And.intro ((e11)) ((e14))) (And.intro ((e16)) ((e20))))
   rcases iteE hm0 with ⟨e22, hm0⟩ | ⟨e22, hm0⟩
   · obtain rfl := Option.some.inj hm0
     simp only [g27, e22, Y_handle_Find, ↓EVd, isCall, sevalprocAttr]
     all_goals first | done | rfl | exact frzR_closed (by simp only [CLO]) | exact frzR_sub (by simp only [CLO]) (Sub.tup (Subs.cons (Sub.refl _) (Subs.cons (Sub.refl _) (Subs.nil))))
   obtain rfl := Option.some.inj hm0
   simp only [g27, e22, Y_handle_Find, ↓EVd, isCall, sevalprocAttr]
   all_goals first | done | rfl | exact frzR_closed (by simp only [CLO]) | exact frzR_sub (by simp only [CLO]) (Sub.tup (Subs.cons (Sub.agg (Subs.cons (Sub.refl _) (Subs.cons (Sub.refl _) (Subs.cons (Sub.refl _) (Subs.cons (Sub.refl _) (Subs.cons (Sub.nilS _) (Subs.cons (Sub.nilS _) (Subs.cons (Sub.refl _) (Subs.cons (Sub.refl _) (Subs.cons (Sub.refl _) (Subs.cons (Sub.refl _) (Subs.cons (Sub.refl _) (Subs.cons (Sub.refl _) (Subs.cons (Sub.refl _) (Subs.nil))))))))))))))) (Subs.cons (Sub.refl _) (Subs.nil))))
 have g28 := And.intro (And.intro (And.intro ((e2)) ((e4))) (And.intro ((e7)) ((e9)))) (And.intro (And.intro ((e11)) ((e14))) (And.intro ((e16)) ((e20))))
 rcases iteE hm0 with ⟨e24, hm0⟩ | ⟨e24, hm0⟩
 · rcases iteE hm0 with ⟨e26, hm0⟩ | ⟨e26, hm0⟩
   · obtain rfl := Option.some.inj hm0
     simp only [g28, e24, e26, Y_handle_Find, ↓EVd, isCall, sevalprocAttr]
     all_goals first | done | rfl | exact frzR_closed (by simp only [CLO]) | exact frzR_sub (by simp only [CLO]) (Sub.tup (Subs.cons (Sub.refl _) (Subs.cons (Sub.refl _) (Subs.nil))))
   obtain rfl := Option.some.inj hm0
   simp only [g28, e24, e26, Y_handle_Find, ↓EVd, isCall, sevalprocAttr]
   all_goals first | done | rfl | exact frzR_closed (by simp only [CLO]) | exact frzR_sub (by simp only [CLO]) (Sub.tup (Subs.cons (Sub.agg (Subs.cons (Sub.refl _) (Subs.cons (Sub.refl _) (Subs.cons (Sub.refl _) (Subs.cons (Sub.refl _) (Subs.cons (Sub.nilS _) (Subs.cons (Sub.nilS _) (Subs.cons (Sub.refl _) (Subs.cons (Sub.refl _) (Subs.cons (Sub.refl _) (Subs.cons (Sub.refl _) (Subs.cons (Sub.refl _) (Subs.cons (Sub.refl _) (Subs.cons (Sub.refl _) (Subs.nil))))))))))))))) (Subs.cons (Sub.refl _) (Subs.nil))))
 obtain rfl := Option.some.inj hm0
 simp only [g28, e24, Y_handle_Find, ↓EVd, isCall, sevalprocAttr]
 all_goals first | done | rfl | exact frzR_closed (by simp only [CLO]) | exact frzR_sub (by simp only [CLO]) (Sub.tup (Subs.cons (Sub.agg (Subs.cons (Sub.refl _) (Subs.cons (Sub.refl _) (Subs.cons (Sub.refl _) (Subs.cons (Sub.refl _) (Subs.cons (Sub.nilS _) (Subs.cons (Sub.nilS _) (Subs.cons (Sub.refl _) (Subs.cons (Sub.refl _) (Subs.cons (Sub.refl _) (Subs.cons (Sub.refl _) (Subs.cons (Sub.refl _) (Subs.cons (Sub.refl _) (Subs.cons (Sub.refl _) (Subs.nil))))))))))))))) (Subs.cons (Sub.refl _) (Subs.nil))))
def m_origin_has (a0 : Node) (a1 : Int) : Option (Bool) := if 0 ≤ a0.attr.has then if (bAnd .i64 a0.attr.has a1) = 0 then some false
 else some true
 else some false
def Y_origin_has := And.intro (And.intro (And.intro ((@EV)) ((@R3))) (And.intro ((@R44)) ((@R46)))) (And.intro (And.intro ((@DOrigin)) ((@DAttr))) (And.intro ((@DNode)) ((@DEntry))))
set_option maxHeartbeats 2000000 in
theorem ok_origin_has (a0 : Node) (a1 : Int) (r : Bool) (hm0 : m_origin_has a0 a1 = some r) : Ok Try.prog 69 [encNode a0, int a1] (bool r) := by
 unfold m_origin_has at hm0
 refine okG fc_origin_has ?_
 unfold c_origin_has
 rcases iteE hm0 with ⟨e2, hm0⟩ | ⟨e2, hm0⟩
 · rcases iteE hm0 with ⟨e4, hm0⟩ | ⟨e4, hm0⟩
   · obtain rfl := Option.some.inj hm0
     simp only [e2, e4, Y_origin_has, ↓EVd, isCall, sevalprocAttr]
     all_goals first | done | rfl
   obtain rfl := Option.some.inj hm0
   simp only [e2, e4, Y_origin_has, ↓EVd, isCall, sevalprocAttr]
   all_goals first | done | rfl
 obtain rfl := Option.some.inj hm0
 simp only [e2, Y_origin_has, ↓EVd, isCall, sevalprocAttr]
 all_goals first | done | rfl
def m_origin_kind (a0 : Stack) (a1 : Node) : Option (Int) := (m_origin_has a1 4).bind fun v1 => if (!v1) = true then some 0
 else (m_handle_Find a0 a1.attr.origin).bind fun v5 => some v5.1.kind
def Y_origin_kind := And.intro (And.intro (And.intro ((@EV)) (And.intro ((@R3)) ((@R29)))) (And.intro ((@R42)) (And.intro ((@R44)) ((@R46))))) (And.intro (And.intro ((@DGeo)) (And.intro ((@DBranch)) ((@DStack)))) (And.intro (And.intro ((@DOrigin)) ((@DAttr))) (And.intro ((@DNode)) ((@DEntry)))))
set_option maxHeartbeats 2000000 in
theorem ok_origin_kind (a0 : Stack) (a1 : Node) (r : Int) (hm0 : m_origin_kind a0 a1 = some r) : Ok Try.prog 70 [encStack a0, encNode a1] (int r) := by
 unfold m_origin_kind at hm0
 refine okG fc_origin_kind ?_
 unfold c_origin_kind
 obtain ⟨v1, h2, hm0⟩ := bsE hm0
 simp only [Y_origin_kind, ↓EVd, isCall, sevalprocAttr]
 refine qc (ok_origin_has _ _ _ h2) rfl ?_
 rcases itbE hm0 with ⟨e4, hm0⟩ | ⟨e4, hm0⟩
 · obtain rfl := Option.some.inj hm0
   simp only [e4, Y_origin_kind, ↓EVd, isCall, sevalprocAttr]
   all_goals first | done | rfl
 obtain ⟨v5, h6, hm0⟩ := bsE hm0
 simp only [e4, Y_origin_kind, ↓EVd, isCall, sevalprocAttr]
 refine qc (ok_handle_Find _ _ _ h6) rfl ?_
 obtain rfl := Option.some.inj hm0
 simp only [e4, Y_origin_kind, ↓EVd, isCall, sevalprocAttr]
 all_goals first | done | rfl
def m_origin_Odd (a0 : Node) : Option (Bool) := (m_origin_has a0 1).bind fun v1 => if v1 = true then if a0.kind = 1 then if a0.attr.opaque0 = 121 then some false
 else some true
 else some true
 else some false
def Y_origin_Odd := And.intro (And.intro (And.intro ((@EV)) ((@R3))) (And.intro ((@R44)) ((@R46)))) (And.intro (And.intro ((@DOrigin)) ((@DAttr))) (And.intro ((@DNode)) ((@DEntry))))
set_option maxHeartbeats 2000000 in
theorem ok_origin_Odd (a0 : Node) (r : Bool) (hm0 : m_origin_Odd a0 = some r) : Ok Try.prog 28 [encNode a0] (bool r) := by
 unfold m_origin_Odd at hm0
 refine okG fc_origin_Odd ?_
 unfold c_origin_Odd
 obtain ⟨v1, h2, hm0⟩ := bsE hm0
 simp only [Y_origin_Odd, ↓EVd, isCall, sevalprocAttr]
 refine qc (ok_origin_has _ _ _ h2) rfl ?_
 rcases itbE hm0 with ⟨e4, hm0⟩ | ⟨e4, hm0⟩
 · rcases iteE hm0 with ⟨e6, hm0⟩ | ⟨e6, hm0⟩
   · rcases iteE hm0 with ⟨e8, hm0⟩ | ⟨e8, hm0⟩
     · obtain rfl := Option.some.inj hm0
       simp only [e4, e6, e8, Y_origin_Odd, ↓EVd, isCall, sevalprocAttr]
       all_goals first | done | rfl
     obtain rfl := Option.some.inj hm0
     simp only [e4, e6, e8, Y_origin_Odd, ↓EVd, isCall, sevalprocAttr]
     all_goals first | done | rfl
   obtain rfl := Option.some.inj hm0
   simp only [e4, e6, Y_origin_Odd, ↓EVd, isCall, sevalprocAttr]
   all_goals first | done | rfl
 obtain rfl := Option.some.inj hm0
 simp only [e4, Y_origin_Odd, ↓EVd, isCall, sevalprocAttr]
 all_goals first | done | rfl
def m_origin_Stale (a0 : Stack) (a1 : Node) : Option (Bool) := (m_origin_has a1 4).bind fun v1 => if (!v1) = true then some false
 else (m_origin_kind a0 a1).bind fun v5 => if a1.kind = 1 then if v5 = 1 then some false
 else some true
 else if a1.kind = 2 then if v5 = 0 then some true
 else if v5 = 1 then some true
 else some false
 else if a1.kind = 3 then if v5 = 0 then some true
 else if v5 = 1 then some true
 else some false
 else some true
def Y_origin_Stale := And.intro (And.intro (And.intro ((@EV)) ((@R3))) (And.intro ((@R29)) (And.intro ((@R46)) ((@DGeo))))) (And.intro (And.intro ((@DBranch)) (And.intro ((@DStack)) ((@DOrigin)))) (And.intro ((@DAttr)) (And.intro ((@DNode)) ((@DEntry)))))
set_option maxHeartbeats 2000000 in
theorem ok_origin_Stale (a0 : Stack) (a1 : Node) (r : Bool) (hm0 : m_origin_Stale a0 a1 = some r) : Ok Try.prog 30 [encStack a0, encNode a1] (bool r) := by
 unfold m_origin_Stale at hm0
 refine okG fc_origin_Stale ?_
 unfold c_origin_Stale
 obtain ⟨v1, h2, hm0⟩ := bsE hm0
 simp only [Y_origin_Stale, ↓EVd, isCall, sevalprocAttr]
 refine qc (ok_origin_has _ _ _ h2) rfl ?_
 rcases itbE hm0 with ⟨e4, hm0⟩ | ⟨e4, hm0⟩
 · obtain rfl := Option.some.inj hm0
   simp only [e4, Y_origin_Stale, ↓EVd, isCall, sevalprocAttr]
   all_goals first | done | rfl
 obtain ⟨v5, h6, hm0⟩ := bsE hm0
 simp only [e4, Y_origin_Stale, ↓EVd, isCall, sevalprocAttr]
 refine qc (ok_origin_kind _ _ _ h6) rfl ?_
 rcases iteE hm0 with ⟨e8, hm0⟩ | ⟨e8, hm0⟩
 · rcases iteE hm0 with ⟨e10, hm0⟩ | ⟨e10, hm0⟩
   · obtain rfl := Option.some.inj hm0
     simp only [e4, e8, e10, Y_origin_Stale, ↓EVd, isCall, sevalprocAttr]
     all_goals first | done | rfl
   obtain rfl := Option.some.inj hm0
   simp only [e4, e8, e10, Y_origin_Stale, ↓EVd, isCall, sevalprocAttr]
   all_goals first | done | rfl
 rcases iteE hm0 with ⟨e12, hm0⟩ | ⟨e12, hm0⟩
 · rcases iteE hm0 with ⟨e14, hm0⟩ | ⟨e14, hm0⟩
   · obtain rfl := Option.some.inj hm0
     simp only [e4, e8, e12, e14, Y_origin_Stale, ↓EVd, isCall, sevalprocAttr]
     all_goals first | done | rfl
   rcases iteE hm0 with ⟨e16, hm0⟩ | ⟨e16, hm0⟩
   · obtain rfl := Option.some.inj hm0
     simp only [e4, e8, e12, e14, e16, Y_origin_Stale, ↓EVd, isCall, sevalprocAttr]
     all_goals first | done | rfl
   obtain rfl := Option.some.inj hm0
   simp only [e4, e8, e12, e14, e16, Y_origin_Stale, ↓EVd, isCall, sevalprocAttr]
   all_goals first | done | rfl
 rcases iteE hm0 with ⟨e18, hm0⟩ | ⟨e18, hm0⟩
 · rcases iteE hm0 with ⟨e20, hm0⟩ | ⟨e20, hm0⟩
   · obtain rfl := Option.some.inj hm0
     simp only [e4, e8, e12, e18, e20, Y_origin_Stale, ↓EVd, isCall, sevalprocAttr]
     all_goals first | done | rfl
   rcases iteE hm0 with ⟨e22, hm0⟩ | ⟨e22, hm0⟩
   · obtain rfl := Option.some.inj hm0
     simp only [e4, e8, e12, e18, e20, e22, Y_origin_Stale, ↓EVd, isCall, sevalprocAttr]
     all_goals first | done | rfl
   obtain rfl := Option.some.inj hm0
   simp only [e4, e8, e12, e18, e20, e22, Y_origin_Stale, ↓EVd, isCall, sevalprocAttr]
   all_goals first | done | rfl
 obtain rfl := Option.some.inj hm0
 simp only [e4, e8, e12, e18, Y_origin_Stale, ↓EVd, isCall, sevalprocAttr]
 all_goals first | done | rfl
def m_origin_Lacks (a0 : Stack) (a1 : Node) : Option (Bool) := (m_origin_has a1 16).bind fun v1 => if v1 = true then if a1.kind = 2 then (m_origin_kind a0 a1).bind fun v7 => if v7 = 2 then some false
 else some true
 else some true
 else some false
def Y_origin_Lacks := And.intro (And.intro (And.intro ((@EV)) ((@R3))) (And.intro ((@R29)) (And.intro ((@R46)) ((@DGeo))))) (And.intro (And.intro ((@DBranch)) (And.intro ((@DStack)) ((@DOrigin)))) (And.intro ((@DAttr)) (And.intro ((@DNode)) ((@DEntry)))))
set_option maxHeartbeats 2000000 in
theorem ok_origin_Lacks (a0 : Stack) (a1 : Node) (r : Bool) (hm0 : m_origin_Lacks a0 a1 = some r) : Ok Try.prog 32 [encStack a0, encNode a1] (bool r) := by
 unfold m_origin_Lacks at hm0
 refine okG fc_origin_Lacks ?_
 unfold c_origin_Lacks
 obtain ⟨v1, h2, hm0⟩ := bsE hm0
 simp only [Y_origin_Lacks, ↓EVd, isCall, sevalprocAttr]
 refine qc (ok_origin_has _ _ _ h2) rfl ?_
 rcases itbE hm0 with ⟨e4, hm0⟩ | ⟨e4, hm0⟩
 · rcases iteE hm0 with ⟨e6, hm0⟩ | ⟨e6, hm0⟩
   · obtain ⟨v7, h8, hm0⟩ := bsE hm0
     simp only [e4, e6, Y_origin_Lacks, ↓EVd, isCall, sevalprocAttr]
     refine qc (ok_origin_kind _ _ _ h8) rfl ?_
     rcases iteE hm0 with ⟨e10, hm0⟩ | ⟨e10, hm0⟩
     · obtain rfl := Option.some.inj hm0
       simp only [e4, e6, e10, Y_origin_Lacks, ↓EVd, isCall, sevalprocAttr]
       all_goals first | done | rfl
     obtain rfl := Option.some.inj hm0
     simp only [e4, e6, e10, Y_origin_Lacks, ↓EVd, isCall, sevalprocAttr]
     all_goals first | done | rfl
   obtain rfl := Option.some.inj hm0
   simp only [e4, e6, Y_origin_Lacks, ↓EVd, isCall, sevalprocAttr]
   all_goals first | done | rfl
 obtain rfl := Option.some.inj hm0
 simp only [e4, Y_origin_Lacks, ↓EVd, isCall, sevalprocAttr]
 all_goals first | done | rfl
def m_origin_wrong (a0 : Stack) (a1 : Int) (a2 : Node) : Option (Bool) := if a1 = 8 then (m_origin_Odd a2).bind fun v3 => some v3
 else if a1 = 13 then (m_origin_Stale a0 a2).bind fun v7 => some v7
 else (m_origin_Lacks a0 a2).bind fun v9 => some v9
def Y_origin_wrong := And.intro (And.intro (And.intro ((@EV)) ((@R3))) (And.intro ((@R29)) (And.intro ((@R46)) ((@DGeo))))) (And.intro (And.intro ((@DBranch)) (And.intro ((@DStack)) ((@DOrigin)))) (And.intro ((@DAttr)) (And.intro ((@DNode)) ((@DEntry)))))
set_option maxHeartbeats 2000000 in
theorem ok_origin_wrong (a0 : Stack) (a1 : Int) (a2 : Node) (r : Bool) (hm0 : m_origin_wrong a0 a1 a2 = some r) : Ok Try.prog 68 [encStack a0, int a1, encNode a2] (bool r) := by
 unfold m_origin_wrong at hm0
 refine okG fc_origin_wrong ?_
 unfold c_origin_wrong
 rcases iteE hm0 with ⟨e2, hm0⟩ | ⟨e2, hm0⟩
 · obtain ⟨v3, h4, hm0⟩ := bsE hm0
   simp only [e2, Y_origin_wrong, ↓EVd, isCall, sevalprocAttr]
   refine qc (ok_origin_Odd _ _ h4) rfl ?_
   obtain rfl := Option.some.inj hm0
   simp only [e2, Y_origin_wrong, ↓EVd, isCall, sevalprocAttr]
   all_goals first | done | rfl
 rcases iteE hm0 with ⟨e6, hm0⟩ | ⟨e6, hm0⟩
 · obtain ⟨v7, h8, hm0⟩ := bsE hm0
   simp only [e2, e6, Y_origin_wrong, ↓EVd, isCall, sevalprocAttr]
   refine qc (ok_origin_Stale _ _ _ h8) rfl ?_
   obtain rfl := Option.some.inj hm0
   simp only [e2, e6, Y_origin_wrong, ↓EVd, isCall, sevalprocAttr]
   all_goals first | done | rfl
 obtain ⟨v9, h10, hm0⟩ := bsE hm0
 simp only [e2, e6, Y_origin_wrong, ↓EVd, isCall, sevalprocAttr]
 refine qc (ok_origin_Lacks _ _ _ h10) rfl ?_
 obtain rfl := Option.some.inj hm0
 simp only [e2, e6, Y_origin_wrong, ↓EVd, isCall, sevalprocAttr]
 all_goals first | done | rfl
end Go.Proofs.Ytnmljicimdhpmaa.AL

/- AL: an element of an array, at a place that is computed. -/
set_option linter.all false
namespace Go.Proofs.Ytnmljicimdhpmaa.AL
open Go Go.Proofs
theorem index_arrM {P : Program} {T e n : Nat} (h : arrOfT P T = some (n, e)) (h2 : aggN P e = some (false, 1)) {xs : List Int} {i v : Int} (hl : xs.length = n) (HH : ix xs i = some v) : evalIndex P T (.agg (xs.map int)) (int i) = some (int v) := by
  have h3 := ix_nonneg HH
  have h4 := ix_lt HH
  unfold evalIndex
  simp only [int, h, h2]
  rw [if_pos ⟨h3, by omega⟩, partOf_one P h2, Nat.mul_one]
  exact ix_enc int HH
end Go.Proofs.Ytnmljicimdhpmaa.AL

