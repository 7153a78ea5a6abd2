/- What of the attributes of any stack, and of any node, may not be, is what the document says: part 45 of 53. -/
import Derived.Test.YtnmljicimdhpmaaB44
set_option linter.all false
/- Models of functions, and that the functions are as their models: written by gen.py. -/
set_option linter.all false
set_option maxRecDepth 100000
namespace Go.Proofs.Ytnmljicimdhpmaa.AL
open Go Go.Proofs
def m_ref15_Lower (a0 : Stack) (a1 : Place) : Option (Node) := if a1.layer < 1 then some (⟨0, 0, 0, 0, [], [], (⟨0, 0, noBytes, (⟨0, 0, 0⟩ : Origin), 0⟩ : Attr)⟩ : Node)
 else if (a0.lowers.length : Int) < a1.layer then some (⟨0, 0, 0, 0, [], [], (⟨0, 0, noBytes, (⟨0, 0, 0⟩ : Origin), 0⟩ : Attr)⟩ : Node)
 else (ix a0.lowers (wr (a1.layer - 1))).bind fun v5 => (m_ref13_At v5 a1.ino).bind fun v9 => some v9
def Y_ref15_Lower := And.intro (And.intro (And.intro ((@R3)) (And.intro ((@R26)) ((@R27)))) (And.intro (And.intro ((@R29)) ((@R46))) (And.intro ((@R130)) ((@DGeo))))) (And.intro (And.intro (And.intro ((@DBranch)) ((@DStack))) (And.intro ((@DOrigin)) ((@DAttr)))) (And.intro (And.intro ((@DNode)) ((@DEntry))) (And.intro ((@DPlace)) ((@mixed)))))
set_option maxHeartbeats 2000000 in
theorem ok_ref15_Lower (a0 : Stack) (a1 : Place) (r : Node) (hm0 : m_ref15_Lower a0 a1 = some r) : Ok Try.prog 98 [encStack a0, encPlace a1] (encNode r) := by
  unfold m_ref15_Lower at hm0
  refine okF fc_ref15_Lower (by simp) ?_
  unfold c_ref15_Lower
  by_cases h1 : a1.layer < 1
  · have e2 : (a1.layer < 1) = True := eq_true h1
    rw [if_pos h1] at hm0
    simp only [Option.some.injEq] at hm0
    subst hm0
    simp only [e2, Y_ref15_Lower, EV, ↓EVd, isCall, Nat.reduceAdd, Nat.reduceSub, Nat.reduceMul, Nat.reduceEqDiff, Nat.reduceBEq, Nat.reduceLT, Nat.reduceLeDiff, ↓reduceIte, reduceCtorEq, Nat.reduceShiftRight, Nat.reduceAnd, Nat.reduceBneDiff]
    all_goals first | done | rfl | exact frzR_closed (by simp only [CLO]) | exact frzR_sub (by simp only [CLO]) (Sub.agg (Subs.cons (Sub.refl _) (Subs.cons (Sub.refl _) (Subs.cons (Sub.refl _) (Subs.cons (Sub.refl _) (Subs.cons (Sub.nilS _) (Subs.cons (Sub.nilS _) (Subs.cons (Sub.refl _) (Subs.cons (Sub.refl _) (Subs.cons (Sub.refl _) (Subs.cons (Sub.refl _) (Subs.cons (Sub.refl _) (Subs.cons (Sub.refl _) (Subs.cons (Sub.refl _) (Subs.nil)))))))))))))))
  · have e2 : (a1.layer < 1) = False := eq_false h1
    rw [if_neg h1] at hm0
    by_cases h3 : (a0.lowers.length : Int) < a1.layer
    · have e4 : ((a0.lowers.length : Int) < a1.layer) = True := eq_true h3
      rw [if_pos h3] at hm0
      simp only [Option.some.injEq] at hm0
      subst hm0
      simp only [e2, e4, Y_ref15_Lower, EV, ↓EVd, isCall, Nat.reduceAdd, Nat.reduceSub, Nat.reduceMul, Nat.reduceEqDiff, Nat.reduceBEq, Nat.reduceLT, Nat.reduceLeDiff, ↓reduceIte, reduceCtorEq, Nat.reduceShiftRight, Nat.reduceAnd, Nat.reduceBneDiff]
      all_goals first | done | rfl | exact frzR_closed (by simp only [CLO]) | exact frzR_sub (by simp only [CLO]) (Sub.agg (Subs.cons (Sub.refl _) (Subs.cons (Sub.refl _) (Subs.cons (Sub.refl _) (Subs.cons (Sub.refl _) (Subs.cons (Sub.nilS _) (Subs.cons (Sub.nilS _) (Subs.cons (Sub.refl _) (Subs.cons (Sub.refl _) (Subs.cons (Sub.refl _) (Subs.cons (Sub.refl _) (Subs.cons (Sub.refl _) (Subs.cons (Sub.refl _) (Subs.cons (Sub.refl _) (Subs.nil)))))))))))))))
    · have e4 : ((a0.lowers.length : Int) < a1.layer) = False := eq_false h3
      rw [if_neg h3] at hm0
      rcases h6 : ix a0.lowers (wr (a1.layer - 1)) with _ | v5
      · rw [h6] at hm0; simp only [Option.bind_none, reduceCtorEq] at hm0
      rw [h6] at hm0; simp only [Option.bind_some] at hm0
      have e7 := eq_true (ix_nonneg h6)
      have e8 := ix_enc encBranch h6
      rcases h10 : m_ref13_At v5 a1.ino with _ | v9
      · rw [h10] at hm0; simp only [Option.bind_none, reduceCtorEq] at hm0
      rw [h10] at hm0; simp only [Option.bind_some] at hm0
      simp only [e2, e4, e7, e8, Y_ref15_Lower, EV, ↓EVd, isCall, Nat.reduceAdd, Nat.reduceSub, Nat.reduceMul, Nat.reduceEqDiff, Nat.reduceBEq, Nat.reduceLT, Nat.reduceLeDiff, ↓reduceIte, reduceCtorEq, Nat.reduceShiftRight, Nat.reduceAnd, Nat.reduceBneDiff]
      refine ⟨_, OpS1_ok (ok_ref13_At _ _ _ h10) rfl (by simp only [CLO]), ?_⟩
      simp only [Option.some.injEq] at hm0
      subst hm0
      simp only [e2, e4, e7, e8, Y_ref15_Lower, EV, ↓EVd, isCall, Nat.reduceAdd, Nat.reduceSub, Nat.reduceMul, Nat.reduceEqDiff, Nat.reduceBEq, Nat.reduceLT, Nat.reduceLeDiff, ↓reduceIte, reduceCtorEq, Nat.reduceShiftRight, Nat.reduceAnd, Nat.reduceBneDiff]
      all_goals first | done | rfl | exact frzR_closed (by simp only [CLO])
def m_ref15_Find (a0 : Stack) (a1 : Origin) : Option (Node × Bool) := (m_ref15_Lower a0 (⟨a1.layer, a1.ino⟩ : Place)).bind fun v2 => if v2.kind = 1 then if v2.gen = a1.gen then some (v2, true)
 else some ((⟨0, 0, 0, 0, [], [], (⟨0, 0, noBytes, (⟨0, 0, 0⟩ : Origin), 0⟩ : Attr)⟩ : Node), false)
 else if v2.kind = 2 then if v2.gen = a1.gen then some (v2, true)
 else some ((⟨0, 0, 0, 0, [], [], (⟨0, 0, noBytes, (⟨0, 0, 0⟩ : Origin), 0⟩ : Attr)⟩ : Node), false)
 else if v2.kind = 3 then if v2.gen = a1.gen then some (v2, true)
 else some ((⟨0, 0, 0, 0, [], [], (⟨0, 0, noBytes, (⟨0, 0, 0⟩ : Origin), 0⟩ : Attr)⟩ : Node), false)
 else some ((⟨0, 0, 0, 0, [], [], (⟨0, 0, noBytes, (⟨0, 0, 0⟩ : Origin), 0⟩ : Attr)⟩ : Node), false)
def Y_ref15_Find := And.intro (And.intro (And.intro ((@R3)) (And.intro ((@R29)) ((@R42)))) (And.intro ((@R46)) (And.intro ((@R130)) ((@DGeo))))) (And.intro (And.intro ((@DBranch)) (And.intro ((@DStack)) ((@DOrigin)))) (And.intro (And.intro ((@DAttr)) ((@DNode))) (And.intro ((@DEntry)) ((@DPlace)))))
set_option maxHeartbeats 2000000 in
theorem ok_ref15_Find (a0 : Stack) (a1 : Origin) (r : Node × Bool) (hm0 : m_ref15_Find a0 a1 = some r) : Ok Try.prog 71 [encStack a0, encOrigin a1] (.tup [encNode r.1, bool r.2]) := by
  unfold m_ref15_Find at hm0
  refine okF fc_ref15_Find (by simp) ?_
  unfold c_ref15_Find
  have e1 : (.agg [int a1.layer, int a1.ino] : AV) = encPlace (⟨a1.layer, a1.ino⟩ : Place) := _root_.id rfl
  rcases h3 : m_ref15_Lower a0 (⟨a1.layer, a1.ino⟩ : Place) with _ | v2
  · rw [h3] at hm0; simp only [Option.bind_none, reduceCtorEq] at hm0
  rw [h3] at hm0; simp only [Option.bind_some] at hm0
  simp only [e1, Y_ref15_Find, EV, ↓EVd, isCall, Nat.reduceAdd, Nat.reduceSub, Nat.reduceMul, Nat.reduceEqDiff, Nat.reduceBEq, Nat.reduceLT, Nat.reduceLeDiff, ↓reduceIte, reduceCtorEq, Nat.reduceShiftRight, Nat.reduceAnd, Nat.reduceBneDiff]
  refine S1_ok (ok_ref15_Lower _ _ _ h3) rfl (by simp only [CLO]) ?_
  by_cases h4 : v2.kind = 1
  · have e5 : (v2.kind = 1) = True := eq_true h4
    rw [if_pos h4] at hm0
    by_cases h6 : v2.gen = a1.gen
    · have e7 : (v2.gen = a1.gen) = True := eq_true h6
      rw [if_pos h6] at hm0
      simp only [Option.some.injEq] at hm0
      subst hm0
      simp only [e1, e5, e7, Y_ref15_Find, EV, ↓EVd, isCall, Nat.reduceAdd, Nat.reduceSub, Nat.reduceMul, Nat.reduceEqDiff, Nat.reduceBEq, Nat.reduceLT, Nat.reduceLeDiff, ↓reduceIte, reduceCtorEq, Nat.reduceShiftRight, Nat.reduceAnd, Nat.reduceBneDiff]
      all_goals first | done | rfl | exact frzR_closed (by simp only [CLO]) | exact frzR_sub (by simp only [CLO]) (Sub.tup (Subs.cons (Sub.refl _) (Subs.cons (Sub.refl _) (Subs.nil))))
    · have e7 : (v2.gen = a1.gen) = False := eq_false h6
      rw [if_neg h6] at hm0
      simp only [Option.some.injEq] at hm0
      subst hm0
      simp only [e1, e5, e7, Y_ref15_Find, EV, ↓EVd, isCall, Nat.reduceAdd, Nat.reduceSub, Nat.reduceMul, Nat.reduceEqDiff, Nat.reduceBEq, Nat.reduceLT, Nat.reduceLeDiff, ↓reduceIte, reduceCtorEq, Nat.reduceShiftRight, Nat.reduceAnd, Nat.reduceBneDiff]
      all_goals first | done | rfl | exact frzR_closed (by simp only [CLO]) | exact frzR_sub (by simp only [CLO]) (Sub.tup (Subs.cons (Sub.agg (Subs.cons (Sub.refl _) (Subs.cons (Sub.refl _) (Subs.cons (Sub.refl _) (Subs.cons (Sub.refl _) (Subs.cons (Sub.nilS _) (Subs.cons (Sub.nilS _) (Subs.cons (Sub.refl _) (Subs.cons (Sub.refl _) (Subs.cons (Sub.refl _) (Subs.cons (Sub.refl _) (Subs.cons (Sub.refl _) (Subs.cons (Sub.refl _) (Subs.cons (Sub.refl _) (Subs.nil))))))))))))))) (Subs.cons (Sub.refl _) (Subs.nil))))
  · have e5 : (v2.kind = 1) = False := eq_false h4
    rw [if_neg h4] at hm0
    by_cases h8 : v2.kind = 2
    · have e9 : (v2.kind = 2) = True := eq_true h8
      rw [if_pos h8] at hm0
      by_cases h10 : v2.gen = a1.gen
      · have e11 : (v2.gen = a1.gen) = True := eq_true h10
        rw [if_pos h10] at hm0
        simp only [Option.some.injEq] at hm0
        subst hm0
        simp only [e1, e5, e9, e11, Y_ref15_Find, EV, ↓EVd, isCall, Nat.reduceAdd, Nat.reduceSub, Nat.reduceMul, Nat.reduceEqDiff, Nat.reduceBEq, Nat.reduceLT, Nat.reduceLeDiff, ↓reduceIte, reduceCtorEq, Nat.reduceShiftRight, Nat.reduceAnd, Nat.reduceBneDiff]
        all_goals first | done | rfl | exact frzR_closed (by simp only [CLO]) | exact frzR_sub (by simp only [CLO]) (Sub.tup (Subs.cons (Sub.refl _) (Subs.cons (Sub.refl _) (Subs.nil))))
      · have e11 : (v2.gen = a1.gen) = False := eq_false h10
        rw [if_neg h10] at hm0
        simp only [Option.some.injEq] at hm0
        subst hm0
        simp only [e1, e5, e9, e11, Y_ref15_Find, EV, ↓EVd, isCall, Nat.reduceAdd, Nat.reduceSub, Nat.reduceMul, Nat.reduceEqDiff, Nat.reduceBEq, Nat.reduceLT, Nat.reduceLeDiff, ↓reduceIte, reduceCtorEq, Nat.reduceShiftRight, Nat.reduceAnd, Nat.reduceBneDiff]
        all_goals first | done | rfl | exact frzR_closed (by simp only [CLO]) | exact frzR_sub (by simp only [CLO]) (Sub.tup (Subs.cons (Sub.agg (Subs.cons (Sub.refl _) (Subs.cons (Sub.refl _) (Subs.cons (Sub.refl _) (Subs.cons (Sub.refl _) (Subs.cons (Sub.nilS _) (Subs.cons (Sub.nilS _) (Subs.cons (Sub.refl _) (Subs.cons (Sub.refl _) (Subs.cons (Sub.refl _) (Subs.cons (Sub.refl _) (Subs.cons (Sub.refl _) (Subs.cons (Sub.refl _) (Subs.cons (Sub.refl _) (Subs.nil))))))))))))))) (Subs.cons (Sub.refl _) (Subs.nil))))
    · have e9 : (v2.kind = 2) = False := eq_false h8
      rw [if_neg h8] at hm0
      by_cases h12 : v2.kind = 3
      · have e13 : (v2.kind = 3) = True := eq_true h12
        rw [if_pos h12] at hm0
        by_cases h14 : v2.gen = a1.gen
        · have e15 : (v2.gen = a1.gen) = True := eq_true h14
          rw [if_pos h14] at hm0
          simp only [Option.some.injEq] at hm0
          subst hm0
          simp only [e1, e5, e9, e13, e15, Y_ref15_Find, EV, ↓EVd, isCall, Nat.reduceAdd, Nat.reduceSub, Nat.reduceMul, Nat.reduceEqDiff, Nat.reduceBEq, Nat.reduceLT, Nat.reduceLeDiff, ↓reduceIte, reduceCtorEq, Nat.reduceShiftRight, Nat.reduceAnd, Nat.reduceBneDiff]
          all_goals first | done | rfl | exact frzR_closed (by simp only [CLO]) | exact frzR_sub (by simp only [CLO]) (Sub.tup (Subs.cons (Sub.refl _) (Subs.cons (Sub.refl _) (Subs.nil))))
        · have e15 : (v2.gen = a1.gen) = False := eq_false h14
          rw [if_neg h14] at hm0
          simp only [Option.some.injEq] at hm0
          subst hm0
          simp only [e1, e5, e9, e13, e15, Y_ref15_Find, EV, ↓EVd, isCall, Nat.reduceAdd, Nat.reduceSub, Nat.reduceMul, Nat.reduceEqDiff, Nat.reduceBEq, Nat.reduceLT, Nat.reduceLeDiff, ↓reduceIte, reduceCtorEq, Nat.reduceShiftRight, Nat.reduceAnd, Nat.reduceBneDiff]
          all_goals first | done | rfl | exact frzR_closed (by simp only [CLO]) | exact frzR_sub (by simp only [CLO]) (Sub.tup (Subs.cons (Sub.agg (Subs.cons (Sub.refl _) (Subs.cons (Sub.refl _) (Subs.cons (Sub.refl _) (Subs.cons (Sub.refl _) (Subs.cons (Sub.nilS _) (Subs.cons (Sub.nilS _) (Subs.cons (Sub.refl _) (Subs.cons (Sub.refl _) (Subs.cons (Sub.refl _) (Subs.cons (Sub.refl _) (Subs.cons (Sub.refl _) (Subs.cons (Sub.refl _) (Subs.cons (Sub.refl _) (Subs.nil))))))))))))))) (Subs.cons (Sub.refl _) (Subs.nil))))
      · have e13 : (v2.kind = 3) = False := eq_false h12
        rw [if_neg h12] at hm0
        simp only [Option.some.injEq] at hm0
        subst hm0
        simp only [e1, e5, e9, e13, Y_ref15_Find, EV, ↓EVd, isCall, Nat.reduceAdd, Nat.reduceSub, Nat.reduceMul, Nat.reduceEqDiff, Nat.reduceBEq, Nat.reduceLT, Nat.reduceLeDiff, ↓reduceIte, reduceCtorEq, Nat.reduceShiftRight, Nat.reduceAnd, Nat.reduceBneDiff]
        all_goals first | done | rfl | exact frzR_closed (by simp only [CLO]) | exact frzR_sub (by simp only [CLO]) (Sub.tup (Subs.cons (Sub.agg (Subs.cons (Sub.refl _) (Subs.cons (Sub.refl _) (Subs.cons (Sub.refl _) (Subs.cons (Sub.refl _) (Subs.cons (Sub.nilS _) (Subs.cons (Sub.nilS _) (Subs.cons (Sub.refl _) (Subs.cons (Sub.refl _) (Subs.cons (Sub.refl _) (Subs.cons (Sub.refl _) (Subs.cons (Sub.refl _) (Subs.cons (Sub.refl _) (Subs.cons (Sub.refl _) (Subs.nil))))))))))))))) (Subs.cons (Sub.refl _) (Subs.nil))))
def m_ref22_Odd (a0 : Node) : Option (Bool) := (m_ref09_Has a0.attr 1).bind fun v1 => if v1 = true then if a0.kind = 1 then if a0.attr.opaque0 = 121 then some false
 else some true
 else some true
 else some false
def Y_ref22_Odd := And.intro (And.intro ((@R3)) (And.intro ((@R44)) ((@R46)))) (And.intro (And.intro ((@DOrigin)) ((@DAttr))) (And.intro ((@DNode)) ((@DEntry))))
set_option maxHeartbeats 2000000 in
theorem ok_ref22_Odd (a0 : Node) (r : Bool) (hm0 : m_ref22_Odd a0 = some r) : Ok Try.prog 29 [encNode a0] (bool r) := by
  unfold m_ref22_Odd at hm0
  refine okF fc_ref22_Odd (by simp) ?_
  unfold c_ref22_Odd
  rcases h2 : m_ref09_Has a0.attr 1 with _ | v1
  · rw [h2] at hm0; simp only [Option.bind_none, reduceCtorEq] at hm0
  rw [h2] at hm0; simp only [Option.bind_some] at hm0
  simp only [Y_ref22_Odd, EV, ↓EVd, isCall, Nat.reduceAdd, Nat.reduceSub, Nat.reduceMul, Nat.reduceEqDiff, Nat.reduceBEq, Nat.reduceLT, Nat.reduceLeDiff, ↓reduceIte, reduceCtorEq, Nat.reduceShiftRight, Nat.reduceAnd, Nat.reduceBneDiff]
  refine S1_ok (ok_ref09_Has _ _ _ h2) rfl (by simp only [CLO]) ?_
  by_cases h3 : v1 = true
  · have e4 : v1 = true := h3
    rw [if_pos h3] at hm0
    by_cases h5 : a0.kind = 1
    · have e6 : (a0.kind = 1) = True := eq_true h5
      rw [if_pos h5] at hm0
      by_cases h7 : a0.attr.opaque0 = 121
      · have e8 : (a0.attr.opaque0 = 121) = True := eq_true h7
        rw [if_pos h7] at hm0
        simp only [Option.some.injEq] at hm0
        subst hm0
        simp only [e4, e6, e8, Y_ref22_Odd, EV, ↓EVd, isCall, Nat.reduceAdd, Nat.reduceSub, Nat.reduceMul, Nat.reduceEqDiff, Nat.reduceBEq, Nat.reduceLT, Nat.reduceLeDiff, ↓reduceIte, reduceCtorEq, Nat.reduceShiftRight, Nat.reduceAnd, Nat.reduceBneDiff]
        all_goals first | done | rfl
      · have e8 : (a0.attr.opaque0 = 121) = False := eq_false h7
        rw [if_neg h7] at hm0
        simp only [Option.some.injEq] at hm0
        subst hm0
        simp only [e4, e6, e8, Y_ref22_Odd, EV, ↓EVd, isCall, Nat.reduceAdd, Nat.reduceSub, Nat.reduceMul, Nat.reduceEqDiff, Nat.reduceBEq, Nat.reduceLT, Nat.reduceLeDiff, ↓reduceIte, reduceCtorEq, Nat.reduceShiftRight, Nat.reduceAnd, Nat.reduceBneDiff]
        all_goals first | done | rfl
    · have e6 : (a0.kind = 1) = False := eq_false h5
      rw [if_neg h5] at hm0
      simp only [Option.some.injEq] at hm0
      subst hm0
      simp only [e4, e6, Y_ref22_Odd, EV, ↓EVd, isCall, Nat.reduceAdd, Nat.reduceSub, Nat.reduceMul, Nat.reduceEqDiff, Nat.reduceBEq, Nat.reduceLT, Nat.reduceLeDiff, ↓reduceIte, reduceCtorEq, Nat.reduceShiftRight, Nat.reduceAnd, Nat.reduceBneDiff]
      all_goals first | done | rfl
  · have e4 : v1 = false := Bool.eq_false_iff.2 h3
    rw [if_neg h3] at hm0
    simp only [Option.some.injEq] at hm0
    subst hm0
    simp only [e4, Y_ref22_Odd, EV, ↓EVd, isCall, Nat.reduceAdd, Nat.reduceSub, Nat.reduceMul, Nat.reduceEqDiff, Nat.reduceBEq, Nat.reduceLT, Nat.reduceLeDiff, ↓reduceIte, reduceCtorEq, Nat.reduceShiftRight, Nat.reduceAnd, Nat.reduceBneDiff]
    all_goals first | done | rfl
def m_ref22_Stale (a0 : Stack) (a1 : Node) : Option (Bool) := (m_ref09_Has a1.attr 4).bind fun v1 => if (!v1) = true then some false
 else (m_ref15_Find a0 a1.attr.origin).bind fun v5 => if a1.kind = 1 then if (!v5.2) = true then some true
 else if v5.1.kind = 1 then some false
 else some true
 else if a1.kind = 2 then if (!v5.2) = true then some true
 else if v5.1.kind = 1 then some true
 else some false
 else if a1.kind = 3 then if (!v5.2) = true then some true
 else if v5.1.kind = 1 then some true
 else some false
 else some true
def Y_ref22_Stale := And.intro (And.intro (And.intro ((@R3)) (And.intro ((@R4)) ((@R29)))) (And.intro ((@R42)) (And.intro ((@R44)) ((@R46))))) (And.intro (And.intro ((@DGeo)) (And.intro ((@DBranch)) ((@DStack)))) (And.intro (And.intro ((@DOrigin)) ((@DAttr))) (And.intro ((@DNode)) ((@DEntry)))))
set_option maxHeartbeats 2000000 in
theorem ok_ref22_Stale (a0 : Stack) (a1 : Node) (r : Bool) (hm0 : m_ref22_Stale a0 a1 = some r) : Ok Try.prog 31 [encStack a0, encNode a1] (bool r) := by
  unfold m_ref22_Stale at hm0
  refine okF fc_ref22_Stale (by simp) ?_
  unfold c_ref22_Stale
  rcases h2 : m_ref09_Has a1.attr 4 with _ | v1
  · rw [h2] at hm0; simp only [Option.bind_none, reduceCtorEq] at hm0
  rw [h2] at hm0; simp only [Option.bind_some] at hm0
  simp only [Y_ref22_Stale, EV, ↓EVd, isCall, Nat.reduceAdd, Nat.reduceSub, Nat.reduceMul, Nat.reduceEqDiff, Nat.reduceBEq, Nat.reduceLT, Nat.reduceLeDiff, ↓reduceIte, reduceCtorEq, Nat.reduceShiftRight, Nat.reduceAnd, Nat.reduceBneDiff]
  refine S1_ok (ok_ref09_Has _ _ _ h2) rfl (by simp only [CLO]) ?_
  by_cases h3 : (!v1) = true
  · have e4 : (!v1) = true := h3
    rw [if_pos h3] at hm0
    simp only [Option.some.injEq] at hm0
    subst hm0
    simp only [e4, Y_ref22_Stale, EV, ↓EVd, isCall, Nat.reduceAdd, Nat.reduceSub, Nat.reduceMul, Nat.reduceEqDiff, Nat.reduceBEq, Nat.reduceLT, Nat.reduceLeDiff, ↓reduceIte, reduceCtorEq, Nat.reduceShiftRight, Nat.reduceAnd, Nat.reduceBneDiff]
    all_goals first | done | rfl
  · have e4 : (!v1) = false := Bool.eq_false_iff.2 h3
    rw [if_neg h3] at hm0
    rcases h6 : m_ref15_Find a0 a1.attr.origin with _ | v5
    · rw [h6] at hm0; simp only [Option.bind_none, reduceCtorEq] at hm0
    rw [h6] at hm0; simp only [Option.bind_some] at hm0
    simp only [e4, Y_ref22_Stale, EV, ↓EVd, isCall, Nat.reduceAdd, Nat.reduceSub, Nat.reduceMul, Nat.reduceEqDiff, Nat.reduceBEq, Nat.reduceLT, Nat.reduceLeDiff, ↓reduceIte, reduceCtorEq, Nat.reduceShiftRight, Nat.reduceAnd, Nat.reduceBneDiff]
    refine S1_ok (ok_ref15_Find _ _ _ h6) rfl (by simp only [CLO]) ?_
    by_cases h7 : a1.kind = 1
    · have e8 : (a1.kind = 1) = True := eq_true h7
      rw [if_pos h7] at hm0
      by_cases h9 : (!v5.2) = true
      · have e10 : (!v5.2) = true := h9
        rw [if_pos h9] at hm0
        simp only [Option.some.injEq] at hm0
        subst hm0
        simp only [e4, e8, e10, Y_ref22_Stale, EV, ↓EVd, isCall, Nat.reduceAdd, Nat.reduceSub, Nat.reduceMul, Nat.reduceEqDiff, Nat.reduceBEq, Nat.reduceLT, Nat.reduceLeDiff, ↓reduceIte, reduceCtorEq, Nat.reduceShiftRight, Nat.reduceAnd, Nat.reduceBneDiff]
        all_goals first | done | rfl
      · have e10 : (!v5.2) = false := Bool.eq_false_iff.2 h9
        rw [if_neg h9] at hm0
        by_cases h11 : v5.1.kind = 1
        · have e12 : (v5.1.kind = 1) = True := eq_true h11
          rw [if_pos h11] at hm0
          simp only [Option.some.injEq] at hm0
          subst hm0
          simp only [e4, e8, e10, e12, Y_ref22_Stale, EV, ↓EVd, isCall, Nat.reduceAdd, Nat.reduceSub, Nat.reduceMul, Nat.reduceEqDiff, Nat.reduceBEq, Nat.reduceLT, Nat.reduceLeDiff, ↓reduceIte, reduceCtorEq, Nat.reduceShiftRight, Nat.reduceAnd, Nat.reduceBneDiff]
          all_goals first | done | rfl
        · have e12 : (v5.1.kind = 1) = False := eq_false h11
          rw [if_neg h11] at hm0
          simp only [Option.some.injEq] at hm0
          subst hm0
          simp only [e4, e8, e10, e12, Y_ref22_Stale, EV, ↓EVd, isCall, Nat.reduceAdd, Nat.reduceSub, Nat.reduceMul, Nat.reduceEqDiff, Nat.reduceBEq, Nat.reduceLT, Nat.reduceLeDiff, ↓reduceIte, reduceCtorEq, Nat.reduceShiftRight, Nat.reduceAnd, Nat.reduceBneDiff]
          all_goals first | done | rfl
    · have e8 : (a1.kind = 1) = False := eq_false h7
      rw [if_neg h7] at hm0
      by_cases h13 : a1.kind = 2
      · have e14 : (a1.kind = 2) = True := eq_true h13
        rw [if_pos h13] at hm0
        by_cases h15 : (!v5.2) = true
        · have e16 : (!v5.2) = true := h15
          rw [if_pos h15] at hm0
          simp only [Option.some.injEq] at hm0
          subst hm0
          simp only [e4, e8, e14, e16, Y_ref22_Stale, EV, ↓EVd, isCall, Nat.reduceAdd, Nat.reduceSub, Nat.reduceMul, Nat.reduceEqDiff, Nat.reduceBEq, Nat.reduceLT, Nat.reduceLeDiff, ↓reduceIte, reduceCtorEq, Nat.reduceShiftRight, Nat.reduceAnd, Nat.reduceBneDiff]
          all_goals first | done | rfl
        · have e16 : (!v5.2) = false := Bool.eq_false_iff.2 h15
          rw [if_neg h15] at hm0
          by_cases h17 : v5.1.kind = 1
          · have e18 : (v5.1.kind = 1) = True := eq_true h17
            rw [if_pos h17] at hm0
            simp only [Option.some.injEq] at hm0
            subst hm0
            simp only [e4, e8, e14, e16, e18, Y_ref22_Stale, EV, ↓EVd, isCall, Nat.reduceAdd, Nat.reduceSub, Nat.reduceMul, Nat.reduceEqDiff, Nat.reduceBEq, Nat.reduceLT, Nat.reduceLeDiff, ↓reduceIte, reduceCtorEq, Nat.reduceShiftRight, Nat.reduceAnd, Nat.reduceBneDiff]
            all_goals first | done | rfl
          · have e18 : (v5.1.kind = 1) = False := eq_false h17
            rw [if_neg h17] at hm0
            simp only [Option.some.injEq] at hm0
            subst hm0
            simp only [e4, e8, e14, e16, e18, Y_ref22_Stale, EV, ↓EVd, isCall, Nat.reduceAdd, Nat.reduceSub, Nat.reduceMul, Nat.reduceEqDiff, Nat.reduceBEq, Nat.reduceLT, Nat.reduceLeDiff, ↓reduceIte, reduceCtorEq, Nat.reduceShiftRight, Nat.reduceAnd, Nat.reduceBneDiff]
            all_goals first | done | rfl
      · have e14 : (a1.kind = 2) = False := eq_false h13
        rw [if_neg h13] at hm0
        by_cases h19 : a1.kind = 3
        · have e20 : (a1.kind = 3) = True := eq_true h19
          rw [if_pos h19] at hm0
          by_cases h21 : (!v5.2) = true
          · have e22 : (!v5.2) = true := h21
            rw [if_pos h21] at hm0
            simp only [Option.some.injEq] at hm0
            subst hm0
            simp only [e4, e8, e14, e20, e22, Y_ref22_Stale, EV, ↓EVd, isCall, Nat.reduceAdd, Nat.reduceSub, Nat.reduceMul, Nat.reduceEqDiff, Nat.reduceBEq, Nat.reduceLT, Nat.reduceLeDiff, ↓reduceIte, reduceCtorEq, Nat.reduceShiftRight, Nat.reduceAnd, Nat.reduceBneDiff]
            all_goals first | done | rfl
          · have e22 : (!v5.2) = false := Bool.eq_false_iff.2 h21
            rw [if_neg h21] at hm0
            by_cases h23 : v5.1.kind = 1
            · have e24 : (v5.1.kind = 1) = True := eq_true h23
              rw [if_pos h23] at hm0
              simp only [Option.some.injEq] at hm0
              subst hm0
              simp only [e4, e8, e14, e20, e22, e24, Y_ref22_Stale, EV, ↓EVd, isCall, Nat.reduceAdd, Nat.reduceSub, Nat.reduceMul, Nat.reduceEqDiff, Nat.reduceBEq, Nat.reduceLT, Nat.reduceLeDiff, ↓reduceIte, reduceCtorEq, Nat.reduceShiftRight, Nat.reduceAnd, Nat.reduceBneDiff]
              all_goals first | done | rfl
            · have e24 : (v5.1.kind = 1) = False := eq_false h23
              rw [if_neg h23] at hm0
              simp only [Option.some.injEq] at hm0
              subst hm0
              simp only [e4, e8, e14, e20, e22, e24, Y_ref22_Stale, EV, ↓EVd, isCall, Nat.reduceAdd, Nat.reduceSub, Nat.reduceMul, Nat.reduceEqDiff, Nat.reduceBEq, Nat.reduceLT, Nat.reduceLeDiff, ↓reduceIte, reduceCtorEq, Nat.reduceShiftRight, Nat.reduceAnd, Nat.reduceBneDiff]
              all_goals first | done | rfl
        · have e20 : (a1.kind = 3) = False := eq_false h19
          rw [if_neg h19] at hm0
          simp only [Option.some.injEq] at hm0
          subst hm0
          simp only [e4, e8, e14, e20, Y_ref22_Stale, EV, ↓EVd, isCall, Nat.reduceAdd, Nat.reduceSub, Nat.reduceMul, Nat.reduceEqDiff, Nat.reduceBEq, Nat.reduceLT, Nat.reduceLeDiff, ↓reduceIte, reduceCtorEq, Nat.reduceShiftRight, Nat.reduceAnd, Nat.reduceBneDiff]
          all_goals first | done | rfl
def m_ref22_Lacks (a0 : Stack) (a1 : Node) : Option (Bool) := (m_ref09_Has a1.attr 16).bind fun v1 => if (!v1) = true then some false
 else (m_ref15_Find a0 a1.attr.origin).bind fun v5 => if a1.kind = 2 then (m_ref09_Has a1.attr 4).bind fun v9 => if (!v9) = true then some true
 else if (!v5.2) = true then some true
 else if v5.1.kind = 2 then some false
 else some true
 else some true
def Y_ref22_Lacks := And.intro (And.intro (And.intro ((@R3)) (And.intro ((@R29)) ((@R42)))) (And.intro ((@R44)) (And.intro ((@R46)) ((@DGeo))))) (And.intro (And.intro ((@DBranch)) (And.intro ((@DStack)) ((@DOrigin)))) (And.intro ((@DAttr)) (And.intro ((@DNode)) ((@DEntry)))))
set_option maxHeartbeats 2000000 in
theorem ok_ref22_Lacks (a0 : Stack) (a1 : Node) (r : Bool) (hm0 : m_ref22_Lacks a0 a1 = some r) : Ok Try.prog 33 [encStack a0, encNode a1] (bool r) := by
  unfold m_ref22_Lacks at hm0
  refine okF fc_ref22_Lacks (by simp) ?_
  unfold c_ref22_Lacks
  rcases h2 : m_ref09_Has a1.attr 16 with _ | v1
  · rw [h2] at hm0; simp only [Option.bind_none, reduceCtorEq] at hm0
  rw [h2] at hm0; simp only [Option.bind_some] at hm0
  simp only [Y_ref22_Lacks, EV, ↓EVd, isCall, Nat.reduceAdd, Nat.reduceSub, Nat.reduceMul, Nat.reduceEqDiff, Nat.reduceBEq, Nat.reduceLT, Nat.reduceLeDiff, ↓reduceIte, reduceCtorEq, Nat.reduceShiftRight, Nat.reduceAnd, Nat.reduceBneDiff]
  refine S1_ok (ok_ref09_Has _ _ _ h2) rfl (by simp only [CLO]) ?_
  by_cases h3 : (!v1) = true
  · have e4 : (!v1) = true := h3
    rw [if_pos h3] at hm0
    simp only [Option.some.injEq] at hm0
    subst hm0
    simp only [e4, Y_ref22_Lacks, EV, ↓EVd, isCall, Nat.reduceAdd, Nat.reduceSub, Nat.reduceMul, Nat.reduceEqDiff, Nat.reduceBEq, Nat.reduceLT, Nat.reduceLeDiff, ↓reduceIte, reduceCtorEq, Nat.reduceShiftRight, Nat.reduceAnd, Nat.reduceBneDiff]
    all_goals first | done | rfl
  · have e4 : (!v1) = false := Bool.eq_false_iff.2 h3
    rw [if_neg h3] at hm0
    rcases h6 : m_ref15_Find a0 a1.attr.origin with _ | v5
    · rw [h6] at hm0; simp only [Option.bind_none, reduceCtorEq] at hm0
    rw [h6] at hm0; simp only [Option.bind_some] at hm0
    simp only [e4, Y_ref22_Lacks, EV, ↓EVd, isCall, Nat.reduceAdd, Nat.reduceSub, Nat.reduceMul, Nat.reduceEqDiff, Nat.reduceBEq, Nat.reduceLT, Nat.reduceLeDiff, ↓reduceIte, reduceCtorEq, Nat.reduceShiftRight, Nat.reduceAnd, Nat.reduceBneDiff]
    refine S1_ok (ok_ref15_Find _ _ _ h6) rfl (by simp only [CLO]) ?_
    by_cases h7 : a1.kind = 2
    · have e8 : (a1.kind = 2) = True := eq_true h7
      rw [if_pos h7] at hm0
      rcases h10 : m_ref09_Has a1.attr 4 with _ | v9
      · rw [h10] at hm0; simp only [Option.bind_none, reduceCtorEq] at hm0
      rw [h10] at hm0; simp only [Option.bind_some] at hm0
      simp only [e4, e8, Y_ref22_Lacks, EV, ↓EVd, isCall, Nat.reduceAdd, Nat.reduceSub, Nat.reduceMul, Nat.reduceEqDiff, Nat.reduceBEq, Nat.reduceLT, Nat.reduceLeDiff, ↓reduceIte, reduceCtorEq, Nat.reduceShiftRight, Nat.reduceAnd, Nat.reduceBneDiff]
      refine S1_ok (ok_ref09_Has _ _ _ h10) rfl (by simp only [CLO]) ?_
      by_cases h11 : (!v9) = true
      · have e12 : (!v9) = true := h11
        rw [if_pos h11] at hm0
        simp only [Option.some.injEq] at hm0
        subst hm0
        simp only [e4, e8, e12, Y_ref22_Lacks, EV, ↓EVd, isCall, Nat.reduceAdd, Nat.reduceSub, Nat.reduceMul, Nat.reduceEqDiff, Nat.reduceBEq, Nat.reduceLT, Nat.reduceLeDiff, ↓reduceIte, reduceCtorEq, Nat.reduceShiftRight, Nat.reduceAnd, Nat.reduceBneDiff]
        all_goals first | done | rfl
      · have e12 : (!v9) = false := Bool.eq_false_iff.2 h11
        rw [if_neg h11] at hm0
        by_cases h13 : (!v5.2) = true
        · have e14 : (!v5.2) = true := h13
          rw [if_pos h13] at hm0
          simp only [Option.some.injEq] at hm0
          subst hm0
          simp only [e4, e8, e12, e14, Y_ref22_Lacks, EV, ↓EVd, isCall, Nat.reduceAdd, Nat.reduceSub, Nat.reduceMul, Nat.reduceEqDiff, Nat.reduceBEq, Nat.reduceLT, Nat.reduceLeDiff, ↓reduceIte, reduceCtorEq, Nat.reduceShiftRight, Nat.reduceAnd, Nat.reduceBneDiff]
          all_goals first | done | rfl
        · have e14 : (!v5.2) = false := Bool.eq_false_iff.2 h13
          rw [if_neg h13] at hm0
          by_cases h15 : v5.1.kind = 2
          · have e16 : (v5.1.kind = 2) = True := eq_true h15
            rw [if_pos h15] at hm0
            simp only [Option.some.injEq] at hm0
            subst hm0
            simp only [e4, e8, e12, e14, e16, Y_ref22_Lacks, EV, ↓EVd, isCall, Nat.reduceAdd, Nat.reduceSub, Nat.reduceMul, Nat.reduceEqDiff, Nat.reduceBEq, Nat.reduceLT, Nat.reduceLeDiff, ↓reduceIte, reduceCtorEq, Nat.reduceShiftRight, Nat.reduceAnd, Nat.reduceBneDiff]
            all_goals first | done | rfl
          · have e16 : (v5.1.kind = 2) = False := eq_false h15
            rw [if_neg h15] at hm0
            simp only [Option.some.injEq] at hm0
            subst hm0
            simp only [e4, e8, e12, e14, e16, Y_ref22_Lacks, EV, ↓EVd, isCall, Nat.reduceAdd, Nat.reduceSub, Nat.reduceMul, Nat.reduceEqDiff, Nat.reduceBEq, Nat.reduceLT, Nat.reduceLeDiff, ↓reduceIte, reduceCtorEq, Nat.reduceShiftRight, Nat.reduceAnd, Nat.reduceBneDiff]
            all_goals first | done | rfl
    · have e8 : (a1.kind = 2) = False := eq_false h7
      rw [if_neg h7] at hm0
      simp only [Option.some.injEq] at hm0
      subst hm0
      simp only [e4, e8, Y_ref22_Lacks, EV, ↓EVd, isCall, Nat.reduceAdd, Nat.reduceSub, Nat.reduceMul, Nat.reduceEqDiff, Nat.reduceBEq, Nat.reduceLT, Nat.reduceLeDiff, ↓reduceIte, reduceCtorEq, Nat.reduceShiftRight, Nat.reduceAnd, Nat.reduceBneDiff]
      all_goals first | done | rfl
def m_ref22_Findings_b1 (a0 : Stack) (v1 : List Bool) (v6 : Int) : (List Finding × Int) → Option (St (List Finding × Int) (List Finding))
 | (v14, v15) => if v15 < (v1.length : Int) then (ix a0.upper.nodes v15).bind fun v21 => if v6 = 8 then (m_ref22_Odd v21).bind fun v27 => if v27 = true then (ix v1 v15).bind fun v31 => if v31 = true then (ap 32 v14 ([(⟨v6, 0, (wr (v15 + 1)), (-1)⟩ : Finding)] : List Finding)).bind fun _ => some (.nx ((v14 ++ ([(⟨v6, 0, (wr (v15 + 1)), (-1)⟩ : Finding)] : List Finding)), (wr (v15 + 1))))
 else some (.nx (v14, (wr (v15 + 1))))
 else if v6 = 13 then (m_ref22_Stale a0 v21).bind fun v44 => if v44 = true then (ix v1 v15).bind fun v48 => if v48 = true then (ap 32 v14 ([(⟨v6, 0, (wr (v15 + 1)), (-1)⟩ : Finding)] : List Finding)).bind fun _ => some (.nx ((v14 ++ ([(⟨v6, 0, (wr (v15 + 1)), (-1)⟩ : Finding)] : List Finding)), (wr (v15 + 1))))
 else some (.nx (v14, (wr (v15 + 1))))
 else if v6 = 14 then (m_ref22_Lacks a0 v21).bind fun v61 => (ix v1 v15).bind fun v63 => if v63 = true then if v61 = true then (ap 32 v14 ([(⟨v6, 0, (wr (v15 + 1)), (-1)⟩ : Finding)] : List Finding)).bind fun _ => some (.nx ((v14 ++ ([(⟨v6, 0, (wr (v15 + 1)), (-1)⟩ : Finding)] : List Finding)), (wr (v15 + 1))))
 else some (.nx (v14, (wr (v15 + 1))))
 else some (.nx (v14, (wr (v15 + 1))))
 else (ix v1 v15).bind fun v76 => if v76 = true then some (.nx (v14, (wr (v15 + 1))))
 else some (.nx (v14, (wr (v15 + 1))))
 else if v6 = 14 then (m_ref22_Lacks a0 v21).bind fun v84 => (ix v1 v15).bind fun v86 => if v86 = true then if v84 = true then (ap 32 v14 ([(⟨v6, 0, (wr (v15 + 1)), (-1)⟩ : Finding)] : List Finding)).bind fun _ => some (.nx ((v14 ++ ([(⟨v6, 0, (wr (v15 + 1)), (-1)⟩ : Finding)] : List Finding)), (wr (v15 + 1))))
 else some (.nx (v14, (wr (v15 + 1))))
 else some (.nx (v14, (wr (v15 + 1))))
 else (ix v1 v15).bind fun v99 => if v99 = true then some (.nx (v14, (wr (v15 + 1))))
 else some (.nx (v14, (wr (v15 + 1))))
 else if v6 = 13 then (m_ref22_Stale a0 v21).bind fun v107 => if v107 = true then (ix v1 v15).bind fun v111 => if v111 = true then (ap 32 v14 ([(⟨v6, 0, (wr (v15 + 1)), (-1)⟩ : Finding)] : List Finding)).bind fun _ => some (.nx ((v14 ++ ([(⟨v6, 0, (wr (v15 + 1)), (-1)⟩ : Finding)] : List Finding)), (wr (v15 + 1))))
 else some (.nx (v14, (wr (v15 + 1))))
 else if v6 = 14 then (m_ref22_Lacks a0 v21).bind fun v124 => (ix v1 v15).bind fun v126 => if v126 = true then if v124 = true then (ap 32 v14 ([(⟨v6, 0, (wr (v15 + 1)), (-1)⟩ : Finding)] : List Finding)).bind fun _ => some (.nx ((v14 ++ ([(⟨v6, 0, (wr (v15 + 1)), (-1)⟩ : Finding)] : List Finding)), (wr (v15 + 1))))
 else some (.nx (v14, (wr (v15 + 1))))
 else some (.nx (v14, (wr (v15 + 1))))
 else (ix v1 v15).bind fun v139 => if v139 = true then some (.nx (v14, (wr (v15 + 1))))
 else some (.nx (v14, (wr (v15 + 1))))
 else if v6 = 14 then (m_ref22_Lacks a0 v21).bind fun v147 => (ix v1 v15).bind fun v149 => if v149 = true then if v147 = true then (ap 32 v14 ([(⟨v6, 0, (wr (v15 + 1)), (-1)⟩ : Finding)] : List Finding)).bind fun _ => some (.nx ((v14 ++ ([(⟨v6, 0, (wr (v15 + 1)), (-1)⟩ : Finding)] : List Finding)), (wr (v15 + 1))))
 else some (.nx (v14, (wr (v15 + 1))))
 else some (.nx (v14, (wr (v15 + 1))))
 else (ix v1 v15).bind fun v162 => if v162 = true then some (.nx (v14, (wr (v15 + 1))))
 else some (.nx (v14, (wr (v15 + 1))))
 else some (.out v14)
def m_ref22_Findings_b0 (a0 : Stack) (v1 : List Bool) : (List Finding × Int) → Option (St (List Finding × Int) (List Finding))
 | (v5, v6) => if v6 ≤ 14 then (iter (m_ref22_Findings_b1 a0 v1 v6) big (v5, 0)).bind fun o => (match o with | v18 => some (.nx (v18, (wr (v6 + 1)))))
 else some (.out v5)
def m_ref22_Findings (a0 : Stack) : Option (List Finding) := (m_ref13_Reach a0.upper ([1] : List Int)).bind fun v1 => (iter (m_ref22_Findings_b0 a0 v1) big (([] : List Finding), 8)).bind fun o => (match o with | v9 => some v9)
def Y_ref22_Findings := And.intro (And.intro (And.intro (And.intro ((@R3)) ((@R4))) (And.intro ((@R24)) ((@R26)))) (And.intro (And.intro ((@R29)) ((@R33))) (And.intro ((@R35)) (And.intro ((@R46)) ((@R63)))))) (And.intro (And.intro (And.intro ((@R72)) ((@DGeo))) (And.intro ((@DBranch)) ((@DStack)))) (And.intro (And.intro ((@DFinding)) ((@DOrigin))) (And.intro ((@DAttr)) (And.intro ((@DNode)) ((@DEntry))))))
set_option maxHeartbeats 2000000 in
theorem ok_ref22_Findings (a0 : Stack) (r : List Finding) (hm0 : m_ref22_Findings a0 = some r) : Ok Try.prog 27 [encStack a0] (.sl 4 (r.map encFinding)) := by
  unfold m_ref22_Findings at hm0
  refine okF fc_ref22_Findings (by simp) ?_
  unfold c_ref22_Findings
  rcases h2 : m_ref13_Reach a0.upper ([1] : List Int) with _ | v1
  · rw [h2] at hm0; simp only [Option.bind_none, reduceCtorEq] at hm0
  rw [h2] at hm0; simp only [Option.bind_some] at hm0
  simp only [Y_ref22_Findings, EV, ↓EVd, isCall, Nat.reduceAdd, Nat.reduceSub, Nat.reduceMul, Nat.reduceEqDiff, Nat.reduceBEq, Nat.reduceLT, Nat.reduceLeDiff, ↓reduceIte, reduceCtorEq, Nat.reduceShiftRight, Nat.reduceAnd, Nat.reduceBneDiff]
  refine S1_okk (ok_ref13_Reach _ _ _ h2) rfl (by simp only [fk_nil, fk_clo, fkK_row, fk_msl, CLO, fkO_some, Y_ref22_Findings, EV, ↓EVd, isCall, Nat.reduceAdd, Nat.reduceSub, Nat.reduceMul, Nat.reduceEqDiff, Nat.reduceBEq, Nat.reduceLT, Nat.reduceLeDiff, ↓reduceIte, reduceCtorEq, Nat.reduceShiftRight, Nat.reduceAnd, Nat.reduceBneDiff]; first | done | rfl) ?_
  rcases ho0 : iter (m_ref22_Findings_b0 a0 v1) big (([] : List Finding), 8) with _ | o0
  · rw [ho0] at hm0; simp only [Option.bind_none, reduceCtorEq] at hm0
  rw [ho0] at hm0; simp only [Option.bind_some] at hm0
  simp only [Y_ref22_Findings, EV, ↓EVd, isCall, Nat.reduceAdd, Nat.reduceSub, Nat.reduceMul, Nat.reduceEqDiff, Nat.reduceBEq, Nat.reduceLT, Nat.reduceLeDiff, ↓reduceIte, reduceCtorEq, Nat.reduceShiftRight, Nat.reduceAnd, Nat.reduceBneDiff]
  obtain ⟨J0_0, hJ0_0⟩ : ∃ J : AS → Prop, J = fun s => ∃ v9 : List Finding, ∃ l8 : Nat, s.T 4 = .msl l8 v9.length ∧ s.H l8 = some (.row 35 4 (v9.map encFinding)) ∧ l8 < s.nx ∧ v9 = o0 := ⟨_, rfl⟩
  refine cwp_cut 0 J0_0 ?_ ?_
  rotate_left
  · clear ho0
    rintro ⟨T0, H0, x7⟩ hs
    rw [hJ0_0] at hs
    obtain ⟨v9, l8, k0_0_0, k0_0_1, k0_0_2, hq⟩ := hs
    subst hq
    try simp only at k0_0_0 k0_0_1 k0_0_2
    try dsimp only at hm0
    have kk0_0 := And.intro (And.intro ((k0_0_0)) (And.intro ((k0_0_1)) ((k0_0_2)))) (And.intro ((ne2 k0_0_2)) (And.intro ((ne2' k0_0_2)) ((lt2 k0_0_2))))
    simp only [Option.some.injEq] at hm0
    subst hm0
    simp only [kk0_0, Y_ref22_Findings, EV, ↓EVd, isCall, Nat.reduceAdd, Nat.reduceSub, Nat.reduceMul, Nat.reduceEqDiff, Nat.reduceBEq, Nat.reduceLT, Nat.reduceLeDiff, ↓reduceIte, reduceCtorEq, Nat.reduceShiftRight, Nat.reduceAnd, Nat.reduceBneDiff]
    all_goals first | done | rfl | exact frzR_msl (T := 35) (by simp only [kk0_0, Y_ref22_Findings, EV, ↓EVd, isCall, Nat.reduceAdd, Nat.reduceSub, Nat.reduceMul, Nat.reduceEqDiff, Nat.reduceBEq, Nat.reduceLT, Nat.reduceLeDiff, ↓reduceIte, reduceCtorEq, Nat.reduceShiftRight, Nat.reduceAnd, Nat.reduceBneDiff]) (by simp only [kk0_0, Y_ref22_Findings, EV, ↓EVd, isCall, Nat.reduceAdd, Nat.reduceSub, Nat.reduceMul, Nat.reduceEqDiff, Nat.reduceBEq, Nat.reduceLT, Nat.reduceLeDiff, ↓reduceIte, reduceCtorEq, Nat.reduceShiftRight, Nat.reduceAnd, Nat.reduceBneDiff]) (by simp only [CLO])
  obtain ⟨I0, hI0⟩ : ∃ I : Nat → AS → Prop, I = fun k s => ∃ v5 : List Finding, ∃ v6 : Int, ∃ l4 : Nat, s.T 1 = .loc 0 6 0 0 ∧ s.T 3 = .sl 1 (v1.map bool) ∧ s.T 4 = .msl l4 v5.length ∧ s.T 5 = int v6 ∧ s.H 0 = some (.row 29 6 [encStack a0]) ∧ s.H l4 = some (.row 35 4 (v5.map encFinding)) ∧ 0 < s.nx ∧ l4 < s.nx ∧ 0 ≠ l4 ∧ iter (m_ref22_Findings_b0 a0 v1) k (v5, v6) = some o0 := ⟨_, rfl⟩
  refine cwp_iter I0 big ?_ ?_ ?_
  · rw [hI0]
    refine TI.here ⟨([] : List Finding), 8, 7, ?_, ?_, ?_, ?_, ?_, ?_, ?_, ?_, ?_, ho0⟩
    all_goals first | omega | (simp only [Y_ref22_Findings, EV, ↓EVd, isCall, Nat.reduceAdd, Nat.reduceSub, Nat.reduceMul, Nat.reduceEqDiff, Nat.reduceBEq, Nat.reduceLT, Nat.reduceLeDiff, ↓reduceIte, reduceCtorEq, Nat.reduceShiftRight, Nat.reduceAnd, Nat.reduceBneDiff]; done) | (simp only [Y_ref22_Findings, EV, ↓EVd, isCall, Nat.reduceAdd, Nat.reduceSub, Nat.reduceMul, Nat.reduceEqDiff, Nat.reduceBEq, Nat.reduceLT, Nat.reduceLeDiff, ↓reduceIte, reduceCtorEq, Nat.reduceShiftRight, Nat.reduceAnd, Nat.reduceBneDiff]; omega) | (simp only [Y_ref22_Findings, EV, ↓EVd, isCall, Nat.reduceAdd, Nat.reduceSub, Nat.reduceMul, Nat.reduceEqDiff, Nat.reduceBEq, Nat.reduceLT, Nat.reduceLeDiff, ↓reduceIte, reduceCtorEq, Nat.reduceShiftRight, Nat.reduceAnd, Nat.reduceBneDiff]; congr 1; omega)
  · rintro s hs
    rw [hI0] at hs
    obtain ⟨_, _, _, _, _, _, _, _, _, _, _, _, hz⟩ := hs
    simp only [iter_zero, reduceCtorEq] at hz
  · clear ho0
    rintro k ⟨T0, H0, x3⟩ hs
    rw [hI0] at hs
    obtain ⟨v5, v6, l4, k0_0, k0_1, k0_2, k0_3, k0_4, k0_5, k0_6, k0_7, k0_8, hm1⟩ := hs
    try simp only at k0_0 k0_1 k0_2 k0_3 k0_4 k0_5 k0_6 k0_7 k0_8
    apply cw_cwp
    rw [iter_succ] at hm1; simp only [m_ref22_Findings_b0] at hm1
    have kk0 := And.intro (And.intro (And.intro (And.intro ((k0_0)) ((k0_1))) (And.intro ((k0_2)) ((k0_3)))) (And.intro (And.intro ((k0_4)) ((k0_5))) (And.intro ((k0_6)) ((ne2 k0_6))))) (And.intro (And.intro (And.intro ((ne2' k0_6)) ((lt2 k0_6))) (And.intro ((k0_7)) ((ne2 k0_7)))) (And.intro (And.intro ((ne2' k0_7)) ((lt2 k0_7))) (And.intro ((k0_8)) ((k0_8.symm)))))
    by_cases h10 : v6 ≤ 14
    · have e11 : (v6 ≤ 14) = True := eq_true h10
      rw [if_pos h10] at hm1
      rcases ho1 : iter (m_ref22_Findings_b1 a0 v1 v6) big (v5, 0) with _ | o1
      · rw [ho1] at hm1; simp only [Option.bind_none, reduceCtorEq] at hm1
      rw [ho1] at hm1; simp only [Option.bind_some] at hm1
      simp only [kk0, e11, Y_ref22_Findings, EV, ↓EVd, isCall, Nat.reduceAdd, Nat.reduceSub, Nat.reduceMul, Nat.reduceEqDiff, Nat.reduceBEq, Nat.reduceLT, Nat.reduceLeDiff, ↓reduceIte, reduceCtorEq, Nat.reduceShiftRight, Nat.reduceAnd, Nat.reduceBneDiff]
      obtain ⟨J1_0, hJ1_0⟩ : ∃ J : AS → Prop, J = fun s => ∃ v18 : List Finding, ∃ l17 : Nat, s.T 1 = .loc 0 6 0 0 ∧ s.T 3 = .sl 1 (v1.map bool) ∧ s.T 4 = .msl l17 v18.length ∧ s.T 5 = int v6 ∧ s.H 0 = some (.row 29 6 [encStack a0]) ∧ s.H l17 = some (.row 35 4 (v18.map encFinding)) ∧ 0 < s.nx ∧ l17 < s.nx ∧ 0 ≠ l17 ∧ v18 = o1 := ⟨_, rfl⟩
      refine cwp_cut 2 J1_0 ?_ ?_
      rotate_left
      · clear ho1
        rintro ⟨T1, H1, x16⟩ hs
        rw [hJ1_0] at hs
        obtain ⟨v18, l17, k1_0_0, k1_0_1, k1_0_2, k1_0_3, k1_0_4, k1_0_5, k1_0_6, k1_0_7, k1_0_8, hq⟩ := hs
        subst hq
        try simp only at k1_0_0 k1_0_1 k1_0_2 k1_0_3 k1_0_4 k1_0_5 k1_0_6 k1_0_7 k1_0_8
        try dsimp only at hm1
        have kk1_0 := And.intro (And.intro (And.intro (And.intro ((k1_0_0)) ((k1_0_1))) (And.intro ((k1_0_2)) ((k1_0_3)))) (And.intro (And.intro ((k1_0_4)) ((k1_0_5))) (And.intro ((k1_0_6)) ((ne2 k1_0_6))))) (And.intro (And.intro (And.intro ((ne2' k1_0_6)) ((lt2 k1_0_6))) (And.intro ((k1_0_7)) ((ne2 k1_0_7)))) (And.intro (And.intro ((ne2' k1_0_7)) ((lt2 k1_0_7))) (And.intro ((k1_0_8)) ((k1_0_8.symm)))))
        try simp only [Option.bind_some] at hm1
        simp only [kk1_0, e11, Y_ref22_Findings, EV, ↓EVd, isCall, Nat.reduceAdd, Nat.reduceSub, Nat.reduceMul, Nat.reduceEqDiff, Nat.reduceBEq, Nat.reduceLT, Nat.reduceLeDiff, ↓reduceIte, reduceCtorEq, Nat.reduceShiftRight, Nat.reduceAnd, Nat.reduceBneDiff]
        rw [hI0]
        refine TI.here ⟨v18, (wr (v6 + 1)), l17, ?_, ?_, ?_, ?_, ?_, ?_, ?_, ?_, ?_, hm1⟩
        all_goals first | omega | (simp only [kk1_0, e11, Y_ref22_Findings, EV, ↓EVd, isCall, Nat.reduceAdd, Nat.reduceSub, Nat.reduceMul, Nat.reduceEqDiff, Nat.reduceBEq, Nat.reduceLT, Nat.reduceLeDiff, ↓reduceIte, reduceCtorEq, Nat.reduceShiftRight, Nat.reduceAnd, Nat.reduceBneDiff]; done) | (simp only [kk1_0, e11, Y_ref22_Findings, EV, ↓EVd, isCall, Nat.reduceAdd, Nat.reduceSub, Nat.reduceMul, Nat.reduceEqDiff, Nat.reduceBEq, Nat.reduceLT, Nat.reduceLeDiff, ↓reduceIte, reduceCtorEq, Nat.reduceShiftRight, Nat.reduceAnd, Nat.reduceBneDiff]; omega) | (simp only [kk1_0, e11, Y_ref22_Findings, EV, ↓EVd, isCall, Nat.reduceAdd, Nat.reduceSub, Nat.reduceMul, Nat.reduceEqDiff, Nat.reduceBEq, Nat.reduceLT, Nat.reduceLeDiff, ↓reduceIte, reduceCtorEq, Nat.reduceShiftRight, Nat.reduceAnd, Nat.reduceBneDiff]; congr 1; omega)
      obtain ⟨I1, hI1⟩ : ∃ I : Nat → AS → Prop, I = fun k s => ∃ v14 : List Finding, ∃ v15 : Int, ∃ l13 : Nat, s.T 1 = .loc 0 6 0 0 ∧ s.T 3 = .sl 1 (v1.map bool) ∧ s.T 4 = .msl l13 v14.length ∧ s.T 5 = int v6 ∧ s.T 6 = int v15 ∧ s.H 0 = some (.row 29 6 [encStack a0]) ∧ s.H l13 = some (.row 35 4 (v14.map encFinding)) ∧ 0 < s.nx ∧ l13 < s.nx ∧ 0 ≠ l13 ∧ iter (m_ref22_Findings_b1 a0 v1 v6) k (v14, v15) = some o1 := ⟨_, rfl⟩
      refine cwp_iter I1 big ?_ ?_ ?_
      · rw [hI1]
        refine TI.here ⟨v5, 0, l4, ?_, ?_, ?_, ?_, ?_, ?_, ?_, ?_, ?_, ?_, ho1⟩
        all_goals first | omega | (simp only [kk0, e11, Y_ref22_Findings, EV, ↓EVd, isCall, Nat.reduceAdd, Nat.reduceSub, Nat.reduceMul, Nat.reduceEqDiff, Nat.reduceBEq, Nat.reduceLT, Nat.reduceLeDiff, ↓reduceIte, reduceCtorEq, Nat.reduceShiftRight, Nat.reduceAnd, Nat.reduceBneDiff]; done) | (simp only [kk0, e11, Y_ref22_Findings, EV, ↓EVd, isCall, Nat.reduceAdd, Nat.reduceSub, Nat.reduceMul, Nat.reduceEqDiff, Nat.reduceBEq, Nat.reduceLT, Nat.reduceLeDiff, ↓reduceIte, reduceCtorEq, Nat.reduceShiftRight, Nat.reduceAnd, Nat.reduceBneDiff]; omega) | (simp only [kk0, e11, Y_ref22_Findings, EV, ↓EVd, isCall, Nat.reduceAdd, Nat.reduceSub, Nat.reduceMul, Nat.reduceEqDiff, Nat.reduceBEq, Nat.reduceLT, Nat.reduceLeDiff, ↓reduceIte, reduceCtorEq, Nat.reduceShiftRight, Nat.reduceAnd, Nat.reduceBneDiff]; congr 1; omega)
      · rintro s hs
        rw [hI1] at hs
        obtain ⟨_, _, _, _, _, _, _, _, _, _, _, _, _, hz⟩ := hs
        simp only [iter_zero, reduceCtorEq] at hz
      · clear ho1
        rintro k ⟨T1, H1, x12⟩ hs
        rw [hI1] at hs
        obtain ⟨v14, v15, l13, k1_0, k1_1, k1_2, k1_3, k1_4, k1_5, k1_6, k1_7, k1_8, k1_9, hm2⟩ := hs
        try simp only at k1_0 k1_1 k1_2 k1_3 k1_4 k1_5 k1_6 k1_7 k1_8 k1_9
        apply cw_cwp
        rw [iter_succ] at hm2; simp only [m_ref22_Findings_b1] at hm2
        have kk1 := And.intro (And.intro (And.intro (And.intro ((k1_0)) ((k1_1))) (And.intro ((k1_2)) ((k1_3)))) (And.intro (And.intro ((k1_4)) ((k1_5))) (And.intro ((k1_6)) ((k1_7))))) (And.intro (And.intro (And.intro ((ne2 k1_7)) ((ne2' k1_7))) (And.intro ((lt2 k1_7)) ((k1_8)))) (And.intro (And.intro ((ne2 k1_8)) ((ne2' k1_8))) (And.intro ((lt2 k1_8)) (And.intro ((k1_9)) ((k1_9.symm))))))
        by_cases h19 : v15 < (v1.length : Int)
        · have e20 : (v15 < (v1.length : Int)) = True := eq_true h19
          rw [if_pos h19] at hm2
          rcases h22 : ix a0.upper.nodes v15 with _ | v21
          · rw [h22] at hm2; simp only [Option.bind_none, reduceCtorEq] at hm2
          rw [h22] at hm2; simp only [Option.bind_some] at hm2
          have e23 := eq_true (ix_nonneg h22)
          have e24 := ix_enc encNode h22
          by_cases h25 : v6 = 8
          · have e26 : (v6 = 8) = True := eq_true h25
            rw [if_pos h25] at hm2
            rcases h28 : m_ref22_Odd v21 with _ | v27
            · rw [h28] at hm2; simp only [Option.bind_none, reduceCtorEq] at hm2
            rw [h28] at hm2; simp only [Option.bind_some] at hm2
            simp only [kk1, e11, e20, e23, e24, e26, Y_ref22_Findings, EV, ↓EVd, isCall, Nat.reduceAdd, Nat.reduceSub, Nat.reduceMul, Nat.reduceEqDiff, Nat.reduceBEq, Nat.reduceLT, Nat.reduceLeDiff, ↓reduceIte, reduceCtorEq, Nat.reduceShiftRight, Nat.reduceAnd, Nat.reduceBneDiff]
            refine S1_ok (ok_ref22_Odd _ _ h28) rfl (by simp only [CLO]) ?_
            by_cases h29 : v27 = true
            · have e30 : v27 = true := h29
              rw [if_pos h29] at hm2
              rcases h32 : ix v1 v15 with _ | v31
              · rw [h32] at hm2; simp only [Option.bind_none, reduceCtorEq] at hm2
              rw [h32] at hm2; simp only [Option.bind_some] at hm2
              have e33 := eq_true (ix_nonneg h32)
              have e34 := ix_enc bool h32
              by_cases h35 : v31 = true
              · have e36 : v31 = true := h35
                rw [if_pos h35] at hm2
                have e37 : (.agg [int v6, int 0, int (wr (v15 + 1)), int (-1)] : AV) = encFinding (⟨v6, 0, (wr (v15 + 1)), (-1)⟩ : Finding) := _root_.id rfl
                rcases h39 : ap 32 v14 ([(⟨v6, 0, (wr (v15 + 1)), (-1)⟩ : Finding)] : List Finding) with _ | h39u
                · rw [h39] at hm2; simp only [Option.bind_none, reduceCtorEq] at hm2
                rw [h39] at hm2; simp only [Option.bind_some] at hm2
                have e40 := eq_true (ap_some h39).2.1
                have e41 := eq_true (ap_some h39).2.2
                try simp only [ZL] at e40 e41
                try simp only [Option.bind_some] at hm2
                simp only [kk1, e11, e20, e23, e24, e26, e30, e33, e34, e36, e37, e40, e41, Y_ref22_Findings, EV, ↓EVd, isCall, Nat.reduceAdd, Nat.reduceSub, Nat.reduceMul, Nat.reduceEqDiff, Nat.reduceBEq, Nat.reduceLT, Nat.reduceLeDiff, ↓reduceIte, reduceCtorEq, Nat.reduceShiftRight, Nat.reduceAnd, Nat.reduceBneDiff]
                rw [hI1]
                refine TI.here ⟨(v14 ++ ([(⟨v6, 0, (wr (v15 + 1)), (-1)⟩ : Finding)] : List Finding)), (wr (v15 + 1)), (x12 + 50), ?_, ?_, ?_, ?_, ?_, ?_, ?_, ?_, ?_, ?_, hm2⟩
                all_goals first | omega | (simp only [kk1, e11, e20, e23, e24, e26, e30, e33, e34, e36, e37, e40, e41, Y_ref22_Findings, EV, ↓EVd, isCall, Nat.reduceAdd, Nat.reduceSub, Nat.reduceMul, Nat.reduceEqDiff, Nat.reduceBEq, Nat.reduceLT, Nat.reduceLeDiff, ↓reduceIte, reduceCtorEq, Nat.reduceShiftRight, Nat.reduceAnd, Nat.reduceBneDiff]; done) | (simp only [kk1, e11, e20, e23, e24, e26, e30, e33, e34, e36, e37, e40, e41, Y_ref22_Findings, EV, ↓EVd, isCall, Nat.reduceAdd, Nat.reduceSub, Nat.reduceMul, Nat.reduceEqDiff, Nat.reduceBEq, Nat.reduceLT, Nat.reduceLeDiff, ↓reduceIte, reduceCtorEq, Nat.reduceShiftRight, Nat.reduceAnd, Nat.reduceBneDiff]; omega) | (simp only [kk1, e11, e20, e23, e24, e26, e30, e33, e34, e36, e37, e40, e41, Y_ref22_Findings, EV, ↓EVd, isCall, Nat.reduceAdd, Nat.reduceSub, Nat.reduceMul, Nat.reduceEqDiff, Nat.reduceBEq, Nat.reduceLT, Nat.reduceLeDiff, ↓reduceIte, reduceCtorEq, Nat.reduceShiftRight, Nat.reduceAnd, Nat.reduceBneDiff]; congr 1; omega)
              · have e36 : v31 = false := Bool.eq_false_iff.2 h35
                rw [if_neg h35] at hm2
                try simp only [Option.bind_some] at hm2
                simp only [kk1, e11, e20, e23, e24, e26, e30, e33, e34, e36, Y_ref22_Findings, EV, ↓EVd, isCall, Nat.reduceAdd, Nat.reduceSub, Nat.reduceMul, Nat.reduceEqDiff, Nat.reduceBEq, Nat.reduceLT, Nat.reduceLeDiff, ↓reduceIte, reduceCtorEq, Nat.reduceShiftRight, Nat.reduceAnd, Nat.reduceBneDiff]
                rw [hI1]
                refine TI.here ⟨v14, (wr (v15 + 1)), l13, ?_, ?_, ?_, ?_, ?_, ?_, ?_, ?_, ?_, ?_, hm2⟩
                all_goals first | omega | (simp only [kk1, e11, e20, e23, e24, e26, e30, e33, e34, e36, Y_ref22_Findings, EV, ↓EVd, isCall, Nat.reduceAdd, Nat.reduceSub, Nat.reduceMul, Nat.reduceEqDiff, Nat.reduceBEq, Nat.reduceLT, Nat.reduceLeDiff, ↓reduceIte, reduceCtorEq, Nat.reduceShiftRight, Nat.reduceAnd, Nat.reduceBneDiff]; done) | (simp only [kk1, e11, e20, e23, e24, e26, e30, e33, e34, e36, Y_ref22_Findings, EV, ↓EVd, isCall, Nat.reduceAdd, Nat.reduceSub, Nat.reduceMul, Nat.reduceEqDiff, Nat.reduceBEq, Nat.reduceLT, Nat.reduceLeDiff, ↓reduceIte, reduceCtorEq, Nat.reduceShiftRight, Nat.reduceAnd, Nat.reduceBneDiff]; omega) | (simp only [kk1, e11, e20, e23, e24, e26, e30, e33, e34, e36, Y_ref22_Findings, EV, ↓EVd, isCall, Nat.reduceAdd, Nat.reduceSub, Nat.reduceMul, Nat.reduceEqDiff, Nat.reduceBEq, Nat.reduceLT, Nat.reduceLeDiff, ↓reduceIte, reduceCtorEq, Nat.reduceShiftRight, Nat.reduceAnd, Nat.reduceBneDiff]; congr 1; omega)
            · have e30 : v27 = false := Bool.eq_false_iff.2 h29
              rw [if_neg h29] at hm2
              by_cases h42 : v6 = 13
              · have e43 : (v6 = 13) = True := eq_true h42
                rw [if_pos h42] at hm2
                rcases h45 : m_ref22_Stale a0 v21 with _ | v44
                · rw [h45] at hm2; simp only [Option.bind_none, reduceCtorEq] at hm2
                rw [h45] at hm2; simp only [Option.bind_some] at hm2
                simp only [kk1, e11, e20, e23, e24, e26, e30, e43, Y_ref22_Findings, EV, ↓EVd, isCall, Nat.reduceAdd, Nat.reduceSub, Nat.reduceMul, Nat.reduceEqDiff, Nat.reduceBEq, Nat.reduceLT, Nat.reduceLeDiff, ↓reduceIte, reduceCtorEq, Nat.reduceShiftRight, Nat.reduceAnd, Nat.reduceBneDiff]
                refine S1_ok (ok_ref22_Stale _ _ _ h45) rfl (by simp only [CLO]) ?_
                by_cases h46 : v44 = true
                · have e47 : v44 = true := h46
                  rw [if_pos h46] at hm2
                  rcases h49 : ix v1 v15 with _ | v48
                  · rw [h49] at hm2; simp only [Option.bind_none, reduceCtorEq] at hm2
                  rw [h49] at hm2; simp only [Option.bind_some] at hm2
                  have e50 := eq_true (ix_nonneg h49)
                  have e51 := ix_enc bool h49
                  by_cases h52 : v48 = true
                  · have e53 : v48 = true := h52
                    rw [if_pos h52] at hm2
                    have e54 : (.agg [int v6, int 0, int (wr (v15 + 1)), int (-1)] : AV) = encFinding (⟨v6, 0, (wr (v15 + 1)), (-1)⟩ : Finding) := _root_.id rfl
                    rcases h56 : ap 32 v14 ([(⟨v6, 0, (wr (v15 + 1)), (-1)⟩ : Finding)] : List Finding) with _ | h56u
                    · rw [h56] at hm2; simp only [Option.bind_none, reduceCtorEq] at hm2
                    rw [h56] at hm2; simp only [Option.bind_some] at hm2
                    have e57 := eq_true (ap_some h56).2.1
                    have e58 := eq_true (ap_some h56).2.2
                    try simp only [ZL] at e57 e58
                    try simp only [Option.bind_some] at hm2
                    simp only [kk1, e11, e20, e23, e24, e26, e30, e43, e47, e50, e51, e53, e54, e57, e58, Y_ref22_Findings, EV, ↓EVd, isCall, Nat.reduceAdd, Nat.reduceSub, Nat.reduceMul, Nat.reduceEqDiff, Nat.reduceBEq, Nat.reduceLT, Nat.reduceLeDiff, ↓reduceIte, reduceCtorEq, Nat.reduceShiftRight, Nat.reduceAnd, Nat.reduceBneDiff]
                    rw [hI1]
                    refine TI.here ⟨(v14 ++ ([(⟨v6, 0, (wr (v15 + 1)), (-1)⟩ : Finding)] : List Finding)), (wr (v15 + 1)), (x12 + 50), ?_, ?_, ?_, ?_, ?_, ?_, ?_, ?_, ?_, ?_, hm2⟩
                    all_goals first | omega | (simp only [kk1, e11, e20, e23, e24, e26, e30, e43, e47, e50, e51, e53, e54, e57, e58, Y_ref22_Findings, EV, ↓EVd, isCall, Nat.reduceAdd, Nat.reduceSub, Nat.reduceMul, Nat.reduceEqDiff, Nat.reduceBEq, Nat.reduceLT, Nat.reduceLeDiff, ↓reduceIte, reduceCtorEq, Nat.reduceShiftRight, Nat.reduceAnd, Nat.reduceBneDiff]; done) | (simp only [kk1, e11, e20, e23, e24, e26, e30, e43, e47, e50, e51, e53, e54, e57, e58, Y_ref22_Findings, EV, ↓EVd, isCall, Nat.reduceAdd, Nat.reduceSub, Nat.reduceMul, Nat.reduceEqDiff, Nat.reduceBEq, Nat.reduceLT, Nat.reduceLeDiff, ↓reduceIte, reduceCtorEq, Nat.reduceShiftRight, Nat.reduceAnd, Nat.reduceBneDiff]; omega) | (simp only [kk1, e11, e20, e23, e24, e26, e30, e43, e47, e50, e51, e53, e54, e57, e58, Y_ref22_Findings, EV, ↓EVd, isCall, Nat.reduceAdd, Nat.reduceSub, Nat.reduceMul, Nat.reduceEqDiff, Nat.reduceBEq, Nat.reduceLT, Nat.reduceLeDiff, ↓reduceIte, reduceCtorEq, Nat.reduceShiftRight, Nat.reduceAnd, Nat.reduceBneDiff]; congr 1; omega)
                  · have e53 : v48 = false := Bool.eq_false_iff.2 h52
                    rw [if_neg h52] at hm2
                    try simp only [Option.bind_some] at hm2
                    simp only [kk1, e11, e20, e23, e24, e26, e30, e43, e47, e50, e51, e53, Y_ref22_Findings, EV, ↓EVd, isCall, Nat.reduceAdd, Nat.reduceSub, Nat.reduceMul, Nat.reduceEqDiff, Nat.reduceBEq, Nat.reduceLT, Nat.reduceLeDiff, ↓reduceIte, reduceCtorEq, Nat.reduceShiftRight, Nat.reduceAnd, Nat.reduceBneDiff]
                    rw [hI1]
                    refine TI.here ⟨v14, (wr (v15 + 1)), l13, ?_, ?_, ?_, ?_, ?_, ?_, ?_, ?_, ?_, ?_, hm2⟩
                    all_goals first | omega | (simp only [kk1, e11, e20, e23, e24, e26, e30, e43, e47, e50, e51, e53, Y_ref22_Findings, EV, ↓EVd, isCall, Nat.reduceAdd, Nat.reduceSub, Nat.reduceMul, Nat.reduceEqDiff, Nat.reduceBEq, Nat.reduceLT, Nat.reduceLeDiff, ↓reduceIte, reduceCtorEq, Nat.reduceShiftRight, Nat.reduceAnd, Nat.reduceBneDiff]; done) | (simp only [kk1, e11, e20, e23, e24, e26, e30, e43, e47, e50, e51, e53, Y_ref22_Findings, EV, ↓EVd, isCall, Nat.reduceAdd, Nat.reduceSub, Nat.reduceMul, Nat.reduceEqDiff, Nat.reduceBEq, Nat.reduceLT, Nat.reduceLeDiff, ↓reduceIte, reduceCtorEq, Nat.reduceShiftRight, Nat.reduceAnd, Nat.reduceBneDiff]; omega) | (simp only [kk1, e11, e20, e23, e24, e26, e30, e43, e47, e50, e51, e53, Y_ref22_Findings, EV, ↓EVd, isCall, Nat.reduceAdd, Nat.reduceSub, Nat.reduceMul, Nat.reduceEqDiff, Nat.reduceBEq, Nat.reduceLT, Nat.reduceLeDiff, ↓reduceIte, reduceCtorEq, Nat.reduceShiftRight, Nat.reduceAnd, Nat.reduceBneDiff]; congr 1; omega)
                · have e47 : v44 = false := Bool.eq_false_iff.2 h46
                  rw [if_neg h46] at hm2
                  by_cases h59 : v6 = 14
                  · have e60 : (v6 = 14) = True := eq_true h59
                    rw [if_pos h59] at hm2
                    rcases h62 : m_ref22_Lacks a0 v21 with _ | v61
                    · rw [h62] at hm2; simp only [Option.bind_none, reduceCtorEq] at hm2
                    rw [h62] at hm2; simp only [Option.bind_some] at hm2
                    simp only [kk1, e11, e20, e23, e24, e26, e30, e43, e47, e60, Y_ref22_Findings, EV, ↓EVd, isCall, Nat.reduceAdd, Nat.reduceSub, Nat.reduceMul, Nat.reduceEqDiff, Nat.reduceBEq, Nat.reduceLT, Nat.reduceLeDiff, ↓reduceIte, reduceCtorEq, Nat.reduceShiftRight, Nat.reduceAnd, Nat.reduceBneDiff]
                    refine S1_ok (ok_ref22_Lacks _ _ _ h62) rfl (by simp only [CLO]) ?_
                    rcases h64 : ix v1 v15 with _ | v63
                    · rw [h64] at hm2; simp only [Option.bind_none, reduceCtorEq] at hm2
                    rw [h64] at hm2; simp only [Option.bind_some] at hm2
                    have e65 := eq_true (ix_nonneg h64)
                    have e66 := ix_enc bool h64
                    by_cases h67 : v63 = true
                    · have e68 : v63 = true := h67
                      rw [if_pos h67] at hm2
                      by_cases h69 : v61 = true
                      · have e70 : v61 = true := h69
                        rw [if_pos h69] at hm2
                        have e71 : (.agg [int v6, int 0, int (wr (v15 + 1)), int (-1)] : AV) = encFinding (⟨v6, 0, (wr (v15 + 1)), (-1)⟩ : Finding) := _root_.id rfl
                        rcases h73 : ap 32 v14 ([(⟨v6, 0, (wr (v15 + 1)), (-1)⟩ : Finding)] : List Finding) with _ | h73u
                        · rw [h73] at hm2; simp only [Option.bind_none, reduceCtorEq] at hm2
                        rw [h73] at hm2; simp only [Option.bind_some] at hm2
                        have e74 := eq_true (ap_some h73).2.1
                        have e75 := eq_true (ap_some h73).2.2
                        try simp only [ZL] at e74 e75
                        try simp only [Option.bind_some] at hm2
                        simp only [kk1, e11, e20, e23, e24, e26, e30, e43, e47, e60, e65, e66, e68, e70, e71, e74, e75, Y_ref22_Findings, EV, ↓EVd, isCall, Nat.reduceAdd, Nat.reduceSub, Nat.reduceMul, Nat.reduceEqDiff, Nat.reduceBEq, Nat.reduceLT, Nat.reduceLeDiff, ↓reduceIte, reduceCtorEq, Nat.reduceShiftRight, Nat.reduceAnd, Nat.reduceBneDiff]
                        rw [hI1]
                        refine TI.here ⟨(v14 ++ ([(⟨v6, 0, (wr (v15 + 1)), (-1)⟩ : Finding)] : List Finding)), (wr (v15 + 1)), (x12 + 50), ?_, ?_, ?_, ?_, ?_, ?_, ?_, ?_, ?_, ?_, hm2⟩
                        all_goals first | omega | (simp only [kk1, e11, e20, e23, e24, e26, e30, e43, e47, e60, e65, e66, e68, e70, e71, e74, e75, Y_ref22_Findings, EV, ↓EVd, isCall, Nat.reduceAdd, Nat.reduceSub, Nat.reduceMul, Nat.reduceEqDiff, Nat.reduceBEq, Nat.reduceLT, Nat.reduceLeDiff, ↓reduceIte, reduceCtorEq, Nat.reduceShiftRight, Nat.reduceAnd, Nat.reduceBneDiff]; done) | (simp only [kk1, e11, e20, e23, e24, e26, e30, e43, e47, e60, e65, e66, e68, e70, e71, e74, e75, Y_ref22_Findings, EV, ↓EVd, isCall, Nat.reduceAdd, Nat.reduceSub, Nat.reduceMul, Nat.reduceEqDiff, Nat.reduceBEq, Nat.reduceLT, Nat.reduceLeDiff, ↓reduceIte, reduceCtorEq, Nat.reduceShiftRight, Nat.reduceAnd, Nat.reduceBneDiff]; omega) | (simp only [kk1, e11, e20, e23, e24, e26, e30, e43, e47, e60, e65, e66, e68, e70, e71, e74, e75, Y_ref22_Findings, EV, ↓EVd, isCall, Nat.reduceAdd, Nat.reduceSub, Nat.reduceMul, Nat.reduceEqDiff, Nat.reduceBEq, Nat.reduceLT, Nat.reduceLeDiff, ↓reduceIte, reduceCtorEq, Nat.reduceShiftRight, Nat.reduceAnd, Nat.reduceBneDiff]; congr 1; omega)
                      · have e70 : v61 = false := Bool.eq_false_iff.2 h69
                        rw [if_neg h69] at hm2
                        try simp only [Option.bind_some] at hm2
                        simp only [kk1, e11, e20, e23, e24, e26, e30, e43, e47, e60, e65, e66, e68, e70, Y_ref22_Findings, EV, ↓EVd, isCall, Nat.reduceAdd, Nat.reduceSub, Nat.reduceMul, Nat.reduceEqDiff, Nat.reduceBEq, Nat.reduceLT, Nat.reduceLeDiff, ↓reduceIte, reduceCtorEq, Nat.reduceShiftRight, Nat.reduceAnd, Nat.reduceBneDiff]
                        rw [hI1]
                        refine TI.here ⟨v14, (wr (v15 + 1)), l13, ?_, ?_, ?_, ?_, ?_, ?_, ?_, ?_, ?_, ?_, hm2⟩
                        all_goals first | omega | (simp only [kk1, e11, e20, e23, e24, e26, e30, e43, e47, e60, e65, e66, e68, e70, Y_ref22_Findings, EV, ↓EVd, isCall, Nat.reduceAdd, Nat.reduceSub, Nat.reduceMul, Nat.reduceEqDiff, Nat.reduceBEq, Nat.reduceLT, Nat.reduceLeDiff, ↓reduceIte, reduceCtorEq, Nat.reduceShiftRight, Nat.reduceAnd, Nat.reduceBneDiff]; done) | (simp only [kk1, e11, e20, e23, e24, e26, e30, e43, e47, e60, e65, e66, e68, e70, Y_ref22_Findings, EV, ↓EVd, isCall, Nat.reduceAdd, Nat.reduceSub, Nat.reduceMul, Nat.reduceEqDiff, Nat.reduceBEq, Nat.reduceLT, Nat.reduceLeDiff, ↓reduceIte, reduceCtorEq, Nat.reduceShiftRight, Nat.reduceAnd, Nat.reduceBneDiff]; omega) | (simp only [kk1, e11, e20, e23, e24, e26, e30, e43, e47, e60, e65, e66, e68, e70, Y_ref22_Findings, EV, ↓EVd, isCall, Nat.reduceAdd, Nat.reduceSub, Nat.reduceMul, Nat.reduceEqDiff, Nat.reduceBEq, Nat.reduceLT, Nat.reduceLeDiff, ↓reduceIte, reduceCtorEq, Nat.reduceShiftRight, Nat.reduceAnd, Nat.reduceBneDiff]; congr 1; omega)
                    · have e68 : v63 = false := Bool.eq_false_iff.2 h67
                      rw [if_neg h67] at hm2
                      try simp only [Option.bind_some] at hm2
                      simp only [kk1, e11, e20, e23, e24, e26, e30, e43, e47, e60, e65, e66, e68, Y_ref22_Findings, EV, ↓EVd, isCall, Nat.reduceAdd, Nat.reduceSub, Nat.reduceMul, Nat.reduceEqDiff, Nat.reduceBEq, Nat.reduceLT, Nat.reduceLeDiff, ↓reduceIte, reduceCtorEq, Nat.reduceShiftRight, Nat.reduceAnd, Nat.reduceBneDiff]
                      rw [hI1]
                      refine TI.here ⟨v14, (wr (v15 + 1)), l13, ?_, ?_, ?_, ?_, ?_, ?_, ?_, ?_, ?_, ?_, hm2⟩
                      all_goals first | omega | (simp only [kk1, e11, e20, e23, e24, e26, e30, e43, e47, e60, e65, e66, e68, Y_ref22_Findings, EV, ↓EVd, isCall, Nat.reduceAdd, Nat.reduceSub, Nat.reduceMul, Nat.reduceEqDiff, Nat.reduceBEq, Nat.reduceLT, Nat.reduceLeDiff, ↓reduceIte, reduceCtorEq, Nat.reduceShiftRight, Nat.reduceAnd, Nat.reduceBneDiff]; done) | (simp only [kk1, e11, e20, e23, e24, e26, e30, e43, e47, e60, e65, e66, e68, Y_ref22_Findings, EV, ↓EVd, isCall, Nat.reduceAdd, Nat.reduceSub, Nat.reduceMul, Nat.reduceEqDiff, Nat.reduceBEq, Nat.reduceLT, Nat.reduceLeDiff, ↓reduceIte, reduceCtorEq, Nat.reduceShiftRight, Nat.reduceAnd, Nat.reduceBneDiff]; omega) | (simp only [kk1, e11, e20, e23, e24, e26, e30, e43, e47, e60, e65, e66, e68, Y_ref22_Findings, EV, ↓EVd, isCall, Nat.reduceAdd, Nat.reduceSub, Nat.reduceMul, Nat.reduceEqDiff, Nat.reduceBEq, Nat.reduceLT, Nat.reduceLeDiff, ↓reduceIte, reduceCtorEq, Nat.reduceShiftRight, Nat.reduceAnd, Nat.reduceBneDiff]; congr 1; omega)
                  · have e60 : (v6 = 14) = False := eq_false h59
                    rw [if_neg h59] at hm2
                    rcases h77 : ix v1 v15 with _ | v76
                    · rw [h77] at hm2; simp only [Option.bind_none, reduceCtorEq] at hm2
                    rw [h77] at hm2; simp only [Option.bind_some] at hm2
                    have e78 := eq_true (ix_nonneg h77)
                    have e79 := ix_enc bool h77
                    by_cases h80 : v76 = true
                    · have e81 : v76 = true := h80
                      rw [if_pos h80] at hm2
                      try simp only [Option.bind_some] at hm2
                      simp only [kk1, e11, e20, e23, e24, e26, e30, e43, e47, e60, e78, e79, e81, Y_ref22_Findings, EV, ↓EVd, isCall, Nat.reduceAdd, Nat.reduceSub, Nat.reduceMul, Nat.reduceEqDiff, Nat.reduceBEq, Nat.reduceLT, Nat.reduceLeDiff, ↓reduceIte, reduceCtorEq, Nat.reduceShiftRight, Nat.reduceAnd, Nat.reduceBneDiff]
                      rw [hI1]
                      refine TI.here ⟨v14, (wr (v15 + 1)), l13, ?_, ?_, ?_, ?_, ?_, ?_, ?_, ?_, ?_, ?_, hm2⟩
                      all_goals first | omega | (simp only [kk1, e11, e20, e23, e24, e26, e30, e43, e47, e60, e78, e79, e81, Y_ref22_Findings, EV, ↓EVd, isCall, Nat.reduceAdd, Nat.reduceSub, Nat.reduceMul, Nat.reduceEqDiff, Nat.reduceBEq, Nat.reduceLT, Nat.reduceLeDiff, ↓reduceIte, reduceCtorEq, Nat.reduceShiftRight, Nat.reduceAnd, Nat.reduceBneDiff]; done) | (simp only [kk1, e11, e20, e23, e24, e26, e30, e43, e47, e60, e78, e79, e81, Y_ref22_Findings, EV, ↓EVd, isCall, Nat.reduceAdd, Nat.reduceSub, Nat.reduceMul, Nat.reduceEqDiff, Nat.reduceBEq, Nat.reduceLT, Nat.reduceLeDiff, ↓reduceIte, reduceCtorEq, Nat.reduceShiftRight, Nat.reduceAnd, Nat.reduceBneDiff]; omega) | (simp only [kk1, e11, e20, e23, e24, e26, e30, e43, e47, e60, e78, e79, e81, Y_ref22_Findings, EV, ↓EVd, isCall, Nat.reduceAdd, Nat.reduceSub, Nat.reduceMul, Nat.reduceEqDiff, Nat.reduceBEq, Nat.reduceLT, Nat.reduceLeDiff, ↓reduceIte, reduceCtorEq, Nat.reduceShiftRight, Nat.reduceAnd, Nat.reduceBneDiff]; congr 1; omega)
                    · have e81 : v76 = false := Bool.eq_false_iff.2 h80
                      rw [if_neg h80] at hm2
                      try simp only [Option.bind_some] at hm2
                      simp only [kk1, e11, e20, e23, e24, e26, e30, e43, e47, e60, e78, e79, e81, Y_ref22_Findings, EV, ↓EVd, isCall, Nat.reduceAdd, Nat.reduceSub, Nat.reduceMul, Nat.reduceEqDiff, Nat.reduceBEq, Nat.reduceLT, Nat.reduceLeDiff, ↓reduceIte, reduceCtorEq, Nat.reduceShiftRight, Nat.reduceAnd, Nat.reduceBneDiff]
                      rw [hI1]
                      refine TI.here ⟨v14, (wr (v15 + 1)), l13, ?_, ?_, ?_, ?_, ?_, ?_, ?_, ?_, ?_, ?_, hm2⟩
                      all_goals first | omega | (simp only [kk1, e11, e20, e23, e24, e26, e30, e43, e47, e60, e78, e79, e81, Y_ref22_Findings, EV, ↓EVd, isCall, Nat.reduceAdd, Nat.reduceSub, Nat.reduceMul, Nat.reduceEqDiff, Nat.reduceBEq, Nat.reduceLT, Nat.reduceLeDiff, ↓reduceIte, reduceCtorEq, Nat.reduceShiftRight, Nat.reduceAnd, Nat.reduceBneDiff]; done) | (simp only [kk1, e11, e20, e23, e24, e26, e30, e43, e47, e60, e78, e79, e81, Y_ref22_Findings, EV, ↓EVd, isCall, Nat.reduceAdd, Nat.reduceSub, Nat.reduceMul, Nat.reduceEqDiff, Nat.reduceBEq, Nat.reduceLT, Nat.reduceLeDiff, ↓reduceIte, reduceCtorEq, Nat.reduceShiftRight, Nat.reduceAnd, Nat.reduceBneDiff]; omega) | (simp only [kk1, e11, e20, e23, e24, e26, e30, e43, e47, e60, e78, e79, e81, Y_ref22_Findings, EV, ↓EVd, isCall, Nat.reduceAdd, Nat.reduceSub, Nat.reduceMul, Nat.reduceEqDiff, Nat.reduceBEq, Nat.reduceLT, Nat.reduceLeDiff, ↓reduceIte, reduceCtorEq, Nat.reduceShiftRight, Nat.reduceAnd, Nat.reduceBneDiff]; congr 1; omega)
              · have e43 : (v6 = 13) = False := eq_false h42
                rw [if_neg h42] at hm2
                by_cases h82 : v6 = 14
                · have e83 : (v6 = 14) = True := eq_true h82
                  rw [if_pos h82] at hm2
                  rcases h85 : m_ref22_Lacks a0 v21 with _ | v84
                  · rw [h85] at hm2; simp only [Option.bind_none, reduceCtorEq] at hm2
                  rw [h85] at hm2; simp only [Option.bind_some] at hm2
                  simp only [kk1, e11, e20, e23, e24, e26, e30, e43, e83, Y_ref22_Findings, EV, ↓EVd, isCall, Nat.reduceAdd, Nat.reduceSub, Nat.reduceMul, Nat.reduceEqDiff, Nat.reduceBEq, Nat.reduceLT, Nat.reduceLeDiff, ↓reduceIte, reduceCtorEq, Nat.reduceShiftRight, Nat.reduceAnd, Nat.reduceBneDiff]
                  refine S1_ok (ok_ref22_Lacks _ _ _ h85) rfl (by simp only [CLO]) ?_
                  rcases h87 : ix v1 v15 with _ | v86
                  · rw [h87] at hm2; simp only [Option.bind_none, reduceCtorEq] at hm2
                  rw [h87] at hm2; simp only [Option.bind_some] at hm2
                  have e88 := eq_true (ix_nonneg h87)
                  have e89 := ix_enc bool h87
                  by_cases h90 : v86 = true
                  · have e91 : v86 = true := h90
                    rw [if_pos h90] at hm2
                    by_cases h92 : v84 = true
                    · have e93 : v84 = true := h92
                      rw [if_pos h92] at hm2
                      have e94 : (.agg [int v6, int 0, int (wr (v15 + 1)), int (-1)] : AV) = encFinding (⟨v6, 0, (wr (v15 + 1)), (-1)⟩ : Finding) := _root_.id rfl
                      rcases h96 : ap 32 v14 ([(⟨v6, 0, (wr (v15 + 1)), (-1)⟩ : Finding)] : List Finding) with _ | h96u
                      · rw [h96] at hm2; simp only [Option.bind_none, reduceCtorEq] at hm2
                      rw [h96] at hm2; simp only [Option.bind_some] at hm2
                      have e97 := eq_true (ap_some h96).2.1
                      have e98 := eq_true (ap_some h96).2.2
                      try simp only [ZL] at e97 e98
                      try simp only [Option.bind_some] at hm2
                      simp only [kk1, e11, e20, e23, e24, e26, e30, e43, e83, e88, e89, e91, e93, e94, e97, e98, Y_ref22_Findings, EV, ↓EVd, isCall, Nat.reduceAdd, Nat.reduceSub, Nat.reduceMul, Nat.reduceEqDiff, Nat.reduceBEq, Nat.reduceLT, Nat.reduceLeDiff, ↓reduceIte, reduceCtorEq, Nat.reduceShiftRight, Nat.reduceAnd, Nat.reduceBneDiff]
                      rw [hI1]
                      refine TI.here ⟨(v14 ++ ([(⟨v6, 0, (wr (v15 + 1)), (-1)⟩ : Finding)] : List Finding)), (wr (v15 + 1)), (x12 + 50), ?_, ?_, ?_, ?_, ?_, ?_, ?_, ?_, ?_, ?_, hm2⟩
                      all_goals first | omega | (simp only [kk1, e11, e20, e23, e24, e26, e30, e43, e83, e88, e89, e91, e93, e94, e97, e98, Y_ref22_Findings, EV, ↓EVd, isCall, Nat.reduceAdd, Nat.reduceSub, Nat.reduceMul, Nat.reduceEqDiff, Nat.reduceBEq, Nat.reduceLT, Nat.reduceLeDiff, ↓reduceIte, reduceCtorEq, Nat.reduceShiftRight, Nat.reduceAnd, Nat.reduceBneDiff]; done) | (simp only [kk1, e11, e20, e23, e24, e26, e30, e43, e83, e88, e89, e91, e93, e94, e97, e98, Y_ref22_Findings, EV, ↓EVd, isCall, Nat.reduceAdd, Nat.reduceSub, Nat.reduceMul, Nat.reduceEqDiff, Nat.reduceBEq, Nat.reduceLT, Nat.reduceLeDiff, ↓reduceIte, reduceCtorEq, Nat.reduceShiftRight, Nat.reduceAnd, Nat.reduceBneDiff]; omega) | (simp only [kk1, e11, e20, e23, e24, e26, e30, e43, e83, e88, e89, e91, e93, e94, e97, e98, Y_ref22_Findings, EV, ↓EVd, isCall, Nat.reduceAdd, Nat.reduceSub, Nat.reduceMul, Nat.reduceEqDiff, Nat.reduceBEq, Nat.reduceLT, Nat.reduceLeDiff, ↓reduceIte, reduceCtorEq, Nat.reduceShiftRight, Nat.reduceAnd, Nat.reduceBneDiff]; congr 1; omega)
                    · have e93 : v84 = false := Bool.eq_false_iff.2 h92
                      rw [if_neg h92] at hm2
                      try simp only [Option.bind_some] at hm2
                      simp only [kk1, e11, e20, e23, e24, e26, e30, e43, e83, e88, e89, e91, e93, Y_ref22_Findings, EV, ↓EVd, isCall, Nat.reduceAdd, Nat.reduceSub, Nat.reduceMul, Nat.reduceEqDiff, Nat.reduceBEq, Nat.reduceLT, Nat.reduceLeDiff, ↓reduceIte, reduceCtorEq, Nat.reduceShiftRight, Nat.reduceAnd, Nat.reduceBneDiff]
                      rw [hI1]
                      refine TI.here ⟨v14, (wr (v15 + 1)), l13, ?_, ?_, ?_, ?_, ?_, ?_, ?_, ?_, ?_, ?_, hm2⟩
                      all_goals first | omega | (simp only [kk1, e11, e20, e23, e24, e26, e30, e43, e83, e88, e89, e91, e93, Y_ref22_Findings, EV, ↓EVd, isCall, Nat.reduceAdd, Nat.reduceSub, Nat.reduceMul, Nat.reduceEqDiff, Nat.reduceBEq, Nat.reduceLT, Nat.reduceLeDiff, ↓reduceIte, reduceCtorEq, Nat.reduceShiftRight, Nat.reduceAnd, Nat.reduceBneDiff]; done) | (simp only [kk1, e11, e20, e23, e24, e26, e30, e43, e83, e88, e89, e91, e93, Y_ref22_Findings, EV, ↓EVd, isCall, Nat.reduceAdd, Nat.reduceSub, Nat.reduceMul, Nat.reduceEqDiff, Nat.reduceBEq, Nat.reduceLT, Nat.reduceLeDiff, ↓reduceIte, reduceCtorEq, Nat.reduceShiftRight, Nat.reduceAnd, Nat.reduceBneDiff]; omega) | (simp only [kk1, e11, e20, e23, e24, e26, e30, e43, e83, e88, e89, e91, e93, Y_ref22_Findings, EV, ↓EVd, isCall, Nat.reduceAdd, Nat.reduceSub, Nat.reduceMul, Nat.reduceEqDiff, Nat.reduceBEq, Nat.reduceLT, Nat.reduceLeDiff, ↓reduceIte, reduceCtorEq, Nat.reduceShiftRight, Nat.reduceAnd, Nat.reduceBneDiff]; congr 1; omega)
                  · have e91 : v86 = false := Bool.eq_false_iff.2 h90
                    rw [if_neg h90] at hm2
                    try simp only [Option.bind_some] at hm2
                    simp only [kk1, e11, e20, e23, e24, e26, e30, e43, e83, e88, e89, e91, Y_ref22_Findings, EV, ↓EVd, isCall, Nat.reduceAdd, Nat.reduceSub, Nat.reduceMul, Nat.reduceEqDiff, Nat.reduceBEq, Nat.reduceLT, Nat.reduceLeDiff, ↓reduceIte, reduceCtorEq, Nat.reduceShiftRight, Nat.reduceAnd, Nat.reduceBneDiff]
                    rw [hI1]
                    refine TI.here ⟨v14, (wr (v15 + 1)), l13, ?_, ?_, ?_, ?_, ?_, ?_, ?_, ?_, ?_, ?_, hm2⟩
                    all_goals first | omega | (simp only [kk1, e11, e20, e23, e24, e26, e30, e43, e83, e88, e89, e91, Y_ref22_Findings, EV, ↓EVd, isCall, Nat.reduceAdd, Nat.reduceSub, Nat.reduceMul, Nat.reduceEqDiff, Nat.reduceBEq, Nat.reduceLT, Nat.reduceLeDiff, ↓reduceIte, reduceCtorEq, Nat.reduceShiftRight, Nat.reduceAnd, Nat.reduceBneDiff]; done) | (simp only [kk1, e11, e20, e23, e24, e26, e30, e43, e83, e88, e89, e91, Y_ref22_Findings, EV, ↓EVd, isCall, Nat.reduceAdd, Nat.reduceSub, Nat.reduceMul, Nat.reduceEqDiff, Nat.reduceBEq, Nat.reduceLT, Nat.reduceLeDiff, ↓reduceIte, reduceCtorEq, Nat.reduceShiftRight, Nat.reduceAnd, Nat.reduceBneDiff]; omega) | (simp only [kk1, e11, e20, e23, e24, e26, e30, e43, e83, e88, e89, e91, Y_ref22_Findings, EV, ↓EVd, isCall, Nat.reduceAdd, Nat.reduceSub, Nat.reduceMul, Nat.reduceEqDiff, Nat.reduceBEq, Nat.reduceLT, Nat.reduceLeDiff, ↓reduceIte, reduceCtorEq, Nat.reduceShiftRight, Nat.reduceAnd, Nat.reduceBneDiff]; congr 1; omega)
                · have e83 : (v6 = 14) = False := eq_false h82
                  rw [if_neg h82] at hm2
                  rcases h100 : ix v1 v15 with _ | v99
                  · rw [h100] at hm2; simp only [Option.bind_none, reduceCtorEq] at hm2
                  rw [h100] at hm2; simp only [Option.bind_some] at hm2
                  have e101 := eq_true (ix_nonneg h100)
                  have e102 := ix_enc bool h100
                  by_cases h103 : v99 = true
                  · have e104 : v99 = true := h103
                    rw [if_pos h103] at hm2
                    try simp only [Option.bind_some] at hm2
                    simp only [kk1, e11, e20, e23, e24, e26, e30, e43, e83, e101, e102, e104, Y_ref22_Findings, EV, ↓EVd, isCall, Nat.reduceAdd, Nat.reduceSub, Nat.reduceMul, Nat.reduceEqDiff, Nat.reduceBEq, Nat.reduceLT, Nat.reduceLeDiff, ↓reduceIte, reduceCtorEq, Nat.reduceShiftRight, Nat.reduceAnd, Nat.reduceBneDiff]
                    rw [hI1]
                    refine TI.here ⟨v14, (wr (v15 + 1)), l13, ?_, ?_, ?_, ?_, ?_, ?_, ?_, ?_, ?_, ?_, hm2⟩
                    all_goals first | omega | (simp only [kk1, e11, e20, e23, e24, e26, e30, e43, e83, e101, e102, e104, Y_ref22_Findings, EV, ↓EVd, isCall, Nat.reduceAdd, Nat.reduceSub, Nat.reduceMul, Nat.reduceEqDiff, Nat.reduceBEq, Nat.reduceLT, Nat.reduceLeDiff, ↓reduceIte, reduceCtorEq, Nat.reduceShiftRight, Nat.reduceAnd, Nat.reduceBneDiff]; done) | (simp only [kk1, e11, e20, e23, e24, e26, e30, e43, e83, e101, e102, e104, Y_ref22_Findings, EV, ↓EVd, isCall, Nat.reduceAdd, Nat.reduceSub, Nat.reduceMul, Nat.reduceEqDiff, Nat.reduceBEq, Nat.reduceLT, Nat.reduceLeDiff, ↓reduceIte, reduceCtorEq, Nat.reduceShiftRight, Nat.reduceAnd, Nat.reduceBneDiff]; omega) | (simp only [kk1, e11, e20, e23, e24, e26, e30, e43, e83, e101, e102, e104, Y_ref22_Findings, EV, ↓EVd, isCall, Nat.reduceAdd, Nat.reduceSub, Nat.reduceMul, Nat.reduceEqDiff, Nat.reduceBEq, Nat.reduceLT, Nat.reduceLeDiff, ↓reduceIte, reduceCtorEq, Nat.reduceShiftRight, Nat.reduceAnd, Nat.reduceBneDiff]; congr 1; omega)
                  · have e104 : v99 = false := Bool.eq_false_iff.2 h103
                    rw [if_neg h103] at hm2
                    try simp only [Option.bind_some] at hm2
                    simp only [kk1, e11, e20, e23, e24, e26, e30, e43, e83, e101, e102, e104, Y_ref22_Findings, EV, ↓EVd, isCall, Nat.reduceAdd, Nat.reduceSub, Nat.reduceMul, Nat.reduceEqDiff, Nat.reduceBEq, Nat.reduceLT, Nat.reduceLeDiff, ↓reduceIte, reduceCtorEq, Nat.reduceShiftRight, Nat.reduceAnd, Nat.reduceBneDiff]
                    rw [hI1]
                    refine TI.here ⟨v14, (wr (v15 + 1)), l13, ?_, ?_, ?_, ?_, ?_, ?_, ?_, ?_, ?_, ?_, hm2⟩
                    all_goals first | omega | (simp only [kk1, e11, e20, e23, e24, e26, e30, e43, e83, e101, e102, e104, Y_ref22_Findings, EV, ↓EVd, isCall, Nat.reduceAdd, Nat.reduceSub, Nat.reduceMul, Nat.reduceEqDiff, Nat.reduceBEq, Nat.reduceLT, Nat.reduceLeDiff, ↓reduceIte, reduceCtorEq, Nat.reduceShiftRight, Nat.reduceAnd, Nat.reduceBneDiff]; done) | (simp only [kk1, e11, e20, e23, e24, e26, e30, e43, e83, e101, e102, e104, Y_ref22_Findings, EV, ↓EVd, isCall, Nat.reduceAdd, Nat.reduceSub, Nat.reduceMul, Nat.reduceEqDiff, Nat.reduceBEq, Nat.reduceLT, Nat.reduceLeDiff, ↓reduceIte, reduceCtorEq, Nat.reduceShiftRight, Nat.reduceAnd, Nat.reduceBneDiff]; omega) | (simp only [kk1, e11, e20, e23, e24, e26, e30, e43, e83, e101, e102, e104, Y_ref22_Findings, EV, ↓EVd, isCall, Nat.reduceAdd, Nat.reduceSub, Nat.reduceMul, Nat.reduceEqDiff, Nat.reduceBEq, Nat.reduceLT, Nat.reduceLeDiff, ↓reduceIte, reduceCtorEq, Nat.reduceShiftRight, Nat.reduceAnd, Nat.reduceBneDiff]; congr 1; omega)
          · have e26 : (v6 = 8) = False := eq_false h25
            rw [if_neg h25] at hm2
            by_cases h105 : v6 = 13
            · have e106 : (v6 = 13) = True := eq_true h105
              rw [if_pos h105] at hm2
              rcases h108 : m_ref22_Stale a0 v21 with _ | v107
              · rw [h108] at hm2; simp only [Option.bind_none, reduceCtorEq] at hm2
              rw [h108] at hm2; simp only [Option.bind_some] at hm2
              simp only [kk1, e11, e20, e23, e24, e26, e106, Y_ref22_Findings, EV, ↓EVd, isCall, Nat.reduceAdd, Nat.reduceSub, Nat.reduceMul, Nat.reduceEqDiff, Nat.reduceBEq, Nat.reduceLT, Nat.reduceLeDiff, ↓reduceIte, reduceCtorEq, Nat.reduceShiftRight, Nat.reduceAnd, Nat.reduceBneDiff]
              refine S1_ok (ok_ref22_Stale _ _ _ h108) rfl (by simp only [CLO]) ?_
              by_cases h109 : v107 = true
              · have e110 : v107 = true := h109
                rw [if_pos h109] at hm2
                rcases h112 : ix v1 v15 with _ | v111
                · rw [h112] at hm2; simp only [Option.bind_none, reduceCtorEq] at hm2
                rw [h112] at hm2; simp only [Option.bind_some] at hm2
                have e113 := eq_true (ix_nonneg h112)
                have e114 := ix_enc bool h112
                by_cases h115 : v111 = true
                · have e116 : v111 = true := h115
                  rw [if_pos h115] at hm2
                  have e117 : (.agg [int v6, int 0, int (wr (v15 + 1)), int (-1)] : AV) = encFinding (⟨v6, 0, (wr (v15 + 1)), (-1)⟩ : Finding) := _root_.id rfl
                  rcases h119 : ap 32 v14 ([(⟨v6, 0, (wr (v15 + 1)), (-1)⟩ : Finding)] : List Finding) with _ | h119u
                  · rw [h119] at hm2; simp only [Option.bind_none, reduceCtorEq] at hm2
                  rw [h119] at hm2; simp only [Option.bind_some] at hm2
                  have e120 := eq_true (ap_some h119).2.1
                  have e121 := eq_true (ap_some h119).2.2
                  try simp only [ZL] at e120 e121
                  try simp only [Option.bind_some] at hm2
                  simp only [kk1, e11, e20, e23, e24, e26, e106, e110, e113, e114, e116, e117, e120, e121, Y_ref22_Findings, EV, ↓EVd, isCall, Nat.reduceAdd, Nat.reduceSub, Nat.reduceMul, Nat.reduceEqDiff, Nat.reduceBEq, Nat.reduceLT, Nat.reduceLeDiff, ↓reduceIte, reduceCtorEq, Nat.reduceShiftRight, Nat.reduceAnd, Nat.reduceBneDiff]
                  rw [hI1]
                  refine TI.here ⟨(v14 ++ ([(⟨v6, 0, (wr (v15 + 1)), (-1)⟩ : Finding)] : List Finding)), (wr (v15 + 1)), (x12 + 50), ?_, ?_, ?_, ?_, ?_, ?_, ?_, ?_, ?_, ?_, hm2⟩
                  all_goals first | omega | (simp only [kk1, e11, e20, e23, e24, e26, e106, e110, e113, e114, e116, e117, e120, e121, Y_ref22_Findings, EV, ↓EVd, isCall, Nat.reduceAdd, Nat.reduceSub, Nat.reduceMul, Nat.reduceEqDiff, Nat.reduceBEq, Nat.reduceLT, Nat.reduceLeDiff, ↓reduceIte, reduceCtorEq, Nat.reduceShiftRight, Nat.reduceAnd, Nat.reduceBneDiff]; done) | (simp only [kk1, e11, e20, e23, e24, e26, e106, e110, e113, e114, e116, e117, e120, e121, Y_ref22_Findings, EV, ↓EVd, isCall, Nat.reduceAdd, Nat.reduceSub, Nat.reduceMul, Nat.reduceEqDiff, Nat.reduceBEq, Nat.reduceLT, Nat.reduceLeDiff, ↓reduceIte, reduceCtorEq, Nat.reduceShiftRight, Nat.reduceAnd, Nat.reduceBneDiff]; omega) | (simp only [kk1, e11, e20, e23, e24, e26, e106, e110, e113, e114, e116, e117, e120, e121, Y_ref22_Findings, EV, ↓EVd, isCall, Nat.reduceAdd, Nat.reduceSub, Nat.reduceMul, Nat.reduceEqDiff, Nat.reduceBEq, Nat.reduceLT, Nat.reduceLeDiff, ↓reduceIte, reduceCtorEq, Nat.reduceShiftRight, Nat.reduceAnd, Nat.reduceBneDiff]; congr 1; omega)
                · have e116 : v111 = false := Bool.eq_false_iff.2 h115
                  rw [if_neg h115] at hm2
                  try simp only [Option.bind_some] at hm2
                  simp only [kk1, e11, e20, e23, e24, e26, e106, e110, e113, e114, e116, Y_ref22_Findings, EV, ↓EVd, isCall, Nat.reduceAdd, Nat.reduceSub, Nat.reduceMul, Nat.reduceEqDiff, Nat.reduceBEq, Nat.reduceLT, Nat.reduceLeDiff, ↓reduceIte, reduceCtorEq, Nat.reduceShiftRight, Nat.reduceAnd, Nat.reduceBneDiff]
                  rw [hI1]
                  refine TI.here ⟨v14, (wr (v15 + 1)), l13, ?_, ?_, ?_, ?_, ?_, ?_, ?_, ?_, ?_, ?_, hm2⟩
                  all_goals first | omega | (simp only [kk1, e11, e20, e23, e24, e26, e106, e110, e113, e114, e116, Y_ref22_Findings, EV, ↓EVd, isCall, Nat.reduceAdd, Nat.reduceSub, Nat.reduceMul, Nat.reduceEqDiff, Nat.reduceBEq, Nat.reduceLT, Nat.reduceLeDiff, ↓reduceIte, reduceCtorEq, Nat.reduceShiftRight, Nat.reduceAnd, Nat.reduceBneDiff]; done) | (simp only [kk1, e11, e20, e23, e24, e26, e106, e110, e113, e114, e116, Y_ref22_Findings, EV, ↓EVd, isCall, Nat.reduceAdd, Nat.reduceSub, Nat.reduceMul, Nat.reduceEqDiff, Nat.reduceBEq, Nat.reduceLT, Nat.reduceLeDiff, ↓reduceIte, reduceCtorEq, Nat.reduceShiftRight, Nat.reduceAnd, Nat.reduceBneDiff]; omega) | (simp only [kk1, e11, e20, e23, e24, e26, e106, e110, e113, e114, e116, Y_ref22_Findings, EV, ↓EVd, isCall, Nat.reduceAdd, Nat.reduceSub, Nat.reduceMul, Nat.reduceEqDiff, Nat.reduceBEq, Nat.reduceLT, Nat.reduceLeDiff, ↓reduceIte, reduceCtorEq, Nat.reduceShiftRight, Nat.reduceAnd, Nat.reduceBneDiff]; congr 1; omega)
              · have e110 : v107 = false := Bool.eq_false_iff.2 h109
                rw [if_neg h109] at hm2
                by_cases h122 : v6 = 14
                · have e123 : (v6 = 14) = True := eq_true h122
                  rw [if_pos h122] at hm2
                  rcases h125 : m_ref22_Lacks a0 v21 with _ | v124
                  · rw [h125] at hm2; simp only [Option.bind_none, reduceCtorEq] at hm2
                  rw [h125] at hm2; simp only [Option.bind_some] at hm2
                  simp only [kk1, e11, e20, e23, e24, e26, e106, e110, e123, Y_ref22_Findings, EV, ↓EVd, isCall, Nat.reduceAdd, Nat.reduceSub, Nat.reduceMul, Nat.reduceEqDiff, Nat.reduceBEq, Nat.reduceLT, Nat.reduceLeDiff, ↓reduceIte, reduceCtorEq, Nat.reduceShiftRight, Nat.reduceAnd, Nat.reduceBneDiff]
                  refine S1_ok (ok_ref22_Lacks _ _ _ h125) rfl (by simp only [CLO]) ?_
                  rcases h127 : ix v1 v15 with _ | v126
                  · rw [h127] at hm2; simp only [Option.bind_none, reduceCtorEq] at hm2
                  rw [h127] at hm2; simp only [Option.bind_some] at hm2
                  have e128 := eq_true (ix_nonneg h127)
                  have e129 := ix_enc bool h127
                  by_cases h130 : v126 = true
                  · have e131 : v126 = true := h130
                    rw [if_pos h130] at hm2
                    by_cases h132 : v124 = true
                    · have e133 : v124 = true := h132
                      rw [if_pos h132] at hm2
                      have e134 : (.agg [int v6, int 0, int (wr (v15 + 1)), int (-1)] : AV) = encFinding (⟨v6, 0, (wr (v15 + 1)), (-1)⟩ : Finding) := _root_.id rfl
                      rcases h136 : ap 32 v14 ([(⟨v6, 0, (wr (v15 + 1)), (-1)⟩ : Finding)] : List Finding) with _ | h136u
                      · rw [h136] at hm2; simp only [Option.bind_none, reduceCtorEq] at hm2
                      rw [h136] at hm2; simp only [Option.bind_some] at hm2
                      have e137 := eq_true (ap_some h136).2.1
                      have e138 := eq_true (ap_some h136).2.2
                      try simp only [ZL] at e137 e138
                      try simp only [Option.bind_some] at hm2
                      simp only [kk1, e11, e20, e23, e24, e26, e106, e110, e123, e128, e129, e131, e133, e134, e137, e138, Y_ref22_Findings, EV, ↓EVd, isCall, Nat.reduceAdd, Nat.reduceSub, Nat.reduceMul, Nat.reduceEqDiff, Nat.reduceBEq, Nat.reduceLT, Nat.reduceLeDiff, ↓reduceIte, reduceCtorEq, Nat.reduceShiftRight, Nat.reduceAnd, Nat.reduceBneDiff]
                      rw [hI1]
                      refine TI.here ⟨(v14 ++ ([(⟨v6, 0, (wr (v15 + 1)), (-1)⟩ : Finding)] : List Finding)), (wr (v15 + 1)), (x12 + 50), ?_, ?_, ?_, ?_, ?_, ?_, ?_, ?_, ?_, ?_, hm2⟩
                      all_goals first | omega | (simp only [kk1, e11, e20, e23, e24, e26, e106, e110, e123, e128, e129, e131, e133, e134, e137, e138, Y_ref22_Findings, EV, ↓EVd, isCall, Nat.reduceAdd, Nat.reduceSub, Nat.reduceMul, Nat.reduceEqDiff, Nat.reduceBEq, Nat.reduceLT, Nat.reduceLeDiff, ↓reduceIte, reduceCtorEq, Nat.reduceShiftRight, Nat.reduceAnd, Nat.reduceBneDiff]; done) | (simp only [kk1, e11, e20, e23, e24, e26, e106, e110, e123, e128, e129, e131, e133, e134, e137, e138, Y_ref22_Findings, EV, ↓EVd, isCall, Nat.reduceAdd, Nat.reduceSub, Nat.reduceMul, Nat.reduceEqDiff, Nat.reduceBEq, Nat.reduceLT, Nat.reduceLeDiff, ↓reduceIte, reduceCtorEq, Nat.reduceShiftRight, Nat.reduceAnd, Nat.reduceBneDiff]; omega) | (simp only [kk1, e11, e20, e23, e24, e26, e106, e110, e123, e128, e129, e131, e133, e134, e137, e138, Y_ref22_Findings, EV, ↓EVd, isCall, Nat.reduceAdd, Nat.reduceSub, Nat.reduceMul, Nat.reduceEqDiff, Nat.reduceBEq, Nat.reduceLT, Nat.reduceLeDiff, ↓reduceIte, reduceCtorEq, Nat.reduceShiftRight, Nat.reduceAnd, Nat.reduceBneDiff]; congr 1; omega)
                    · have e133 : v124 = false := Bool.eq_false_iff.2 h132
                      rw [if_neg h132] at hm2
                      try simp only [Option.bind_some] at hm2
                      simp only [kk1, e11, e20, e23, e24, e26, e106, e110, e123, e128, e129, e131, e133, Y_ref22_Findings, EV, ↓EVd, isCall, Nat.reduceAdd, Nat.reduceSub, Nat.reduceMul, Nat.reduceEqDiff, Nat.reduceBEq, Nat.reduceLT, Nat.reduceLeDiff, ↓reduceIte, reduceCtorEq, Nat.reduceShiftRight, Nat.reduceAnd, Nat.reduceBneDiff]
                      rw [hI1]
                      refine TI.here ⟨v14, (wr (v15 + 1)), l13, ?_, ?_, ?_, ?_, ?_, ?_, ?_, ?_, ?_, ?_, hm2⟩
                      all_goals first | omega | (simp only [kk1, e11, e20, e23, e24, e26, e106, e110, e123, e128, e129, e131, e133, Y_ref22_Findings, EV, ↓EVd, isCall, Nat.reduceAdd, Nat.reduceSub, Nat.reduceMul, Nat.reduceEqDiff, Nat.reduceBEq, Nat.reduceLT, Nat.reduceLeDiff, ↓reduceIte, reduceCtorEq, Nat.reduceShiftRight, Nat.reduceAnd, Nat.reduceBneDiff]; done) | (simp only [kk1, e11, e20, e23, e24, e26, e106, e110, e123, e128, e129, e131, e133, Y_ref22_Findings, EV, ↓EVd, isCall, Nat.reduceAdd, Nat.reduceSub, Nat.reduceMul, Nat.reduceEqDiff, Nat.reduceBEq, Nat.reduceLT, Nat.reduceLeDiff, ↓reduceIte, reduceCtorEq, Nat.reduceShiftRight, Nat.reduceAnd, Nat.reduceBneDiff]; omega) | (simp only [kk1, e11, e20, e23, e24, e26, e106, e110, e123, e128, e129, e131, e133, Y_ref22_Findings, EV, ↓EVd, isCall, Nat.reduceAdd, Nat.reduceSub, Nat.reduceMul, Nat.reduceEqDiff, Nat.reduceBEq, Nat.reduceLT, Nat.reduceLeDiff, ↓reduceIte, reduceCtorEq, Nat.reduceShiftRight, Nat.reduceAnd, Nat.reduceBneDiff]; congr 1; omega)
                  · have e131 : v126 = false := Bool.eq_false_iff.2 h130
                    rw [if_neg h130] at hm2
                    try simp only [Option.bind_some] at hm2
                    simp only [kk1, e11, e20, e23, e24, e26, e106, e110, e123, e128, e129, e131, Y_ref22_Findings, EV, ↓EVd, isCall, Nat.reduceAdd, Nat.reduceSub, Nat.reduceMul, Nat.reduceEqDiff, Nat.reduceBEq, Nat.reduceLT, Nat.reduceLeDiff, ↓reduceIte, reduceCtorEq, Nat.reduceShiftRight, Nat.reduceAnd, Nat.reduceBneDiff]
                    rw [hI1]
                    refine TI.here ⟨v14, (wr (v15 + 1)), l13, ?_, ?_, ?_, ?_, ?_, ?_, ?_, ?_, ?_, ?_, hm2⟩
                    all_goals first | omega | (simp only [kk1, e11, e20, e23, e24, e26, e106, e110, e123, e128, e129, e131, Y_ref22_Findings, EV, ↓EVd, isCall, Nat.reduceAdd, Nat.reduceSub, Nat.reduceMul, Nat.reduceEqDiff, Nat.reduceBEq, Nat.reduceLT, Nat.reduceLeDiff, ↓reduceIte, reduceCtorEq, Nat.reduceShiftRight, Nat.reduceAnd, Nat.reduceBneDiff]; done) | (simp only [kk1, e11, e20, e23, e24, e26, e106, e110, e123, e128, e129, e131, Y_ref22_Findings, EV, ↓EVd, isCall, Nat.reduceAdd, Nat.reduceSub, Nat.reduceMul, Nat.reduceEqDiff, Nat.reduceBEq, Nat.reduceLT, Nat.reduceLeDiff, ↓reduceIte, reduceCtorEq, Nat.reduceShiftRight, Nat.reduceAnd, Nat.reduceBneDiff]; omega) | (simp only [kk1, e11, e20, e23, e24, e26, e106, e110, e123, e128, e129, e131, Y_ref22_Findings, EV, ↓EVd, isCall, Nat.reduceAdd, Nat.reduceSub, Nat.reduceMul, Nat.reduceEqDiff, Nat.reduceBEq, Nat.reduceLT, Nat.reduceLeDiff, ↓reduceIte, reduceCtorEq, Nat.reduceShiftRight, Nat.reduceAnd, Nat.reduceBneDiff]; congr 1; omega)
                · have e123 : (v6 = 14) = False := eq_false h122
                  rw [if_neg h122] at hm2
                  rcases h140 : ix v1 v15 with _ | v139
                  · rw [h140] at hm2; simp only [Option.bind_none, reduceCtorEq] at hm2
                  rw [h140] at hm2; simp only [Option.bind_some] at hm2
                  have e141 := eq_true (ix_nonneg h140)
                  have e142 := ix_enc bool h140
                  by_cases h143 : v139 = true
                  · have e144 : v139 = true := h143
                    rw [if_pos h143] at hm2
                    try simp only [Option.bind_some] at hm2
                    simp only [kk1, e11, e20, e23, e24, e26, e106, e110, e123, e141, e142, e144, Y_ref22_Findings, EV, ↓EVd, isCall, Nat.reduceAdd, Nat.reduceSub, Nat.reduceMul, Nat.reduceEqDiff, Nat.reduceBEq, Nat.reduceLT, Nat.reduceLeDiff, ↓reduceIte, reduceCtorEq, Nat.reduceShiftRight, Nat.reduceAnd, Nat.reduceBneDiff]
                    rw [hI1]
                    refine TI.here ⟨v14, (wr (v15 + 1)), l13, ?_, ?_, ?_, ?_, ?_, ?_, ?_, ?_, ?_, ?_, hm2⟩
                    all_goals first | omega | (simp only [kk1, e11, e20, e23, e24, e26, e106, e110, e123, e141, e142, e144, Y_ref22_Findings, EV, ↓EVd, isCall, Nat.reduceAdd, Nat.reduceSub, Nat.reduceMul, Nat.reduceEqDiff, Nat.reduceBEq, Nat.reduceLT, Nat.reduceLeDiff, ↓reduceIte, reduceCtorEq, Nat.reduceShiftRight, Nat.reduceAnd, Nat.reduceBneDiff]; done) | (simp only [kk1, e11, e20, e23, e24, e26, e106, e110, e123, e141, e142, e144, Y_ref22_Findings, EV, ↓EVd, isCall, Nat.reduceAdd, Nat.reduceSub, Nat.reduceMul, Nat.reduceEqDiff, Nat.reduceBEq, Nat.reduceLT, Nat.reduceLeDiff, ↓reduceIte, reduceCtorEq, Nat.reduceShiftRight, Nat.reduceAnd, Nat.reduceBneDiff]; omega) | (simp only [kk1, e11, e20, e23, e24, e26, e106, e110, e123, e141, e142, e144, Y_ref22_Findings, EV, ↓EVd, isCall, Nat.reduceAdd, Nat.reduceSub, Nat.reduceMul, Nat.reduceEqDiff, Nat.reduceBEq, Nat.reduceLT, Nat.reduceLeDiff, ↓reduceIte, reduceCtorEq, Nat.reduceShiftRight, Nat.reduceAnd, Nat.reduceBneDiff]; congr 1; omega)
                  · have e144 : v139 = false := Bool.eq_false_iff.2 h143
                    rw [if_neg h143] at hm2
                    try simp only [Option.bind_some] at hm2
                    simp only [kk1, e11, e20, e23, e24, e26, e106, e110, e123, e141, e142, e144, Y_ref22_Findings, EV, ↓EVd, isCall, Nat.reduceAdd, Nat.reduceSub, Nat.reduceMul, Nat.reduceEqDiff, Nat.reduceBEq, Nat.reduceLT, Nat.reduceLeDiff, ↓reduceIte, reduceCtorEq, Nat.reduceShiftRight, Nat.reduceAnd, Nat.reduceBneDiff]
                    rw [hI1]
                    refine TI.here ⟨v14, (wr (v15 + 1)), l13, ?_, ?_, ?_, ?_, ?_, ?_, ?_, ?_, ?_, ?_, hm2⟩
                    all_goals first | omega | (simp only [kk1, e11, e20, e23, e24, e26, e106, e110, e123, e141, e142, e144, Y_ref22_Findings, EV, ↓EVd, isCall, Nat.reduceAdd, Nat.reduceSub, Nat.reduceMul, Nat.reduceEqDiff, Nat.reduceBEq, Nat.reduceLT, Nat.reduceLeDiff, ↓reduceIte, reduceCtorEq, Nat.reduceShiftRight, Nat.reduceAnd, Nat.reduceBneDiff]; done) | (simp only [kk1, e11, e20, e23, e24, e26, e106, e110, e123, e141, e142, e144, Y_ref22_Findings, EV, ↓EVd, isCall, Nat.reduceAdd, Nat.reduceSub, Nat.reduceMul, Nat.reduceEqDiff, Nat.reduceBEq, Nat.reduceLT, Nat.reduceLeDiff, ↓reduceIte, reduceCtorEq, Nat.reduceShiftRight, Nat.reduceAnd, Nat.reduceBneDiff]; omega) | (simp only [kk1, e11, e20, e23, e24, e26, e106, e110, e123, e141, e142, e144, Y_ref22_Findings, EV, ↓EVd, isCall, Nat.reduceAdd, Nat.reduceSub, Nat.reduceMul, Nat.reduceEqDiff, Nat.reduceBEq, Nat.reduceLT, Nat.reduceLeDiff, ↓reduceIte, reduceCtorEq, Nat.reduceShiftRight, Nat.reduceAnd, Nat.reduceBneDiff]; congr 1; omega)
            · have e106 : (v6 = 13) = False := eq_false h105
              rw [if_neg h105] at hm2
              by_cases h145 : v6 = 14
              · have e146 : (v6 = 14) = True := eq_true h145
                rw [if_pos h145] at hm2
                rcases h148 : m_ref22_Lacks a0 v21 with _ | v147
                · rw [h148] at hm2; simp only [Option.bind_none, reduceCtorEq] at hm2
                rw [h148] at hm2; simp only [Option.bind_some] at hm2
                simp only [kk1, e11, e20, e23, e24, e26, e106, e146, Y_ref22_Findings, EV, ↓EVd, isCall, Nat.reduceAdd, Nat.reduceSub, Nat.reduceMul, Nat.reduceEqDiff, Nat.reduceBEq, Nat.reduceLT, Nat.reduceLeDiff, ↓reduceIte, reduceCtorEq, Nat.reduceShiftRight, Nat.reduceAnd, Nat.reduceBneDiff]
                refine S1_ok (ok_ref22_Lacks _ _ _ h148) rfl (by simp only [CLO]) ?_
                rcases h150 : ix v1 v15 with _ | v149
                · rw [h150] at hm2; simp only [Option.bind_none, reduceCtorEq] at hm2
                rw [h150] at hm2; simp only [Option.bind_some] at hm2
                have e151 := eq_true (ix_nonneg h150)
                have e152 := ix_enc bool h150
                by_cases h153 : v149 = true
                · have e154 : v149 = true := h153
                  rw [if_pos h153] at hm2
                  by_cases h155 : v147 = true
                  · have e156 : v147 = true := h155
                    rw [if_pos h155] at hm2
                    have e157 : (.agg [int v6, int 0, int (wr (v15 + 1)), int (-1)] : AV) = encFinding (⟨v6, 0, (wr (v15 + 1)), (-1)⟩ : Finding) := _root_.id rfl
                    rcases h159 : ap 32 v14 ([(⟨v6, 0, (wr (v15 + 1)), (-1)⟩ : Finding)] : List Finding) with _ | h159u
                    · rw [h159] at hm2; simp only [Option.bind_none, reduceCtorEq] at hm2
                    rw [h159] at hm2; simp only [Option.bind_some] at hm2
                    have e160 := eq_true (ap_some h159).2.1
                    have e161 := eq_true (ap_some h159).2.2
                    try simp only [ZL] at e160 e161
                    try simp only [Option.bind_some] at hm2
                    simp only [kk1, e11, e20, e23, e24, e26, e106, e146, e151, e152, e154, e156, e157, e160, e161, Y_ref22_Findings, EV, ↓EVd, isCall, Nat.reduceAdd, Nat.reduceSub, Nat.reduceMul, Nat.reduceEqDiff, Nat.reduceBEq, Nat.reduceLT, Nat.reduceLeDiff, ↓reduceIte, reduceCtorEq, Nat.reduceShiftRight, Nat.reduceAnd, Nat.reduceBneDiff]
                    rw [hI1]
                    refine TI.here ⟨(v14 ++ ([(⟨v6, 0, (wr (v15 + 1)), (-1)⟩ : Finding)] : List Finding)), (wr (v15 + 1)), (x12 + 50), ?_, ?_, ?_, ?_, ?_, ?_, ?_, ?_, ?_, ?_, hm2⟩
                    all_goals first | omega | (simp only [kk1, e11, e20, e23, e24, e26, e106, e146, e151, e152, e154, e156, e157, e160, e161, Y_ref22_Findings, EV, ↓EVd, isCall, Nat.reduceAdd, Nat.reduceSub, Nat.reduceMul, Nat.reduceEqDiff, Nat.reduceBEq, Nat.reduceLT, Nat.reduceLeDiff, ↓reduceIte, reduceCtorEq, Nat.reduceShiftRight, Nat.reduceAnd, Nat.reduceBneDiff]; done) | (simp only [kk1, e11, e20, e23, e24, e26, e106, e146, e151, e152, e154, e156, e157, e160, e161, Y_ref22_Findings, EV, ↓EVd, isCall, Nat.reduceAdd, Nat.reduceSub, Nat.reduceMul, Nat.reduceEqDiff, Nat.reduceBEq, Nat.reduceLT, Nat.reduceLeDiff, ↓reduceIte, reduceCtorEq, Nat.reduceShiftRight, Nat.reduceAnd, Nat.reduceBneDiff]; omega) | (simp only [kk1, e11, e20, e23, e24, e26, e106, e146, e151, e152, e154, e156, e157, e160, e161, Y_ref22_Findings, EV, ↓EVd, isCall, Nat.reduceAdd, Nat.reduceSub, Nat.reduceMul, Nat.reduceEqDiff, Nat.reduceBEq, Nat.reduceLT, Nat.reduceLeDiff, ↓reduceIte, reduceCtorEq, Nat.reduceShiftRight, Nat.reduceAnd, Nat.reduceBneDiff]; congr 1; omega)
                  · have e156 : v147 = false := Bool.eq_false_iff.2 h155
                    rw [if_neg h155] at hm2
                    try simp only [Option.bind_some] at hm2
                    simp only [kk1, e11, e20, e23, e24, e26, e106, e146, e151, e152, e154, e156, Y_ref22_Findings, EV, ↓EVd, isCall, Nat.reduceAdd, Nat.reduceSub, Nat.reduceMul, Nat.reduceEqDiff, Nat.reduceBEq, Nat.reduceLT, Nat.reduceLeDiff, ↓reduceIte, reduceCtorEq, Nat.reduceShiftRight, Nat.reduceAnd, Nat.reduceBneDiff]
                    rw [hI1]
                    refine TI.here ⟨v14, (wr (v15 + 1)), l13, ?_, ?_, ?_, ?_, ?_, ?_, ?_, ?_, ?_, ?_, hm2⟩
                    all_goals first | omega | (simp only [kk1, e11, e20, e23, e24, e26, e106, e146, e151, e152, e154, e156, Y_ref22_Findings, EV, ↓EVd, isCall, Nat.reduceAdd, Nat.reduceSub, Nat.reduceMul, Nat.reduceEqDiff, Nat.reduceBEq, Nat.reduceLT, Nat.reduceLeDiff, ↓reduceIte, reduceCtorEq, Nat.reduceShiftRight, Nat.reduceAnd, Nat.reduceBneDiff]; done) | (simp only [kk1, e11, e20, e23, e24, e26, e106, e146, e151, e152, e154, e156, Y_ref22_Findings, EV, ↓EVd, isCall, Nat.reduceAdd, Nat.reduceSub, Nat.reduceMul, Nat.reduceEqDiff, Nat.reduceBEq, Nat.reduceLT, Nat.reduceLeDiff, ↓reduceIte, reduceCtorEq, Nat.reduceShiftRight, Nat.reduceAnd, Nat.reduceBneDiff]; omega) | (simp only [kk1, e11, e20, e23, e24, e26, e106, e146, e151, e152, e154, e156, Y_ref22_Findings, EV, ↓EVd, isCall, Nat.reduceAdd, Nat.reduceSub, Nat.reduceMul, Nat.reduceEqDiff, Nat.reduceBEq, Nat.reduceLT, Nat.reduceLeDiff, ↓reduceIte, reduceCtorEq, Nat.reduceShiftRight, Nat.reduceAnd, Nat.reduceBneDiff]; congr 1; omega)
                · have e154 : v149 = false := Bool.eq_false_iff.2 h153
                  rw [if_neg h153] at hm2
                  try simp only [Option.bind_some] at hm2
                  simp only [kk1, e11, e20, e23, e24, e26, e106, e146, e151, e152, e154, Y_ref22_Findings, EV, ↓EVd, isCall, Nat.reduceAdd, Nat.reduceSub, Nat.reduceMul, Nat.reduceEqDiff, Nat.reduceBEq, Nat.reduceLT, Nat.reduceLeDiff, ↓reduceIte, reduceCtorEq, Nat.reduceShiftRight, Nat.reduceAnd, Nat.reduceBneDiff]
                  rw [hI1]
                  refine TI.here ⟨v14, (wr (v15 + 1)), l13, ?_, ?_, ?_, ?_, ?_, ?_, ?_, ?_, ?_, ?_, hm2⟩
                  all_goals first | omega | (simp only [kk1, e11, e20, e23, e24, e26, e106, e146, e151, e152, e154, Y_ref22_Findings, EV, ↓EVd, isCall, Nat.reduceAdd, Nat.reduceSub, Nat.reduceMul, Nat.reduceEqDiff, Nat.reduceBEq, Nat.reduceLT, Nat.reduceLeDiff, ↓reduceIte, reduceCtorEq, Nat.reduceShiftRight, Nat.reduceAnd, Nat.reduceBneDiff]; done) | (simp only [kk1, e11, e20, e23, e24, e26, e106, e146, e151, e152, e154, Y_ref22_Findings, EV, ↓EVd, isCall, Nat.reduceAdd, Nat.reduceSub, Nat.reduceMul, Nat.reduceEqDiff, Nat.reduceBEq, Nat.reduceLT, Nat.reduceLeDiff, ↓reduceIte, reduceCtorEq, Nat.reduceShiftRight, Nat.reduceAnd, Nat.reduceBneDiff]; omega) | (simp only [kk1, e11, e20, e23, e24, e26, e106, e146, e151, e152, e154, Y_ref22_Findings, EV, ↓EVd, isCall, Nat.reduceAdd, Nat.reduceSub, Nat.reduceMul, Nat.reduceEqDiff, Nat.reduceBEq, Nat.reduceLT, Nat.reduceLeDiff, ↓reduceIte, reduceCtorEq, Nat.reduceShiftRight, Nat.reduceAnd, Nat.reduceBneDiff]; congr 1; omega)
              · have e146 : (v6 = 14) = False := eq_false h145
                rw [if_neg h145] at hm2
                rcases h163 : ix v1 v15 with _ | v162
                · rw [h163] at hm2; simp only [Option.bind_none, reduceCtorEq] at hm2
                rw [h163] at hm2; simp only [Option.bind_some] at hm2
                have e164 := eq_true (ix_nonneg h163)
                have e165 := ix_enc bool h163
                by_cases h166 : v162 = true
                · have e167 : v162 = true := h166
                  rw [if_pos h166] at hm2
                  try simp only [Option.bind_some] at hm2
                  simp only [kk1, e11, e20, e23, e24, e26, e106, e146, e164, e165, e167, Y_ref22_Findings, EV, ↓EVd, isCall, Nat.reduceAdd, Nat.reduceSub, Nat.reduceMul, Nat.reduceEqDiff, Nat.reduceBEq, Nat.reduceLT, Nat.reduceLeDiff, ↓reduceIte, reduceCtorEq, Nat.reduceShiftRight, Nat.reduceAnd, Nat.reduceBneDiff]
                  rw [hI1]
                  refine TI.here ⟨v14, (wr (v15 + 1)), l13, ?_, ?_, ?_, ?_, ?_, ?_, ?_, ?_, ?_, ?_, hm2⟩
                  all_goals first | omega | (simp only [kk1, e11, e20, e23, e24, e26, e106, e146, e164, e165, e167, Y_ref22_Findings, EV, ↓EVd, isCall, Nat.reduceAdd, Nat.reduceSub, Nat.reduceMul, Nat.reduceEqDiff, Nat.reduceBEq, Nat.reduceLT, Nat.reduceLeDiff, ↓reduceIte, reduceCtorEq, Nat.reduceShiftRight, Nat.reduceAnd, Nat.reduceBneDiff]; done) | (simp only [kk1, e11, e20, e23, e24, e26, e106, e146, e164, e165, e167, Y_ref22_Findings, EV, ↓EVd, isCall, Nat.reduceAdd, Nat.reduceSub, Nat.reduceMul, Nat.reduceEqDiff, Nat.reduceBEq, Nat.reduceLT, Nat.reduceLeDiff, ↓reduceIte, reduceCtorEq, Nat.reduceShiftRight, Nat.reduceAnd, Nat.reduceBneDiff]; omega) | (simp only [kk1, e11, e20, e23, e24, e26, e106, e146, e164, e165, e167, Y_ref22_Findings, EV, ↓EVd, isCall, Nat.reduceAdd, Nat.reduceSub, Nat.reduceMul, Nat.reduceEqDiff, Nat.reduceBEq, Nat.reduceLT, Nat.reduceLeDiff, ↓reduceIte, reduceCtorEq, Nat.reduceShiftRight, Nat.reduceAnd, Nat.reduceBneDiff]; congr 1; omega)
                · have e167 : v162 = false := Bool.eq_false_iff.2 h166
                  rw [if_neg h166] at hm2
                  try simp only [Option.bind_some] at hm2
                  simp only [kk1, e11, e20, e23, e24, e26, e106, e146, e164, e165, e167, Y_ref22_Findings, EV, ↓EVd, isCall, Nat.reduceAdd, Nat.reduceSub, Nat.reduceMul, Nat.reduceEqDiff, Nat.reduceBEq, Nat.reduceLT, Nat.reduceLeDiff, ↓reduceIte, reduceCtorEq, Nat.reduceShiftRight, Nat.reduceAnd, Nat.reduceBneDiff]
                  rw [hI1]
                  refine TI.here ⟨v14, (wr (v15 + 1)), l13, ?_, ?_, ?_, ?_, ?_, ?_, ?_, ?_, ?_, ?_, hm2⟩
                  all_goals first | omega | (simp only [kk1, e11, e20, e23, e24, e26, e106, e146, e164, e165, e167, Y_ref22_Findings, EV, ↓EVd, isCall, Nat.reduceAdd, Nat.reduceSub, Nat.reduceMul, Nat.reduceEqDiff, Nat.reduceBEq, Nat.reduceLT, Nat.reduceLeDiff, ↓reduceIte, reduceCtorEq, Nat.reduceShiftRight, Nat.reduceAnd, Nat.reduceBneDiff]; done) | (simp only [kk1, e11, e20, e23, e24, e26, e106, e146, e164, e165, e167, Y_ref22_Findings, EV, ↓EVd, isCall, Nat.reduceAdd, Nat.reduceSub, Nat.reduceMul, Nat.reduceEqDiff, Nat.reduceBEq, Nat.reduceLT, Nat.reduceLeDiff, ↓reduceIte, reduceCtorEq, Nat.reduceShiftRight, Nat.reduceAnd, Nat.reduceBneDiff]; omega) | (simp only [kk1, e11, e20, e23, e24, e26, e106, e146, e164, e165, e167, Y_ref22_Findings, EV, ↓EVd, isCall, Nat.reduceAdd, Nat.reduceSub, Nat.reduceMul, Nat.reduceEqDiff, Nat.reduceBEq, Nat.reduceLT, Nat.reduceLeDiff, ↓reduceIte, reduceCtorEq, Nat.reduceShiftRight, Nat.reduceAnd, Nat.reduceBneDiff]; congr 1; omega)
        · have e20 : (v15 < (v1.length : Int)) = False := eq_false h19
          rw [if_neg h19] at hm2
          try simp only [Option.bind_some, Option.some.injEq] at hm2
          simp only [kk1, e11, e20, Y_ref22_Findings, EV, ↓EVd, isCall, Nat.reduceAdd, Nat.reduceSub, Nat.reduceMul, Nat.reduceEqDiff, Nat.reduceBEq, Nat.reduceLT, Nat.reduceLeDiff, ↓reduceIte, reduceCtorEq, Nat.reduceShiftRight, Nat.reduceAnd, Nat.reduceBneDiff]
          rw [hJ1_0]
          refine TI.here ⟨v14, l13, ?_, ?_, ?_, ?_, ?_, ?_, ?_, ?_, ?_, hm2⟩
          all_goals first | omega | (simp only [kk1, e11, e20, Y_ref22_Findings, EV, ↓EVd, isCall, Nat.reduceAdd, Nat.reduceSub, Nat.reduceMul, Nat.reduceEqDiff, Nat.reduceBEq, Nat.reduceLT, Nat.reduceLeDiff, ↓reduceIte, reduceCtorEq, Nat.reduceShiftRight, Nat.reduceAnd, Nat.reduceBneDiff]; done) | (simp only [kk1, e11, e20, Y_ref22_Findings, EV, ↓EVd, isCall, Nat.reduceAdd, Nat.reduceSub, Nat.reduceMul, Nat.reduceEqDiff, Nat.reduceBEq, Nat.reduceLT, Nat.reduceLeDiff, ↓reduceIte, reduceCtorEq, Nat.reduceShiftRight, Nat.reduceAnd, Nat.reduceBneDiff]; omega) | (simp only [kk1, e11, e20, Y_ref22_Findings, EV, ↓EVd, isCall, Nat.reduceAdd, Nat.reduceSub, Nat.reduceMul, Nat.reduceEqDiff, Nat.reduceBEq, Nat.reduceLT, Nat.reduceLeDiff, ↓reduceIte, reduceCtorEq, Nat.reduceShiftRight, Nat.reduceAnd, Nat.reduceBneDiff]; congr 1; omega)
    · have e11 : (v6 ≤ 14) = False := eq_false h10
      rw [if_neg h10] at hm1
      try simp only [Option.bind_some, Option.some.injEq] at hm1
      simp only [kk0, e11, Y_ref22_Findings, EV, ↓EVd, isCall, Nat.reduceAdd, Nat.reduceSub, Nat.reduceMul, Nat.reduceEqDiff, Nat.reduceBEq, Nat.reduceLT, Nat.reduceLeDiff, ↓reduceIte, reduceCtorEq, Nat.reduceShiftRight, Nat.reduceAnd, Nat.reduceBneDiff]
      rw [hJ0_0]
      refine TI.here ⟨v5, l4, ?_, ?_, ?_, hm1⟩
      all_goals first | omega | (simp only [kk0, e11, Y_ref22_Findings, EV, ↓EVd, isCall, Nat.reduceAdd, Nat.reduceSub, Nat.reduceMul, Nat.reduceEqDiff, Nat.reduceBEq, Nat.reduceLT, Nat.reduceLeDiff, ↓reduceIte, reduceCtorEq, Nat.reduceShiftRight, Nat.reduceAnd, Nat.reduceBneDiff]; done) | (simp only [kk0, e11, Y_ref22_Findings, EV, ↓EVd, isCall, Nat.reduceAdd, Nat.reduceSub, Nat.reduceMul, Nat.reduceEqDiff, Nat.reduceBEq, Nat.reduceLT, Nat.reduceLeDiff, ↓reduceIte, reduceCtorEq, Nat.reduceShiftRight, Nat.reduceAnd, Nat.reduceBneDiff]; omega) | (simp only [kk0, e11, Y_ref22_Findings, EV, ↓EVd, isCall, Nat.reduceAdd, Nat.reduceSub, Nat.reduceMul, Nat.reduceEqDiff, Nat.reduceBEq, Nat.reduceLT, Nat.reduceLeDiff, ↓reduceIte, reduceCtorEq, Nat.reduceShiftRight, Nat.reduceAnd, Nat.reduceBneDiff]; congr 1; omega)
def m_handle_Find (a0 : Stack) (a1 : Origin) : Option (Node × Bool) := if a1.layer < 1 then some ((⟨0, 0, 0, 0, [], [], (⟨0, 0, noBytes, (⟨0, 0, 0⟩ : Origin), 0⟩ : Attr)⟩ : Node), false)
 else if (a0.lowers.length : Int) < a1.layer then some ((⟨0, 0, 0, 0, [], [], (⟨0, 0, noBytes, (⟨0, 0, 0⟩ : Origin), 0⟩ : Attr)⟩ : Node), false)
 else (ix a0.lowers (wr (a1.layer - 1))).bind fun v5 => if a1.ino < 1 then some ((⟨0, 0, 0, 0, [], [], (⟨0, 0, noBytes, (⟨0, 0, 0⟩ : Origin), 0⟩ : Attr)⟩ : Node), false)
 else if (v5.nodes.length : Int) < a1.ino then some ((⟨0, 0, 0, 0, [], [], (⟨0, 0, noBytes, (⟨0, 0, 0⟩ : Origin), 0⟩ : Attr)⟩ : Node), false)
 else (ix v5.nodes (wr (a1.ino - 1))).bind fun v13 => if v13.kind = 1 then if v13.gen = a1.gen then some (v13, true)
 else some ((⟨0, 0, 0, 0, [], [], (⟨0, 0, noBytes, (⟨0, 0, 0⟩ : Origin), 0⟩ : Attr)⟩ : Node), false)
 else if v13.kind = 2 then if v13.gen = a1.gen then some (v13, true)
 else some ((⟨0, 0, 0, 0, [], [], (⟨0, 0, noBytes, (⟨0, 0, 0⟩ : Origin), 0⟩ : Attr)⟩ : Node), false)
 else if v13.kind = 3 then if v13.gen = a1.gen then some (v13, true)
 else some ((⟨0, 0, 0, 0, [], [], (⟨0, 0, noBytes, (⟨0, 0, 0⟩ : Origin), 0⟩ : Attr)⟩ : Node), false)
 else some ((⟨0, 0, 0, 0, [], [], (⟨0, 0, noBytes, (⟨0, 0, 0⟩ : Origin), 0⟩ : Attr)⟩ : Node), false)
def Y_handle_Find := And.intro (And.intro (And.intro ((@R3)) (And.intro ((@R24)) ((@R26)))) (And.intro (And.intro ((@R27)) ((@R29))) (And.intro ((@R42)) ((@R46))))) (And.intro (And.intro ((@DGeo)) (And.intro ((@DBranch)) ((@DStack)))) (And.intro (And.intro ((@DOrigin)) ((@DAttr))) (And.intro ((@DNode)) ((@DEntry)))))
set_option maxHeartbeats 2000000 in
theorem ok_handle_Find (a0 : Stack) (a1 : Origin) (r : Node × Bool) (hm0 : m_handle_Find a0 a1 = some r) : Ok Try.prog 97 [encStack a0, encOrigin a1] (.tup [encNode r.1, bool r.2]) := by
  unfold m_handle_Find at hm0
  refine okF fc_handle_Find (by simp) ?_
  unfold c_handle_Find
  by_cases h1 : a1.layer < 1
  · have e2 : (a1.layer < 1) = True := eq_true h1
    rw [if_pos h1] at hm0
    simp only [Option.some.injEq] at hm0
    subst hm0
    simp only [e2, Y_handle_Find, EV, ↓EVd, isCall, Nat.reduceAdd, Nat.reduceSub, Nat.reduceMul, Nat.reduceEqDiff, Nat.reduceBEq, Nat.reduceLT, Nat.reduceLeDiff, ↓reduceIte, reduceCtorEq, Nat.reduceShiftRight, Nat.reduceAnd, Nat.reduceBneDiff]
    all_goals first | done | rfl | exact frzR_closed (by simp only [CLO]) | exact frzR_sub (by simp only [CLO]) (Sub.tup (Subs.cons (Sub.agg (Subs.cons (Sub.refl _) (Subs.cons (Sub.refl _) (Subs.cons (Sub.refl _) (Subs.cons (Sub.refl _) (Subs.cons (Sub.nilS _) (Subs.cons (Sub.nilS _) (Subs.cons (Sub.refl _) (Subs.cons (Sub.refl _) (Subs.cons (Sub.refl _) (Subs.cons (Sub.refl _) (Subs.cons (Sub.refl _) (Subs.cons (Sub.refl _) (Subs.cons (Sub.refl _) (Subs.nil))))))))))))))) (Subs.cons (Sub.refl _) (Subs.nil))))
  · have e2 : (a1.layer < 1) = False := eq_false h1
    rw [if_neg h1] at hm0
    by_cases h3 : (a0.lowers.length : Int) < a1.layer
    · have e4 : ((a0.lowers.length : Int) < a1.layer) = True := eq_true h3
      rw [if_pos h3] at hm0
      simp only [Option.some.injEq] at hm0
      subst hm0
      simp only [e2, e4, Y_handle_Find, EV, ↓EVd, isCall, Nat.reduceAdd, Nat.reduceSub, Nat.reduceMul, Nat.reduceEqDiff, Nat.reduceBEq, Nat.reduceLT, Nat.reduceLeDiff, ↓reduceIte, reduceCtorEq, Nat.reduceShiftRight, Nat.reduceAnd, Nat.reduceBneDiff]
      all_goals first | done | rfl | exact frzR_closed (by simp only [CLO]) | exact frzR_sub (by simp only [CLO]) (Sub.tup (Subs.cons (Sub.agg (Subs.cons (Sub.refl _) (Subs.cons (Sub.refl _) (Subs.cons (Sub.refl _) (Subs.cons (Sub.refl _) (Subs.cons (Sub.nilS _) (Subs.cons (Sub.nilS _) (Subs.cons (Sub.refl _) (Subs.cons (Sub.refl _) (Subs.cons (Sub.refl _) (Subs.cons (Sub.refl _) (Subs.cons (Sub.refl _) (Subs.cons (Sub.refl _) (Subs.cons (Sub.refl _) (Subs.nil))))))))))))))) (Subs.cons (Sub.refl _) (Subs.nil))))
    · have e4 : ((a0.lowers.length : Int) < a1.layer) = False := eq_false h3
      rw [if_neg h3] at hm0
      rcases h6 : ix a0.lowers (wr (a1.layer - 1)) with _ | v5
      · rw [h6] at hm0; simp only [Option.bind_none, reduceCtorEq] at hm0
      rw [h6] at hm0; simp only [Option.bind_some] at hm0
      have e7 := eq_true (ix_nonneg h6)
      have e8 := ix_enc encBranch h6
      by_cases h9 : a1.ino < 1
      · have e10 : (a1.ino < 1) = True := eq_true h9
        rw [if_pos h9] at hm0
        simp only [Option.some.injEq] at hm0
        subst hm0
        simp only [e2, e4, e7, e8, e10, Y_handle_Find, EV, ↓EVd, isCall, Nat.reduceAdd, Nat.reduceSub, Nat.reduceMul, Nat.reduceEqDiff, Nat.reduceBEq, Nat.reduceLT, Nat.reduceLeDiff, ↓reduceIte, reduceCtorEq, Nat.reduceShiftRight, Nat.reduceAnd, Nat.reduceBneDiff]
        all_goals first | done | rfl | exact frzR_closed (by simp only [CLO]) | exact frzR_sub (by simp only [CLO]) (Sub.tup (Subs.cons (Sub.agg (Subs.cons (Sub.refl _) (Subs.cons (Sub.refl _) (Subs.cons (Sub.refl _) (Subs.cons (Sub.refl _) (Subs.cons (Sub.nilS _) (Subs.cons (Sub.nilS _) (Subs.cons (Sub.refl _) (Subs.cons (Sub.refl _) (Subs.cons (Sub.refl _) (Subs.cons (Sub.refl _) (Subs.cons (Sub.refl _) (Subs.cons (Sub.refl _) (Subs.cons (Sub.refl _) (Subs.nil))))))))))))))) (Subs.cons (Sub.refl _) (Subs.nil))))
      · have e10 : (a1.ino < 1) = False := eq_false h9
        rw [if_neg h9] at hm0
        by_cases h11 : (v5.nodes.length : Int) < a1.ino
        · have e12 : ((v5.nodes.length : Int) < a1.ino) = True := eq_true h11
          rw [if_pos h11] at hm0
          simp only [Option.some.injEq] at hm0
          subst hm0
          simp only [e2, e4, e7, e8, e10, e12, Y_handle_Find, EV, ↓EVd, isCall, Nat.reduceAdd, Nat.reduceSub, Nat.reduceMul, Nat.reduceEqDiff, Nat.reduceBEq, Nat.reduceLT, Nat.reduceLeDiff, ↓reduceIte, reduceCtorEq, Nat.reduceShiftRight, Nat.reduceAnd, Nat.reduceBneDiff]
          all_goals first | done | rfl | exact frzR_closed (by simp only [CLO]) | exact frzR_sub (by simp only [CLO]) (Sub.tup (Subs.cons (Sub.agg (Subs.cons (Sub.refl _) (Subs.cons (Sub.refl _) (Subs.cons (Sub.refl _) (Subs.cons (Sub.refl _) (Subs.cons (Sub.nilS _) (Subs.cons (Sub.nilS _) (Subs.cons (Sub.refl _) (Subs.cons (Sub.refl _) (Subs.cons (Sub.refl _) (Subs.cons (Sub.refl _) (Subs.cons (Sub.refl _) (Subs.cons (Sub.refl _) (Subs.cons (Sub.refl _) (Subs.nil))))))))))))))) (Subs.cons (Sub.refl _) (Subs.nil))))
        · have e12 : ((v5.nodes.length : Int) < a1.ino) = False := eq_false h11
          rw [if_neg h11] at hm0
          rcases h14 : ix v5.nodes (wr (a1.ino - 1)) with _ | v13
          · rw [h14] at hm0; simp only [Option.bind_none, reduceCtorEq] at hm0
          rw [h14] at hm0; simp only [Option.bind_some] at hm0
          have e15 := eq_true (ix_nonneg h14)
          have e16 := ix_enc encNode h14
          by_cases h17 : v13.kind = 1
          · have e18 : (v13.kind = 1) = True := eq_true h17
            rw [if_pos h17] at hm0
            by_cases h19 : v13.gen = a1.gen
            · have e20 : (v13.gen = a1.gen) = True := eq_true h19
              rw [if_pos h19] at hm0
              simp only [Option.some.injEq] at hm0
              subst hm0
              simp only [e2, e4, e7, e8, e10, e12, e15, e16, e18, e20, Y_handle_Find, EV, ↓EVd, isCall, Nat.reduceAdd, Nat.reduceSub, Nat.reduceMul, Nat.reduceEqDiff, Nat.reduceBEq, Nat.reduceLT, Nat.reduceLeDiff, ↓reduceIte, reduceCtorEq, Nat.reduceShiftRight, Nat.reduceAnd, Nat.reduceBneDiff]
              all_goals first | done | rfl | exact frzR_closed (by simp only [CLO]) | exact frzR_sub (by simp only [CLO]) (Sub.tup (Subs.cons (Sub.refl _) (Subs.cons (Sub.refl _) (Subs.nil))))
            · have e20 : (v13.gen = a1.gen) = False := eq_false h19
              rw [if_neg h19] at hm0
              simp only [Option.some.injEq] at hm0
              subst hm0
              simp only [e2, e4, e7, e8, e10, e12, e15, e16, e18, e20, Y_handle_Find, EV, ↓EVd, isCall, Nat.reduceAdd, Nat.reduceSub, Nat.reduceMul, Nat.reduceEqDiff, Nat.reduceBEq, Nat.reduceLT, Nat.reduceLeDiff, ↓reduceIte, reduceCtorEq, Nat.reduceShiftRight, Nat.reduceAnd, Nat.reduceBneDiff]
              all_goals first | done | rfl | exact frzR_closed (by simp only [CLO]) | exact frzR_sub (by simp only [CLO]) (Sub.tup (Subs.cons (Sub.agg (Subs.cons (Sub.refl _) (Subs.cons (Sub.refl _) (Subs.cons (Sub.refl _) (Subs.cons (Sub.refl _) (Subs.cons (Sub.nilS _) (Subs.cons (Sub.nilS _) (Subs.cons (Sub.refl _) (Subs.cons (Sub.refl _) (Subs.cons (Sub.refl _) (Subs.cons (Sub.refl _) (Subs.cons (Sub.refl _) (Subs.cons (Sub.refl _) (Subs.cons (Sub.refl _) (Subs.nil))))))))))))))) (Subs.cons (Sub.refl _) (Subs.nil))))
          · have e18 : (v13.kind = 1) = False := eq_false h17
            rw [if_neg h17] at hm0
            by_cases h21 : v13.kind = 2
            · have e22 : (v13.kind = 2) = True := eq_true h21
              rw [if_pos h21] at hm0
              by_cases h23 : v13.gen = a1.gen
              · have e24 : (v13.gen = a1.gen) = True := eq_true h23
                rw [if_pos h23] at hm0
                simp only [Option.some.injEq] at hm0
                subst hm0
                simp only [e2, e4, e7, e8, e10, e12, e15, e16, e18, e22, e24, Y_handle_Find, EV, ↓EVd, isCall, Nat.reduceAdd, Nat.reduceSub, Nat.reduceMul, Nat.reduceEqDiff, Nat.reduceBEq, Nat.reduceLT, Nat.reduceLeDiff, ↓reduceIte, reduceCtorEq, Nat.reduceShiftRight, Nat.reduceAnd, Nat.reduceBneDiff]
                all_goals first | done | rfl | exact frzR_closed (by simp only [CLO]) | exact frzR_sub (by simp only [CLO]) (Sub.tup (Subs.cons (Sub.refl _) (Subs.cons (Sub.refl _) (Subs.nil))))
              · have e24 : (v13.gen = a1.gen) = False := eq_false h23
                rw [if_neg h23] at hm0
                simp only [Option.some.injEq] at hm0
                subst hm0
                simp only [e2, e4, e7, e8, e10, e12, e15, e16, e18, e22, e24, Y_handle_Find, EV, ↓EVd, isCall, Nat.reduceAdd, Nat.reduceSub, Nat.reduceMul, Nat.reduceEqDiff, Nat.reduceBEq, Nat.reduceLT, Nat.reduceLeDiff, ↓reduceIte, reduceCtorEq, Nat.reduceShiftRight, Nat.reduceAnd, Nat.reduceBneDiff]
                all_goals first | done | rfl | exact frzR_closed (by simp only [CLO]) | exact frzR_sub (by simp only [CLO]) (Sub.tup (Subs.cons (Sub.agg (Subs.cons (Sub.refl _) (Subs.cons (Sub.refl _) (Subs.cons (Sub.refl _) (Subs.cons (Sub.refl _) (Subs.cons (Sub.nilS _) (Subs.cons (Sub.nilS _) (Subs.cons (Sub.refl _) (Subs.cons (Sub.refl _) (Subs.cons (Sub.refl _) (Subs.cons (Sub.refl _) (Subs.cons (Sub.refl _) (Subs.cons (Sub.refl _) (Subs.cons (Sub.refl _) (Subs.nil))))))))))))))) (Subs.cons (Sub.refl _) (Subs.nil))))
            · have e22 : (v13.kind = 2) = False := eq_false h21
              rw [if_neg h21] at hm0
              by_cases h25 : v13.kind = 3
              · have e26 : (v13.kind = 3) = True := eq_true h25
                rw [if_pos h25] at hm0
                by_cases h27 : v13.gen = a1.gen
                · have e28 : (v13.gen = a1.gen) = True := eq_true h27
                  rw [if_pos h27] at hm0
                  simp only [Option.some.injEq] at hm0
                  subst hm0
                  simp only [e2, e4, e7, e8, e10, e12, e15, e16, e18, e22, e26, e28, Y_handle_Find, EV, ↓EVd, isCall, Nat.reduceAdd, Nat.reduceSub, Nat.reduceMul, Nat.reduceEqDiff, Nat.reduceBEq, Nat.reduceLT, Nat.reduceLeDiff, ↓reduceIte, reduceCtorEq, Nat.reduceShiftRight, Nat.reduceAnd, Nat.reduceBneDiff]
                  all_goals first | done | rfl | exact frzR_closed (by simp only [CLO]) | exact frzR_sub (by simp only [CLO]) (Sub.tup (Subs.cons (Sub.refl _) (Subs.cons (Sub.refl _) (Subs.nil))))
                · have e28 : (v13.gen = a1.gen) = False := eq_false h27
                  rw [if_neg h27] at hm0
                  simp only [Option.some.injEq] at hm0
                  subst hm0
                  simp only [e2, e4, e7, e8, e10, e12, e15, e16, e18, e22, e26, e28, Y_handle_Find, EV, ↓EVd, isCall, Nat.reduceAdd, Nat.reduceSub, Nat.reduceMul, Nat.reduceEqDiff, Nat.reduceBEq, Nat.reduceLT, Nat.reduceLeDiff, ↓reduceIte, reduceCtorEq, Nat.reduceShiftRight, Nat.reduceAnd, Nat.reduceBneDiff]
                  all_goals first | done | rfl | exact frzR_closed (by simp only [CLO]) | exact frzR_sub (by simp only [CLO]) (Sub.tup (Subs.cons (Sub.agg (Subs.cons (Sub.refl _) (Subs.cons (Sub.refl _) (Subs.cons (Sub.refl _) (Subs.cons (Sub.refl _) (Subs.cons (Sub.nilS _) (Subs.cons (Sub.nilS _) (Subs.cons (Sub.refl _) (Subs.cons (Sub.refl _) (Subs.cons (Sub.refl _) (Subs.cons (Sub.refl _) (Subs.cons (Sub.refl _) (Subs.cons (Sub.refl _) (Subs.cons (Sub.refl _) (Subs.nil))))))))))))))) (Subs.cons (Sub.refl _) (Subs.nil))))
              · have e26 : (v13.kind = 3) = False := eq_false h25
                rw [if_neg h25] at hm0
                simp only [Option.some.injEq] at hm0
                subst hm0
                simp only [e2, e4, e7, e8, e10, e12, e15, e16, e18, e22, e26, Y_handle_Find, EV, ↓EVd, isCall, Nat.reduceAdd, Nat.reduceSub, Nat.reduceMul, Nat.reduceEqDiff, Nat.reduceBEq, Nat.reduceLT, Nat.reduceLeDiff, ↓reduceIte, reduceCtorEq, Nat.reduceShiftRight, Nat.reduceAnd, Nat.reduceBneDiff]
                all_goals first | done | rfl | exact frzR_closed (by simp only [CLO]) | exact frzR_sub (by simp only [CLO]) (Sub.tup (Subs.cons (Sub.agg (Subs.cons (Sub.refl _) (Subs.cons (Sub.refl _) (Subs.cons (Sub.refl _) (Subs.cons (Sub.refl _) (Subs.cons (Sub.nilS _) (Subs.cons (Sub.nilS _) (Subs.cons (Sub.refl _) (Subs.cons (Sub.refl _) (Subs.cons (Sub.refl _) (Subs.cons (Sub.refl _) (Subs.cons (Sub.refl _) (Subs.cons (Sub.refl _) (Subs.cons (Sub.refl _) (Subs.nil))))))))))))))) (Subs.cons (Sub.refl _) (Subs.nil))))
def m_origin_has (a0 : Node) (a1 : Int) : Option (Bool) := if 0 ≤ a0.attr.has then if (bAnd .i64 a0.attr.has a1) = 0 then some false
 else some true
 else some false
def Y_origin_has := And.intro (And.intro ((@R3)) (And.intro ((@R44)) ((@R46)))) (And.intro (And.intro ((@DOrigin)) ((@DAttr))) (And.intro ((@DNode)) ((@DEntry))))
set_option maxHeartbeats 2000000 in
theorem ok_origin_has (a0 : Node) (a1 : Int) (r : Bool) (hm0 : m_origin_has a0 a1 = some r) : Ok Try.prog 69 [encNode a0, int a1] (bool r) := by
  unfold m_origin_has at hm0
  refine okF fc_origin_has (by simp) ?_
  unfold c_origin_has
  by_cases h1 : 0 ≤ a0.attr.has
  · have e2 : (0 ≤ a0.attr.has) = True := eq_true h1
    rw [if_pos h1] at hm0
    by_cases h3 : (bAnd .i64 a0.attr.has a1) = 0
    · have e4 : ((bAnd .i64 a0.attr.has a1) = 0) = True := eq_true h3
      rw [if_pos h3] at hm0
      simp only [Option.some.injEq] at hm0
      subst hm0
      simp only [e2, e4, Y_origin_has, EV, ↓EVd, isCall, Nat.reduceAdd, Nat.reduceSub, Nat.reduceMul, Nat.reduceEqDiff, Nat.reduceBEq, Nat.reduceLT, Nat.reduceLeDiff, ↓reduceIte, reduceCtorEq, Nat.reduceShiftRight, Nat.reduceAnd, Nat.reduceBneDiff]
      all_goals first | done | rfl
    · have e4 : ((bAnd .i64 a0.attr.has a1) = 0) = False := eq_false h3
      rw [if_neg h3] at hm0
      simp only [Option.some.injEq] at hm0
      subst hm0
      simp only [e2, e4, Y_origin_has, EV, ↓EVd, isCall, Nat.reduceAdd, Nat.reduceSub, Nat.reduceMul, Nat.reduceEqDiff, Nat.reduceBEq, Nat.reduceLT, Nat.reduceLeDiff, ↓reduceIte, reduceCtorEq, Nat.reduceShiftRight, Nat.reduceAnd, Nat.reduceBneDiff]
      all_goals first | done | rfl
  · have e2 : (0 ≤ a0.attr.has) = False := eq_false h1
    rw [if_neg h1] at hm0
    simp only [Option.some.injEq] at hm0
    subst hm0
    simp only [e2, Y_origin_has, EV, ↓EVd, isCall, Nat.reduceAdd, Nat.reduceSub, Nat.reduceMul, Nat.reduceEqDiff, Nat.reduceBEq, Nat.reduceLT, Nat.reduceLeDiff, ↓reduceIte, reduceCtorEq, Nat.reduceShiftRight, Nat.reduceAnd, Nat.reduceBneDiff]
    all_goals first | done | rfl
def m_origin_kind (a0 : Stack) (a1 : Node) : Option (Int) := (m_origin_has a1 4).bind fun v1 => if (!v1) = true then some 0
 else (m_handle_Find a0 a1.attr.origin).bind fun v5 => some v5.1.kind
def Y_origin_kind := And.intro (And.intro (And.intro ((@R3)) (And.intro ((@R29)) ((@R42)))) (And.intro ((@R44)) (And.intro ((@R46)) ((@DGeo))))) (And.intro (And.intro ((@DBranch)) (And.intro ((@DStack)) ((@DOrigin)))) (And.intro ((@DAttr)) (And.intro ((@DNode)) ((@DEntry)))))
set_option maxHeartbeats 2000000 in
theorem ok_origin_kind (a0 : Stack) (a1 : Node) (r : Int) (hm0 : m_origin_kind a0 a1 = some r) : Ok Try.prog 70 [encStack a0, encNode a1] (int r) := by
  unfold m_origin_kind at hm0
  refine okF fc_origin_kind (by simp) ?_
  unfold c_origin_kind
  rcases h2 : m_origin_has a1 4 with _ | v1
  · rw [h2] at hm0; simp only [Option.bind_none, reduceCtorEq] at hm0
  rw [h2] at hm0; simp only [Option.bind_some] at hm0
  simp only [Y_origin_kind, EV, ↓EVd, isCall, Nat.reduceAdd, Nat.reduceSub, Nat.reduceMul, Nat.reduceEqDiff, Nat.reduceBEq, Nat.reduceLT, Nat.reduceLeDiff, ↓reduceIte, reduceCtorEq, Nat.reduceShiftRight, Nat.reduceAnd, Nat.reduceBneDiff]
  refine S1_ok (ok_origin_has _ _ _ h2) rfl (by simp only [CLO]) ?_
  by_cases h3 : (!v1) = true
  · have e4 : (!v1) = true := h3
    rw [if_pos h3] at hm0
    simp only [Option.some.injEq] at hm0
    subst hm0
    simp only [e4, Y_origin_kind, EV, ↓EVd, isCall, Nat.reduceAdd, Nat.reduceSub, Nat.reduceMul, Nat.reduceEqDiff, Nat.reduceBEq, Nat.reduceLT, Nat.reduceLeDiff, ↓reduceIte, reduceCtorEq, Nat.reduceShiftRight, Nat.reduceAnd, Nat.reduceBneDiff]
    all_goals first | done | rfl
  · have e4 : (!v1) = false := Bool.eq_false_iff.2 h3
    rw [if_neg h3] at hm0
    rcases h6 : m_handle_Find a0 a1.attr.origin with _ | v5
    · rw [h6] at hm0; simp only [Option.bind_none, reduceCtorEq] at hm0
    rw [h6] at hm0; simp only [Option.bind_some] at hm0
    simp only [e4, Y_origin_kind, EV, ↓EVd, isCall, Nat.reduceAdd, Nat.reduceSub, Nat.reduceMul, Nat.reduceEqDiff, Nat.reduceBEq, Nat.reduceLT, Nat.reduceLeDiff, ↓reduceIte, reduceCtorEq, Nat.reduceShiftRight, Nat.reduceAnd, Nat.reduceBneDiff]
    refine S1_ok (ok_handle_Find _ _ _ h6) rfl (by simp only [CLO]) ?_
    simp only [Option.some.injEq] at hm0
    subst hm0
    simp only [e4, Y_origin_kind, EV, ↓EVd, isCall, Nat.reduceAdd, Nat.reduceSub, Nat.reduceMul, Nat.reduceEqDiff, Nat.reduceBEq, Nat.reduceLT, Nat.reduceLeDiff, ↓reduceIte, reduceCtorEq, Nat.reduceShiftRight, Nat.reduceAnd, Nat.reduceBneDiff]
    all_goals first | done | rfl
def m_origin_Odd (a0 : Node) : Option (Bool) := (m_origin_has a0 1).bind fun v1 => if v1 = true then if a0.kind = 1 then if a0.attr.opaque0 = 121 then some false
 else some true
 else some true
 else some false
def Y_origin_Odd := And.intro (And.intro ((@R3)) (And.intro ((@R44)) ((@R46)))) (And.intro (And.intro ((@DOrigin)) ((@DAttr))) (And.intro ((@DNode)) ((@DEntry))))
set_option maxHeartbeats 2000000 in
theorem ok_origin_Odd (a0 : Node) (r : Bool) (hm0 : m_origin_Odd a0 = some r) : Ok Try.prog 28 [encNode a0] (bool r) := by
  unfold m_origin_Odd at hm0
  refine okF fc_origin_Odd (by simp) ?_
  unfold c_origin_Odd
  rcases h2 : m_origin_has a0 1 with _ | v1
  · rw [h2] at hm0; simp only [Option.bind_none, reduceCtorEq] at hm0
  rw [h2] at hm0; simp only [Option.bind_some] at hm0
  simp only [Y_origin_Odd, EV, ↓EVd, isCall, Nat.reduceAdd, Nat.reduceSub, Nat.reduceMul, Nat.reduceEqDiff, Nat.reduceBEq, Nat.reduceLT, Nat.reduceLeDiff, ↓reduceIte, reduceCtorEq, Nat.reduceShiftRight, Nat.reduceAnd, Nat.reduceBneDiff]
  refine S1_ok (ok_origin_has _ _ _ h2) rfl (by simp only [CLO]) ?_
  by_cases h3 : v1 = true
  · have e4 : v1 = true := h3
    rw [if_pos h3] at hm0
    by_cases h5 : a0.kind = 1
    · have e6 : (a0.kind = 1) = True := eq_true h5
      rw [if_pos h5] at hm0
      by_cases h7 : a0.attr.opaque0 = 121
      · have e8 : (a0.attr.opaque0 = 121) = True := eq_true h7
        rw [if_pos h7] at hm0
        simp only [Option.some.injEq] at hm0
        subst hm0
        simp only [e4, e6, e8, Y_origin_Odd, EV, ↓EVd, isCall, Nat.reduceAdd, Nat.reduceSub, Nat.reduceMul, Nat.reduceEqDiff, Nat.reduceBEq, Nat.reduceLT, Nat.reduceLeDiff, ↓reduceIte, reduceCtorEq, Nat.reduceShiftRight, Nat.reduceAnd, Nat.reduceBneDiff]
        all_goals first | done | rfl
      · have e8 : (a0.attr.opaque0 = 121) = False := eq_false h7
        rw [if_neg h7] at hm0
        simp only [Option.some.injEq] at hm0
        subst hm0
        simp only [e4, e6, e8, Y_origin_Odd, EV, ↓EVd, isCall, Nat.reduceAdd, Nat.reduceSub, Nat.reduceMul, Nat.reduceEqDiff, Nat.reduceBEq, Nat.reduceLT, Nat.reduceLeDiff, ↓reduceIte, reduceCtorEq, Nat.reduceShiftRight, Nat.reduceAnd, Nat.reduceBneDiff]
        all_goals first | done | rfl
    · have e6 : (a0.kind = 1) = False := eq_false h5
      rw [if_neg h5] at hm0
      simp only [Option.some.injEq] at hm0
      subst hm0
      simp only [e4, e6, Y_origin_Odd, EV, ↓EVd, isCall, Nat.reduceAdd, Nat.reduceSub, Nat.reduceMul, Nat.reduceEqDiff, Nat.reduceBEq, Nat.reduceLT, Nat.reduceLeDiff, ↓reduceIte, reduceCtorEq, Nat.reduceShiftRight, Nat.reduceAnd, Nat.reduceBneDiff]
      all_goals first | done | rfl
  · have e4 : v1 = false := Bool.eq_false_iff.2 h3
    rw [if_neg h3] at hm0
    simp only [Option.some.injEq] at hm0
    subst hm0
    simp only [e4, Y_origin_Odd, EV, ↓EVd, isCall, Nat.reduceAdd, Nat.reduceSub, Nat.reduceMul, Nat.reduceEqDiff, Nat.reduceBEq, Nat.reduceLT, Nat.reduceLeDiff, ↓reduceIte, reduceCtorEq, Nat.reduceShiftRight, Nat.reduceAnd, Nat.reduceBneDiff]
    all_goals first | done | rfl
def m_origin_Stale (a0 : Stack) (a1 : Node) : Option (Bool) := (m_origin_has a1 4).bind fun v1 => if (!v1) = true then some false
 else (m_origin_kind a0 a1).bind fun v5 => if a1.kind = 1 then if v5 = 1 then some false
 else some true
 else if a1.kind = 2 then if v5 = 0 then some true
 else if v5 = 1 then some true
 else some false
 else if a1.kind = 3 then if v5 = 0 then some true
 else if v5 = 1 then some true
 else some false
 else some true
def Y_origin_Stale := And.intro (And.intro (And.intro ((@R3)) ((@R29))) (And.intro ((@R46)) (And.intro ((@DGeo)) ((@DBranch))))) (And.intro (And.intro ((@DStack)) ((@DOrigin))) (And.intro ((@DAttr)) (And.intro ((@DNode)) ((@DEntry)))))
set_option maxHeartbeats 2000000 in
theorem ok_origin_Stale (a0 : Stack) (a1 : Node) (r : Bool) (hm0 : m_origin_Stale a0 a1 = some r) : Ok Try.prog 30 [encStack a0, encNode a1] (bool r) := by
  unfold m_origin_Stale at hm0
  refine okF fc_origin_Stale (by simp) ?_
  unfold c_origin_Stale
  rcases h2 : m_origin_has a1 4 with _ | v1
  · rw [h2] at hm0; simp only [Option.bind_none, reduceCtorEq] at hm0
  rw [h2] at hm0; simp only [Option.bind_some] at hm0
  simp only [Y_origin_Stale, EV, ↓EVd, isCall, Nat.reduceAdd, Nat.reduceSub, Nat.reduceMul, Nat.reduceEqDiff, Nat.reduceBEq, Nat.reduceLT, Nat.reduceLeDiff, ↓reduceIte, reduceCtorEq, Nat.reduceShiftRight, Nat.reduceAnd, Nat.reduceBneDiff]
  refine S1_ok (ok_origin_has _ _ _ h2) rfl (by simp only [CLO]) ?_
  by_cases h3 : (!v1) = true
  · have e4 : (!v1) = true := h3
    rw [if_pos h3] at hm0
    simp only [Option.some.injEq] at hm0
    subst hm0
    simp only [e4, Y_origin_Stale, EV, ↓EVd, isCall, Nat.reduceAdd, Nat.reduceSub, Nat.reduceMul, Nat.reduceEqDiff, Nat.reduceBEq, Nat.reduceLT, Nat.reduceLeDiff, ↓reduceIte, reduceCtorEq, Nat.reduceShiftRight, Nat.reduceAnd, Nat.reduceBneDiff]
    all_goals first | done | rfl
  · have e4 : (!v1) = false := Bool.eq_false_iff.2 h3
    rw [if_neg h3] at hm0
    rcases h6 : m_origin_kind a0 a1 with _ | v5
    · rw [h6] at hm0; simp only [Option.bind_none, reduceCtorEq] at hm0
    rw [h6] at hm0; simp only [Option.bind_some] at hm0
    simp only [e4, Y_origin_Stale, EV, ↓EVd, isCall, Nat.reduceAdd, Nat.reduceSub, Nat.reduceMul, Nat.reduceEqDiff, Nat.reduceBEq, Nat.reduceLT, Nat.reduceLeDiff, ↓reduceIte, reduceCtorEq, Nat.reduceShiftRight, Nat.reduceAnd, Nat.reduceBneDiff]
    refine S1_ok (ok_origin_kind _ _ _ h6) rfl (by simp only [CLO]) ?_
    by_cases h7 : a1.kind = 1
    · have e8 : (a1.kind = 1) = True := eq_true h7
      rw [if_pos h7] at hm0
      by_cases h9 : v5 = 1
      · have e10 : (v5 = 1) = True := eq_true h9
        rw [if_pos h9] at hm0
        simp only [Option.some.injEq] at hm0
        subst hm0
        simp only [e4, e8, e10, Y_origin_Stale, EV, ↓EVd, isCall, Nat.reduceAdd, Nat.reduceSub, Nat.reduceMul, Nat.reduceEqDiff, Nat.reduceBEq, Nat.reduceLT, Nat.reduceLeDiff, ↓reduceIte, reduceCtorEq, Nat.reduceShiftRight, Nat.reduceAnd, Nat.reduceBneDiff]
        all_goals first | done | rfl
      · have e10 : (v5 = 1) = False := eq_false h9
        rw [if_neg h9] at hm0
        simp only [Option.some.injEq] at hm0
        subst hm0
        simp only [e4, e8, e10, Y_origin_Stale, EV, ↓EVd, isCall, Nat.reduceAdd, Nat.reduceSub, Nat.reduceMul, Nat.reduceEqDiff, Nat.reduceBEq, Nat.reduceLT, Nat.reduceLeDiff, ↓reduceIte, reduceCtorEq, Nat.reduceShiftRight, Nat.reduceAnd, Nat.reduceBneDiff]
        all_goals first | done | rfl
    · have e8 : (a1.kind = 1) = False := eq_false h7
      rw [if_neg h7] at hm0
      by_cases h11 : a1.kind = 2
      · have e12 : (a1.kind = 2) = True := eq_true h11
        rw [if_pos h11] at hm0
        by_cases h13 : v5 = 0
        · have e14 : (v5 = 0) = True := eq_true h13
          rw [if_pos h13] at hm0
          simp only [Option.some.injEq] at hm0
          subst hm0
          simp only [e4, e8, e12, e14, Y_origin_Stale, EV, ↓EVd, isCall, Nat.reduceAdd, Nat.reduceSub, Nat.reduceMul, Nat.reduceEqDiff, Nat.reduceBEq, Nat.reduceLT, Nat.reduceLeDiff, ↓reduceIte, reduceCtorEq, Nat.reduceShiftRight, Nat.reduceAnd, Nat.reduceBneDiff]
          all_goals first | done | rfl
        · have e14 : (v5 = 0) = False := eq_false h13
          rw [if_neg h13] at hm0
          by_cases h15 : v5 = 1
          · have e16 : (v5 = 1) = True := eq_true h15
            rw [if_pos h15] at hm0
            simp only [Option.some.injEq] at hm0
            subst hm0
            simp only [e4, e8, e12, e14, e16, Y_origin_Stale, EV, ↓EVd, isCall, Nat.reduceAdd, Nat.reduceSub, Nat.reduceMul, Nat.reduceEqDiff, Nat.reduceBEq, Nat.reduceLT, Nat.reduceLeDiff, ↓reduceIte, reduceCtorEq, Nat.reduceShiftRight, Nat.reduceAnd, Nat.reduceBneDiff]
            all_goals first | done | rfl
          · have e16 : (v5 = 1) = False := eq_false h15
            rw [if_neg h15] at hm0
            simp only [Option.some.injEq] at hm0
            subst hm0
            simp only [e4, e8, e12, e14, e16, Y_origin_Stale, EV, ↓EVd, isCall, Nat.reduceAdd, Nat.reduceSub, Nat.reduceMul, Nat.reduceEqDiff, Nat.reduceBEq, Nat.reduceLT, Nat.reduceLeDiff, ↓reduceIte, reduceCtorEq, Nat.reduceShiftRight, Nat.reduceAnd, Nat.reduceBneDiff]
            all_goals first | done | rfl
      · have e12 : (a1.kind = 2) = False := eq_false h11
        rw [if_neg h11] at hm0
        by_cases h17 : a1.kind = 3
        · have e18 : (a1.kind = 3) = True := eq_true h17
          rw [if_pos h17] at hm0
          by_cases h19 : v5 = 0
          · have e20 : (v5 = 0) = True := eq_true h19
            rw [if_pos h19] at hm0
            simp only [Option.some.injEq] at hm0
            subst hm0
            simp only [e4, e8, e12, e18, e20, Y_origin_Stale, EV, ↓EVd, isCall, Nat.reduceAdd, Nat.reduceSub, Nat.reduceMul, Nat.reduceEqDiff, Nat.reduceBEq, Nat.reduceLT, Nat.reduceLeDiff, ↓reduceIte, reduceCtorEq, Nat.reduceShiftRight, Nat.reduceAnd, Nat.reduceBneDiff]
            all_goals first | done | rfl
          · have e20 : (v5 = 0) = False := eq_false h19
            rw [if_neg h19] at hm0
            by_cases h21 : v5 = 1
            · have e22 : (v5 = 1) = True := eq_true h21
              rw [if_pos h21] at hm0
              simp only [Option.some.injEq] at hm0
              subst hm0
              simp only [e4, e8, e12, e18, e20, e22, Y_origin_Stale, EV, ↓EVd, isCall, Nat.reduceAdd, Nat.reduceSub, Nat.reduceMul, Nat.reduceEqDiff, Nat.reduceBEq, Nat.reduceLT, Nat.reduceLeDiff, ↓reduceIte, reduceCtorEq, Nat.reduceShiftRight, Nat.reduceAnd, Nat.reduceBneDiff]
              all_goals first | done | rfl
            · have e22 : (v5 = 1) = False := eq_false h21
              rw [if_neg h21] at hm0
              simp only [Option.some.injEq] at hm0
              subst hm0
              simp only [e4, e8, e12, e18, e20, e22, Y_origin_Stale, EV, ↓EVd, isCall, Nat.reduceAdd, Nat.reduceSub, Nat.reduceMul, Nat.reduceEqDiff, Nat.reduceBEq, Nat.reduceLT, Nat.reduceLeDiff, ↓reduceIte, reduceCtorEq, Nat.reduceShiftRight, Nat.reduceAnd, Nat.reduceBneDiff]
              all_goals first | done | rfl
        · have e18 : (a1.kind = 3) = False := eq_false h17
          rw [if_neg h17] at hm0
          simp only [Option.some.injEq] at hm0
          subst hm0
          simp only [e4, e8, e12, e18, Y_origin_Stale, EV, ↓EVd, isCall, Nat.reduceAdd, Nat.reduceSub, Nat.reduceMul, Nat.reduceEqDiff, Nat.reduceBEq, Nat.reduceLT, Nat.reduceLeDiff, ↓reduceIte, reduceCtorEq, Nat.reduceShiftRight, Nat.reduceAnd, Nat.reduceBneDiff]
          all_goals first | done | rfl
def m_origin_Lacks (a0 : Stack) (a1 : Node) : Option (Bool) := (m_origin_has a1 16).bind fun v1 => if v1 = true then if a1.kind = 2 then (m_origin_kind a0 a1).bind fun v7 => if v7 = 2 then some false
 else some true
 else some true
 else some false
def Y_origin_Lacks := And.intro (And.intro (And.intro ((@R3)) ((@R29))) (And.intro ((@R46)) (And.intro ((@DGeo)) ((@DBranch))))) (And.intro (And.intro ((@DStack)) ((@DOrigin))) (And.intro ((@DAttr)) (And.intro ((@DNode)) ((@DEntry)))))
set_option maxHeartbeats 2000000 in
theorem ok_origin_Lacks (a0 : Stack) (a1 : Node) (r : Bool) (hm0 : m_origin_Lacks a0 a1 = some r) : Ok Try.prog 32 [encStack a0, encNode a1] (bool r) := by
  unfold m_origin_Lacks at hm0
  refine okF fc_origin_Lacks (by simp) ?_
  unfold c_origin_Lacks
  rcases h2 : m_origin_has a1 16 with _ | v1
  · rw [h2] at hm0; simp only [Option.bind_none, reduceCtorEq] at hm0
  rw [h2] at hm0; simp only [Option.bind_some] at hm0
  simp only [Y_origin_Lacks, EV, ↓EVd, isCall, Nat.reduceAdd, Nat.reduceSub, Nat.reduceMul, Nat.reduceEqDiff, Nat.reduceBEq, Nat.reduceLT, Nat.reduceLeDiff, ↓reduceIte, reduceCtorEq, Nat.reduceShiftRight, Nat.reduceAnd, Nat.reduceBneDiff]
  refine S1_ok (ok_origin_has _ _ _ h2) rfl (by simp only [CLO]) ?_
  by_cases h3 : v1 = true
  · have e4 : v1 = true := h3
    rw [if_pos h3] at hm0
    by_cases h5 : a1.kind = 2
    · have e6 : (a1.kind = 2) = True := eq_true h5
      rw [if_pos h5] at hm0
      rcases h8 : m_origin_kind a0 a1 with _ | v7
      · rw [h8] at hm0; simp only [Option.bind_none, reduceCtorEq] at hm0
      rw [h8] at hm0; simp only [Option.bind_some] at hm0
      simp only [e4, e6, Y_origin_Lacks, EV, ↓EVd, isCall, Nat.reduceAdd, Nat.reduceSub, Nat.reduceMul, Nat.reduceEqDiff, Nat.reduceBEq, Nat.reduceLT, Nat.reduceLeDiff, ↓reduceIte, reduceCtorEq, Nat.reduceShiftRight, Nat.reduceAnd, Nat.reduceBneDiff]
      refine S1_ok (ok_origin_kind _ _ _ h8) rfl (by simp only [CLO]) ?_
      by_cases h9 : v7 = 2
      · have e10 : (v7 = 2) = True := eq_true h9
        rw [if_pos h9] at hm0
        simp only [Option.some.injEq] at hm0
        subst hm0
        simp only [e4, e6, e10, Y_origin_Lacks, EV, ↓EVd, isCall, Nat.reduceAdd, Nat.reduceSub, Nat.reduceMul, Nat.reduceEqDiff, Nat.reduceBEq, Nat.reduceLT, Nat.reduceLeDiff, ↓reduceIte, reduceCtorEq, Nat.reduceShiftRight, Nat.reduceAnd, Nat.reduceBneDiff]
        all_goals first | done | rfl
      · have e10 : (v7 = 2) = False := eq_false h9
        rw [if_neg h9] at hm0
        simp only [Option.some.injEq] at hm0
        subst hm0
        simp only [e4, e6, e10, Y_origin_Lacks, EV, ↓EVd, isCall, Nat.reduceAdd, Nat.reduceSub, Nat.reduceMul, Nat.reduceEqDiff, Nat.reduceBEq, Nat.reduceLT, Nat.reduceLeDiff, ↓reduceIte, reduceCtorEq, Nat.reduceShiftRight, Nat.reduceAnd, Nat.reduceBneDiff]
        all_goals first | done | rfl
    · have e6 : (a1.kind = 2) = False := eq_false h5
      rw [if_neg h5] at hm0
      simp only [Option.some.injEq] at hm0
      subst hm0
      simp only [e4, e6, Y_origin_Lacks, EV, ↓EVd, isCall, Nat.reduceAdd, Nat.reduceSub, Nat.reduceMul, Nat.reduceEqDiff, Nat.reduceBEq, Nat.reduceLT, Nat.reduceLeDiff, ↓reduceIte, reduceCtorEq, Nat.reduceShiftRight, Nat.reduceAnd, Nat.reduceBneDiff]
      all_goals first | done | rfl
  · have e4 : v1 = false := Bool.eq_false_iff.2 h3
    rw [if_neg h3] at hm0
    simp only [Option.some.injEq] at hm0
    subst hm0
    simp only [e4, Y_origin_Lacks, EV, ↓EVd, isCall, Nat.reduceAdd, Nat.reduceSub, Nat.reduceMul, Nat.reduceEqDiff, Nat.reduceBEq, Nat.reduceLT, Nat.reduceLeDiff, ↓reduceIte, reduceCtorEq, Nat.reduceShiftRight, Nat.reduceAnd, Nat.reduceBneDiff]
    all_goals first | done | rfl
def m_origin_wrong (a0 : Stack) (a1 : Int) (a2 : Node) : Option (Bool) := if a1 = 8 then (m_origin_Odd a2).bind fun v3 => some v3
 else if a1 = 13 then (m_origin_Stale a0 a2).bind fun v7 => some v7
 else (m_origin_Lacks a0 a2).bind fun v9 => some v9
def Y_origin_wrong := And.intro (And.intro (And.intro ((@R3)) ((@R29))) (And.intro ((@R46)) (And.intro ((@DGeo)) ((@DBranch))))) (And.intro (And.intro ((@DStack)) ((@DOrigin))) (And.intro ((@DAttr)) (And.intro ((@DNode)) ((@DEntry)))))
set_option maxHeartbeats 2000000 in
theorem ok_origin_wrong (a0 : Stack) (a1 : Int) (a2 : Node) (r : Bool) (hm0 : m_origin_wrong a0 a1 a2 = some r) : Ok Try.prog 68 [encStack a0, int a1, encNode a2] (bool r) := by
  unfold m_origin_wrong at hm0
  refine okF fc_origin_wrong (by simp) ?_
  unfold c_origin_wrong
  by_cases h1 : a1 = 8
  · have e2 : (a1 = 8) = True := eq_true h1
    rw [if_pos h1] at hm0
    rcases h4 : m_origin_Odd a2 with _ | v3
    · rw [h4] at hm0; simp only [Option.bind_none, reduceCtorEq] at hm0
    rw [h4] at hm0; simp only [Option.bind_some] at hm0
    simp only [e2, Y_origin_wrong, EV, ↓EVd, isCall, Nat.reduceAdd, Nat.reduceSub, Nat.reduceMul, Nat.reduceEqDiff, Nat.reduceBEq, Nat.reduceLT, Nat.reduceLeDiff, ↓reduceIte, reduceCtorEq, Nat.reduceShiftRight, Nat.reduceAnd, Nat.reduceBneDiff]
    refine S1_ok (ok_origin_Odd _ _ h4) rfl (by simp only [CLO]) ?_
    simp only [Option.some.injEq] at hm0
    subst hm0
    simp only [e2, Y_origin_wrong, EV, ↓EVd, isCall, Nat.reduceAdd, Nat.reduceSub, Nat.reduceMul, Nat.reduceEqDiff, Nat.reduceBEq, Nat.reduceLT, Nat.reduceLeDiff, ↓reduceIte, reduceCtorEq, Nat.reduceShiftRight, Nat.reduceAnd, Nat.reduceBneDiff]
    all_goals first | done | rfl
  · have e2 : (a1 = 8) = False := eq_false h1
    rw [if_neg h1] at hm0
    by_cases h5 : a1 = 13
    · have e6 : (a1 = 13) = True := eq_true h5
      rw [if_pos h5] at hm0
      rcases h8 : m_origin_Stale a0 a2 with _ | v7
      · rw [h8] at hm0; simp only [Option.bind_none, reduceCtorEq] at hm0
      rw [h8] at hm0; simp only [Option.bind_some] at hm0
      simp only [e2, e6, Y_origin_wrong, EV, ↓EVd, isCall, Nat.reduceAdd, Nat.reduceSub, Nat.reduceMul, Nat.reduceEqDiff, Nat.reduceBEq, Nat.reduceLT, Nat.reduceLeDiff, ↓reduceIte, reduceCtorEq, Nat.reduceShiftRight, Nat.reduceAnd, Nat.reduceBneDiff]
      refine S1_ok (ok_origin_Stale _ _ _ h8) rfl (by simp only [CLO]) ?_
      simp only [Option.some.injEq] at hm0
      subst hm0
      simp only [e2, e6, Y_origin_wrong, EV, ↓EVd, isCall, Nat.reduceAdd, Nat.reduceSub, Nat.reduceMul, Nat.reduceEqDiff, Nat.reduceBEq, Nat.reduceLT, Nat.reduceLeDiff, ↓reduceIte, reduceCtorEq, Nat.reduceShiftRight, Nat.reduceAnd, Nat.reduceBneDiff]
      all_goals first | done | rfl
    · have e6 : (a1 = 13) = False := eq_false h5
      rw [if_neg h5] at hm0
      rcases h10 : m_origin_Lacks a0 a2 with _ | v9
      · rw [h10] at hm0; simp only [Option.bind_none, reduceCtorEq] at hm0
      rw [h10] at hm0; simp only [Option.bind_some] at hm0
      simp only [e2, e6, Y_origin_wrong, EV, ↓EVd, isCall, Nat.reduceAdd, Nat.reduceSub, Nat.reduceMul, Nat.reduceEqDiff, Nat.reduceBEq, Nat.reduceLT, Nat.reduceLeDiff, ↓reduceIte, reduceCtorEq, Nat.reduceShiftRight, Nat.reduceAnd, Nat.reduceBneDiff]
      refine S1_ok (ok_origin_Lacks _ _ _ h10) rfl (by simp only [CLO]) ?_
      simp only [Option.some.injEq] at hm0
      subst hm0
      simp only [e2, e6, Y_origin_wrong, EV, ↓EVd, isCall, Nat.reduceAdd, Nat.reduceSub, Nat.reduceMul, Nat.reduceEqDiff, Nat.reduceBEq, Nat.reduceLT, Nat.reduceLeDiff, ↓reduceIte, reduceCtorEq, Nat.reduceShiftRight, Nat.reduceAnd, Nat.reduceBneDiff]
      all_goals first | done | rfl
end Go.Proofs.Ytnmljicimdhpmaa.AL

/- AL: an element of an array, at a place that is computed. -/
set_option linter.all false
namespace Go.Proofs.Ytnmljicimdhpmaa.AL
open Go Go.Proofs
theorem index_arrM {P : Program} {T e n : Nat} (h : arrOfT P T = some (n, e)) (h2 : aggN P e = some (false, 1)) {xs : List Int} {i v : Int} (hl : xs.length = n) (HH : ix xs i = some v) : evalIndex P T (.agg (xs.map int)) (int i) = some (int v) := by
  have h3 := ix_nonneg HH
  have h4 := ix_lt HH
  unfold evalIndex
  simp only [int, h, h2]
  rw [if_pos ⟨h3, by omega⟩, partOf_one P h2, Nat.mul_one]
  exact ix_enc int HH
end Go.Proofs.Ytnmljicimdhpmaa.AL

