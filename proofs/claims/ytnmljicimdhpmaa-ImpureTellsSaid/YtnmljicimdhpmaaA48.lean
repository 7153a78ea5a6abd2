/- What any node of any stack should say of copies, and which say otherwise, is what the document says: part 48 of 49. -/
import Derived.Test.YtnmljicimdhpmaaA47
set_option linter.all false
/- Models of functions, and that the functions are as their models: written by gen.py. -/
set_option linter.all false
set_option maxRecDepth 100000
namespace Go.Proofs.Ytnmljicimdhpmaa.AL
open Go Go.Proofs
def m_law24_ImpureTells (a0 : Stack) (a1 : Int) : Option (Bool) := (m_plain_Stack a0 24).bind fun v1 => if (!v1) = true then (m_law24_awake ).bind fun v5 => some v5
 else (m_impure_Findings a0).bind fun v7 => (m_ref24_Findings a0).bind fun v9 => (m_slices_Equal_api_Finding_api_Finding v7 v9).bind fun v11 => if v11 = true then (m_impure_Want a0 a1).bind fun v15 => (m_ref24_Want a0 a1).bind fun v17 => if v15 = v17 then (m_law24_awake ).bind fun v21 => some v21
 else some false
 else some false
def Y_law24_ImpureTells := And.intro (And.intro (And.intro ((@R3)) (And.intro ((@R29)) ((@R33)))) (And.intro ((@R35)) (And.intro ((@DGeo)) ((@DBranch))))) (And.intro (And.intro ((@DStack)) (And.intro ((@DFinding)) ((@DOrigin)))) (And.intro (And.intro ((@DAttr)) ((@DNode))) (And.intro ((@DEntry)) ((@mixed)))))
set_option maxHeartbeats 2000000 in
theorem ok_law24_ImpureTells (a0 : Stack) (a1 : Int) (r : Bool) (hm0 : m_law24_ImpureTells a0 a1 = some r) : Ok Try.prog 3 [encStack a0, int a1] (bool r) := by
  unfold m_law24_ImpureTells at hm0
  refine okF fc_law24_ImpureTells (by simp) ?_
  unfold c_law24_ImpureTells
  rcases h2 : m_plain_Stack a0 24 with _ | v1
  · rw [h2] at hm0; simp only [Option.bind_none, reduceCtorEq] at hm0
  rw [h2] at hm0; simp only [Option.bind_some] at hm0
  simp only [Y_law24_ImpureTells, EV, ↓EVd, isCall, Nat.reduceAdd, Nat.reduceSub, Nat.reduceMul, Nat.reduceEqDiff, Nat.reduceBEq, Nat.reduceLT, Nat.reduceLeDiff, ↓reduceIte, reduceCtorEq, Nat.reduceShiftRight, Nat.reduceAnd, Nat.reduceBneDiff]
  refine S1_ok (ok_plain_Stack _ _ _ h2) rfl (by simp only [CLO]) ?_
  by_cases h3 : (!v1) = true
  · have e4 : (!v1) = true := h3
    rw [if_pos h3] at hm0
    rcases h6 : m_law24_awake  with _ | v5
    · rw [h6] at hm0; simp only [Option.bind_none, reduceCtorEq] at hm0
    rw [h6] at hm0; simp only [Option.bind_some] at hm0
    simp only [e4, Y_law24_ImpureTells, EV, ↓EVd, isCall, Nat.reduceAdd, Nat.reduceSub, Nat.reduceMul, Nat.reduceEqDiff, Nat.reduceBEq, Nat.reduceLT, Nat.reduceLeDiff, ↓reduceIte, reduceCtorEq, Nat.reduceShiftRight, Nat.reduceAnd, Nat.reduceBneDiff]
    refine S1_ok (ok_law24_awake  _ h6) rfl (by simp only [CLO]) ?_
    simp only [Option.some.injEq] at hm0
    subst hm0
    simp only [e4, Y_law24_ImpureTells, EV, ↓EVd, isCall, Nat.reduceAdd, Nat.reduceSub, Nat.reduceMul, Nat.reduceEqDiff, Nat.reduceBEq, Nat.reduceLT, Nat.reduceLeDiff, ↓reduceIte, reduceCtorEq, Nat.reduceShiftRight, Nat.reduceAnd, Nat.reduceBneDiff]
    all_goals first | done | rfl
  · have e4 : (!v1) = false := Bool.eq_false_iff.2 h3
    rw [if_neg h3] at hm0
    rcases h8 : m_impure_Findings a0 with _ | v7
    · rw [h8] at hm0; simp only [Option.bind_none, reduceCtorEq] at hm0
    rw [h8] at hm0; simp only [Option.bind_some] at hm0
    simp only [e4, Y_law24_ImpureTells, EV, ↓EVd, isCall, Nat.reduceAdd, Nat.reduceSub, Nat.reduceMul, Nat.reduceEqDiff, Nat.reduceBEq, Nat.reduceLT, Nat.reduceLeDiff, ↓reduceIte, reduceCtorEq, Nat.reduceShiftRight, Nat.reduceAnd, Nat.reduceBneDiff]
    refine ⟨_, OpS1_ok (ok_impure_Findings _ _ h8) rfl (by simp only [CLO]), ?_⟩
    rcases h10 : m_ref24_Findings a0 with _ | v9
    · rw [h10] at hm0; simp only [Option.bind_none, reduceCtorEq] at hm0
    rw [h10] at hm0; simp only [Option.bind_some] at hm0
    simp only [e4, Y_law24_ImpureTells, EV, ↓EVd, isCall, Nat.reduceAdd, Nat.reduceSub, Nat.reduceMul, Nat.reduceEqDiff, Nat.reduceBEq, Nat.reduceLT, Nat.reduceLeDiff, ↓reduceIte, reduceCtorEq, Nat.reduceShiftRight, Nat.reduceAnd, Nat.reduceBneDiff]
    refine ⟨_, OpS1_ok (ok_ref24_Findings _ _ h10) rfl (by simp only [CLO]), ?_⟩
    rcases h12 : m_slices_Equal_api_Finding_api_Finding v7 v9 with _ | v11
    · rw [h12] at hm0; simp only [Option.bind_none, reduceCtorEq] at hm0
    rw [h12] at hm0; simp only [Option.bind_some] at hm0
    simp only [e4, Y_law24_ImpureTells, EV, ↓EVd, isCall, Nat.reduceAdd, Nat.reduceSub, Nat.reduceMul, Nat.reduceEqDiff, Nat.reduceBEq, Nat.reduceLT, Nat.reduceLeDiff, ↓reduceIte, reduceCtorEq, Nat.reduceShiftRight, Nat.reduceAnd, Nat.reduceBneDiff]
    refine ⟨_, OpS1_ok (ok_slices_Equal_api_Finding_api_Finding _ _ _ h12) rfl (by simp only [CLO]), ?_⟩
    by_cases h13 : v11 = true
    · have e14 : v11 = true := h13
      rw [if_pos h13] at hm0
      rcases h16 : m_impure_Want a0 a1 with _ | v15
      · rw [h16] at hm0; simp only [Option.bind_none, reduceCtorEq] at hm0
      rw [h16] at hm0; simp only [Option.bind_some] at hm0
      simp only [e4, e14, Y_law24_ImpureTells, EV, ↓EVd, isCall, Nat.reduceAdd, Nat.reduceSub, Nat.reduceMul, Nat.reduceEqDiff, Nat.reduceBEq, Nat.reduceLT, Nat.reduceLeDiff, ↓reduceIte, reduceCtorEq, Nat.reduceShiftRight, Nat.reduceAnd, Nat.reduceBneDiff]
      refine ⟨_, OpS1_ok (ok_impure_Want _ _ _ h16) rfl (by simp only [CLO]), ?_⟩
      rcases h18 : m_ref24_Want a0 a1 with _ | v17
      · rw [h18] at hm0; simp only [Option.bind_none, reduceCtorEq] at hm0
      rw [h18] at hm0; simp only [Option.bind_some] at hm0
      simp only [e4, e14, Y_law24_ImpureTells, EV, ↓EVd, isCall, Nat.reduceAdd, Nat.reduceSub, Nat.reduceMul, Nat.reduceEqDiff, Nat.reduceBEq, Nat.reduceLT, Nat.reduceLeDiff, ↓reduceIte, reduceCtorEq, Nat.reduceShiftRight, Nat.reduceAnd, Nat.reduceBneDiff]
      refine ⟨_, OpS1_ok (ok_ref24_Want _ _ _ h18) rfl (by simp only [CLO]), ?_⟩
      by_cases h19 : v15 = v17
      · have e20 : (v15 = v17) = True := eq_true h19
        rw [if_pos h19] at hm0
        rcases h22 : m_law24_awake  with _ | v21
        · rw [h22] at hm0; simp only [Option.bind_none, reduceCtorEq] at hm0
        rw [h22] at hm0; simp only [Option.bind_some] at hm0
        simp only [e4, e14, e20, Y_law24_ImpureTells, EV, ↓EVd, isCall, Nat.reduceAdd, Nat.reduceSub, Nat.reduceMul, Nat.reduceEqDiff, Nat.reduceBEq, Nat.reduceLT, Nat.reduceLeDiff, ↓reduceIte, reduceCtorEq, Nat.reduceShiftRight, Nat.reduceAnd, Nat.reduceBneDiff]
        refine ⟨_, OpS1_ok (ok_law24_awake  _ h22) rfl (by simp only [CLO]), ?_⟩
        simp only [Option.some.injEq] at hm0
        subst hm0
        simp only [e4, e14, e20, Y_law24_ImpureTells, EV, ↓EVd, isCall, Nat.reduceAdd, Nat.reduceSub, Nat.reduceMul, Nat.reduceEqDiff, Nat.reduceBEq, Nat.reduceLT, Nat.reduceLeDiff, ↓reduceIte, reduceCtorEq, Nat.reduceShiftRight, Nat.reduceAnd, Nat.reduceBneDiff]
        all_goals first | done | rfl
      · have e20 : (v15 = v17) = False := eq_false h19
        rw [if_neg h19] at hm0
        simp only [Option.some.injEq] at hm0
        subst hm0
        simp only [e4, e14, e20, Y_law24_ImpureTells, EV, ↓EVd, isCall, Nat.reduceAdd, Nat.reduceSub, Nat.reduceMul, Nat.reduceEqDiff, Nat.reduceBEq, Nat.reduceLT, Nat.reduceLeDiff, ↓reduceIte, reduceCtorEq, Nat.reduceShiftRight, Nat.reduceAnd, Nat.reduceBneDiff]
        all_goals first | done | rfl
    · have e14 : v11 = false := Bool.eq_false_iff.2 h13
      rw [if_neg h13] at hm0
      simp only [Option.some.injEq] at hm0
      subst hm0
      simp only [e4, e14, Y_law24_ImpureTells, EV, ↓EVd, isCall, Nat.reduceAdd, Nat.reduceSub, Nat.reduceMul, Nat.reduceEqDiff, Nat.reduceBEq, Nat.reduceLT, Nat.reduceLeDiff, ↓reduceIte, reduceCtorEq, Nat.reduceShiftRight, Nat.reduceAnd, Nat.reduceBneDiff]
      all_goals first | done | rfl
end Go.Proofs.Ytnmljicimdhpmaa.AL

