/- What of the attributes of any stack, and of any node, may not be, is what the document says: part 51 of 53. -/
import Derived.Test.YtnmljicimdhpmaaB50
set_option linter.all false
/- Models of functions, and that the functions are as their models: written by gen.py. -/
set_option linter.all false
set_option maxRecDepth 100000
namespace Go.Proofs.Ytnmljicimdhpmaa.AL
open Go Go.Proofs
def m_law22_OriginTells (a0 : Stack) (a1 : Node) : Option (Bool) := (m_plain_Stack a0 24).bind fun v1 => if (!v1) = true then (m_law22_awake ).bind fun v5 => some v5
 else (m_plain_Node a1).bind fun v7 => if (!v7) = true then (m_law22_awake ).bind fun v11 => some v11
 else (m_origin_Findings a0).bind fun v13 => (m_ref22_Findings a0).bind fun v15 => (m_slices_Equal_api_Finding_api_Finding v13 v15).bind fun v17 => if v17 = true then (m_origin_Odd a1).bind fun v21 => (m_ref22_Odd a1).bind fun v23 => if v21 = true then if v23 = true then (m_origin_Stale a0 a1).bind fun v29 => (m_ref22_Stale a0 a1).bind fun v31 => if v29 = true then if v31 = true then (m_origin_Lacks a0 a1).bind fun v37 => (m_ref22_Lacks a0 a1).bind fun v39 => if v37 = true then if v39 = true then (m_law22_awake ).bind fun v45 => some v45
 else some false
 else if v39 = true then some false
 else (m_law22_awake ).bind fun v49 => some v49
 else some false
 else if v31 = true then some false
 else (m_origin_Lacks a0 a1).bind fun v53 => (m_ref22_Lacks a0 a1).bind fun v55 => if v53 = true then if v55 = true then (m_law22_awake ).bind fun v61 => some v61
 else some false
 else if v55 = true then some false
 else (m_law22_awake ).bind fun v65 => some v65
 else some false
 else if v23 = true then some false
 else (m_origin_Stale a0 a1).bind fun v69 => (m_ref22_Stale a0 a1).bind fun v71 => if v69 = true then if v71 = true then (m_origin_Lacks a0 a1).bind fun v77 => (m_ref22_Lacks a0 a1).bind fun v79 => if v77 = true then if v79 = true then (m_law22_awake ).bind fun v85 => some v85
 else some false
 else if v79 = true then some false
 else (m_law22_awake ).bind fun v89 => some v89
 else some false
 else if v71 = true then some false
 else (m_origin_Lacks a0 a1).bind fun v93 => (m_ref22_Lacks a0 a1).bind fun v95 => if v93 = true then if v95 = true then (m_law22_awake ).bind fun v101 => some v101
 else some false
 else if v95 = true then some false
 else (m_law22_awake ).bind fun v105 => some v105
 else some false
def Y_law22_OriginTells := And.intro (And.intro (And.intro ((@R3)) (And.intro ((@R4)) ((@R29)))) (And.intro (And.intro ((@R33)) ((@R35))) (And.intro ((@R46)) ((@DGeo))))) (And.intro (And.intro (And.intro ((@DBranch)) ((@DStack))) (And.intro ((@DFinding)) ((@DOrigin)))) (And.intro (And.intro ((@DAttr)) ((@DNode))) (And.intro ((@DEntry)) ((@mixed)))))
set_option maxHeartbeats 2000000 in
theorem ok_law22_OriginTells (a0 : Stack) (a1 : Node) (r : Bool) (hm0 : m_law22_OriginTells a0 a1 = some r) : Ok Try.prog 6 [encStack a0, encNode a1] (bool r) := by
  unfold m_law22_OriginTells at hm0
  refine okF fc_law22_OriginTells (by simp) ?_
  unfold c_law22_OriginTells
  rcases h2 : m_plain_Stack a0 24 with _ | v1
  · rw [h2] at hm0; simp only [Option.bind_none, reduceCtorEq] at hm0
  rw [h2] at hm0; simp only [Option.bind_some] at hm0
  simp only [Y_law22_OriginTells, EV, ↓EVd, isCall, Nat.reduceAdd, Nat.reduceSub, Nat.reduceMul, Nat.reduceEqDiff, Nat.reduceBEq, Nat.reduceLT, Nat.reduceLeDiff, ↓reduceIte, reduceCtorEq, Nat.reduceShiftRight, Nat.reduceAnd, Nat.reduceBneDiff]
  refine S1_ok (ok_plain_Stack _ _ _ h2) rfl (by simp only [CLO]) ?_
  by_cases h3 : (!v1) = true
  · have e4 : (!v1) = true := h3
    rw [if_pos h3] at hm0
    rcases h6 : m_law22_awake  with _ | v5
    · rw [h6] at hm0; simp only [Option.bind_none, reduceCtorEq] at hm0
    rw [h6] at hm0; simp only [Option.bind_some] at hm0
    simp only [e4, Y_law22_OriginTells, EV, ↓EVd, isCall, Nat.reduceAdd, Nat.reduceSub, Nat.reduceMul, Nat.reduceEqDiff, Nat.reduceBEq, Nat.reduceLT, Nat.reduceLeDiff, ↓reduceIte, reduceCtorEq, Nat.reduceShiftRight, Nat.reduceAnd, Nat.reduceBneDiff]
    refine S1_ok (ok_law22_awake  _ h6) rfl (by simp only [CLO]) ?_
    simp only [Option.some.injEq] at hm0
    subst hm0
    simp only [e4, Y_law22_OriginTells, EV, ↓EVd, isCall, Nat.reduceAdd, Nat.reduceSub, Nat.reduceMul, Nat.reduceEqDiff, Nat.reduceBEq, Nat.reduceLT, Nat.reduceLeDiff, ↓reduceIte, reduceCtorEq, Nat.reduceShiftRight, Nat.reduceAnd, Nat.reduceBneDiff]
    all_goals first | done | rfl
  · have e4 : (!v1) = false := Bool.eq_false_iff.2 h3
    rw [if_neg h3] at hm0
    rcases h8 : m_plain_Node a1 with _ | v7
    · rw [h8] at hm0; simp only [Option.bind_none, reduceCtorEq] at hm0
    rw [h8] at hm0; simp only [Option.bind_some] at hm0
    simp only [e4, Y_law22_OriginTells, EV, ↓EVd, isCall, Nat.reduceAdd, Nat.reduceSub, Nat.reduceMul, Nat.reduceEqDiff, Nat.reduceBEq, Nat.reduceLT, Nat.reduceLeDiff, ↓reduceIte, reduceCtorEq, Nat.reduceShiftRight, Nat.reduceAnd, Nat.reduceBneDiff]
    refine S1_ok (ok_plain_Node _ _ h8) rfl (by simp only [CLO]) ?_
    by_cases h9 : (!v7) = true
    · have e10 : (!v7) = true := h9
      rw [if_pos h9] at hm0
      rcases h12 : m_law22_awake  with _ | v11
      · rw [h12] at hm0; simp only [Option.bind_none, reduceCtorEq] at hm0
      rw [h12] at hm0; simp only [Option.bind_some] at hm0
      simp only [e4, e10, Y_law22_OriginTells, EV, ↓EVd, isCall, Nat.reduceAdd, Nat.reduceSub, Nat.reduceMul, Nat.reduceEqDiff, Nat.reduceBEq, Nat.reduceLT, Nat.reduceLeDiff, ↓reduceIte, reduceCtorEq, Nat.reduceShiftRight, Nat.reduceAnd, Nat.reduceBneDiff]
      refine S1_ok (ok_law22_awake  _ h12) rfl (by simp only [CLO]) ?_
      simp only [Option.some.injEq] at hm0
      subst hm0
      simp only [e4, e10, Y_law22_OriginTells, EV, ↓EVd, isCall, Nat.reduceAdd, Nat.reduceSub, Nat.reduceMul, Nat.reduceEqDiff, Nat.reduceBEq, Nat.reduceLT, Nat.reduceLeDiff, ↓reduceIte, reduceCtorEq, Nat.reduceShiftRight, Nat.reduceAnd, Nat.reduceBneDiff]
      all_goals first | done | rfl
    · have e10 : (!v7) = false := Bool.eq_false_iff.2 h9
      rw [if_neg h9] at hm0
      rcases h14 : m_origin_Findings a0 with _ | v13
      · rw [h14] at hm0; simp only [Option.bind_none, reduceCtorEq] at hm0
      rw [h14] at hm0; simp only [Option.bind_some] at hm0
      simp only [e4, e10, Y_law22_OriginTells, EV, ↓EVd, isCall, Nat.reduceAdd, Nat.reduceSub, Nat.reduceMul, Nat.reduceEqDiff, Nat.reduceBEq, Nat.reduceLT, Nat.reduceLeDiff, ↓reduceIte, reduceCtorEq, Nat.reduceShiftRight, Nat.reduceAnd, Nat.reduceBneDiff]
      refine ⟨_, OpS1_ok (ok_origin_Findings _ _ h14) rfl (by simp only [CLO]), ?_⟩
      rcases h16 : m_ref22_Findings a0 with _ | v15
      · rw [h16] at hm0; simp only [Option.bind_none, reduceCtorEq] at hm0
      rw [h16] at hm0; simp only [Option.bind_some] at hm0
      simp only [e4, e10, Y_law22_OriginTells, EV, ↓EVd, isCall, Nat.reduceAdd, Nat.reduceSub, Nat.reduceMul, Nat.reduceEqDiff, Nat.reduceBEq, Nat.reduceLT, Nat.reduceLeDiff, ↓reduceIte, reduceCtorEq, Nat.reduceShiftRight, Nat.reduceAnd, Nat.reduceBneDiff]
      refine ⟨_, OpS1_ok (ok_ref22_Findings _ _ h16) rfl (by simp only [CLO]), ?_⟩
      rcases h18 : m_slices_Equal_api_Finding_api_Finding v13 v15 with _ | v17
      · rw [h18] at hm0; simp only [Option.bind_none, reduceCtorEq] at hm0
      rw [h18] at hm0; simp only [Option.bind_some] at hm0
      simp only [e4, e10, Y_law22_OriginTells, EV, ↓EVd, isCall, Nat.reduceAdd, Nat.reduceSub, Nat.reduceMul, Nat.reduceEqDiff, Nat.reduceBEq, Nat.reduceLT, Nat.reduceLeDiff, ↓reduceIte, reduceCtorEq, Nat.reduceShiftRight, Nat.reduceAnd, Nat.reduceBneDiff]
      refine ⟨_, OpS1_ok (ok_slices_Equal_api_Finding_api_Finding _ _ _ h18) rfl (by simp only [CLO]), ?_⟩
      by_cases h19 : v17 = true
      · have e20 : v17 = true := h19
        rw [if_pos h19] at hm0
        rcases h22 : m_origin_Odd a1 with _ | v21
        · rw [h22] at hm0; simp only [Option.bind_none, reduceCtorEq] at hm0
        rw [h22] at hm0; simp only [Option.bind_some] at hm0
        simp only [e4, e10, e20, Y_law22_OriginTells, EV, ↓EVd, isCall, Nat.reduceAdd, Nat.reduceSub, Nat.reduceMul, Nat.reduceEqDiff, Nat.reduceBEq, Nat.reduceLT, Nat.reduceLeDiff, ↓reduceIte, reduceCtorEq, Nat.reduceShiftRight, Nat.reduceAnd, Nat.reduceBneDiff]
        refine ⟨_, OpS1_ok (ok_origin_Odd _ _ h22) rfl (by simp only [CLO]), ?_⟩
        rcases h24 : m_ref22_Odd a1 with _ | v23
        · rw [h24] at hm0; simp only [Option.bind_none, reduceCtorEq] at hm0
        rw [h24] at hm0; simp only [Option.bind_some] at hm0
        simp only [e4, e10, e20, Y_law22_OriginTells, EV, ↓EVd, isCall, Nat.reduceAdd, Nat.reduceSub, Nat.reduceMul, Nat.reduceEqDiff, Nat.reduceBEq, Nat.reduceLT, Nat.reduceLeDiff, ↓reduceIte, reduceCtorEq, Nat.reduceShiftRight, Nat.reduceAnd, Nat.reduceBneDiff]
        refine ⟨_, OpS1_ok (ok_ref22_Odd _ _ h24) rfl (by simp only [CLO]), ?_⟩
        by_cases h25 : v21 = true
        · have e26 : v21 = true := h25
          rw [if_pos h25] at hm0
          by_cases h27 : v23 = true
          · have e28 : v23 = true := h27
            rw [if_pos h27] at hm0
            rcases h30 : m_origin_Stale a0 a1 with _ | v29
            · rw [h30] at hm0; simp only [Option.bind_none, reduceCtorEq] at hm0
            rw [h30] at hm0; simp only [Option.bind_some] at hm0
            simp only [e4, e10, e20, e26, e28, Y_law22_OriginTells, EV, ↓EVd, isCall, Nat.reduceAdd, Nat.reduceSub, Nat.reduceMul, Nat.reduceEqDiff, Nat.reduceBEq, Nat.reduceLT, Nat.reduceLeDiff, ↓reduceIte, reduceCtorEq, Nat.reduceShiftRight, Nat.reduceAnd, Nat.reduceBneDiff]
            refine ⟨_, OpS1_ok (ok_origin_Stale _ _ _ h30) rfl (by simp only [CLO]), ?_⟩
            rcases h32 : m_ref22_Stale a0 a1 with _ | v31
            · rw [h32] at hm0; simp only [Option.bind_none, reduceCtorEq] at hm0
            rw [h32] at hm0; simp only [Option.bind_some] at hm0
            simp only [e4, e10, e20, e26, e28, Y_law22_OriginTells, EV, ↓EVd, isCall, Nat.reduceAdd, Nat.reduceSub, Nat.reduceMul, Nat.reduceEqDiff, Nat.reduceBEq, Nat.reduceLT, Nat.reduceLeDiff, ↓reduceIte, reduceCtorEq, Nat.reduceShiftRight, Nat.reduceAnd, Nat.reduceBneDiff]
            refine ⟨_, OpS1_ok (ok_ref22_Stale _ _ _ h32) rfl (by simp only [CLO]), ?_⟩
            by_cases h33 : v29 = true
            · have e34 : v29 = true := h33
              rw [if_pos h33] at hm0
              by_cases h35 : v31 = true
              · have e36 : v31 = true := h35
                rw [if_pos h35] at hm0
                rcases h38 : m_origin_Lacks a0 a1 with _ | v37
                · rw [h38] at hm0; simp only [Option.bind_none, reduceCtorEq] at hm0
                rw [h38] at hm0; simp only [Option.bind_some] at hm0
                simp only [e4, e10, e20, e26, e28, e34, e36, Y_law22_OriginTells, EV, ↓EVd, isCall, Nat.reduceAdd, Nat.reduceSub, Nat.reduceMul, Nat.reduceEqDiff, Nat.reduceBEq, Nat.reduceLT, Nat.reduceLeDiff, ↓reduceIte, reduceCtorEq, Nat.reduceShiftRight, Nat.reduceAnd, Nat.reduceBneDiff]
                refine ⟨_, OpS1_ok (ok_origin_Lacks _ _ _ h38) rfl (by simp only [CLO]), ?_⟩
                rcases h40 : m_ref22_Lacks a0 a1 with _ | v39
                · rw [h40] at hm0; simp only [Option.bind_none, reduceCtorEq] at hm0
                rw [h40] at hm0; simp only [Option.bind_some] at hm0
                simp only [e4, e10, e20, e26, e28, e34, e36, Y_law22_OriginTells, EV, ↓EVd, isCall, Nat.reduceAdd, Nat.reduceSub, Nat.reduceMul, Nat.reduceEqDiff, Nat.reduceBEq, Nat.reduceLT, Nat.reduceLeDiff, ↓reduceIte, reduceCtorEq, Nat.reduceShiftRight, Nat.reduceAnd, Nat.reduceBneDiff]
                refine ⟨_, OpS1_ok (ok_ref22_Lacks _ _ _ h40) rfl (by simp only [CLO]), ?_⟩
                by_cases h41 : v37 = true
                · have e42 : v37 = true := h41
                  rw [if_pos h41] at hm0
                  by_cases h43 : v39 = true
                  · have e44 : v39 = true := h43
                    rw [if_pos h43] at hm0
                    rcases h46 : m_law22_awake  with _ | v45
                    · rw [h46] at hm0; simp only [Option.bind_none, reduceCtorEq] at hm0
                    rw [h46] at hm0; simp only [Option.bind_some] at hm0
                    simp only [e4, e10, e20, e26, e28, e34, e36, e42, e44, Y_law22_OriginTells, EV, ↓EVd, isCall, Nat.reduceAdd, Nat.reduceSub, Nat.reduceMul, Nat.reduceEqDiff, Nat.reduceBEq, Nat.reduceLT, Nat.reduceLeDiff, ↓reduceIte, reduceCtorEq, Nat.reduceShiftRight, Nat.reduceAnd, Nat.reduceBneDiff]
                    refine ⟨_, OpS1_ok (ok_law22_awake  _ h46) rfl (by simp only [CLO]), ?_⟩
                    simp only [Option.some.injEq] at hm0
                    subst hm0
                    simp only [e4, e10, e20, e26, e28, e34, e36, e42, e44, Y_law22_OriginTells, EV, ↓EVd, isCall, Nat.reduceAdd, Nat.reduceSub, Nat.reduceMul, Nat.reduceEqDiff, Nat.reduceBEq, Nat.reduceLT, Nat.reduceLeDiff, ↓reduceIte, reduceCtorEq, Nat.reduceShiftRight, Nat.reduceAnd, Nat.reduceBneDiff]
                    all_goals first | done | rfl
                  · have e44 : v39 = false := Bool.eq_false_iff.2 h43
                    rw [if_neg h43] at hm0
                    simp only [Option.some.injEq] at hm0
                    subst hm0
                    simp only [e4, e10, e20, e26, e28, e34, e36, e42, e44, Y_law22_OriginTells, EV, ↓EVd, isCall, Nat.reduceAdd, Nat.reduceSub, Nat.reduceMul, Nat.reduceEqDiff, Nat.reduceBEq, Nat.reduceLT, Nat.reduceLeDiff, ↓reduceIte, reduceCtorEq, Nat.reduceShiftRight, Nat.reduceAnd, Nat.reduceBneDiff]
                    all_goals first | done | rfl
                · have e42 : v37 = false := Bool.eq_false_iff.2 h41
                  rw [if_neg h41] at hm0
                  by_cases h47 : v39 = true
                  · have e48 : v39 = true := h47
                    rw [if_pos h47] at hm0
                    simp only [Option.some.injEq] at hm0
                    subst hm0
                    simp only [e4, e10, e20, e26, e28, e34, e36, e42, e48, Y_law22_OriginTells, EV, ↓EVd, isCall, Nat.reduceAdd, Nat.reduceSub, Nat.reduceMul, Nat.reduceEqDiff, Nat.reduceBEq, Nat.reduceLT, Nat.reduceLeDiff, ↓reduceIte, reduceCtorEq, Nat.reduceShiftRight, Nat.reduceAnd, Nat.reduceBneDiff]
                    all_goals first | done | rfl
                  · have e48 : v39 = false := Bool.eq_false_iff.2 h47
                    rw [if_neg h47] at hm0
                    rcases h50 : m_law22_awake  with _ | v49
                    · rw [h50] at hm0; simp only [Option.bind_none, reduceCtorEq] at hm0
                    rw [h50] at hm0; simp only [Option.bind_some] at hm0
                    simp only [e4, e10, e20, e26, e28, e34, e36, e42, e48, Y_law22_OriginTells, EV, ↓EVd, isCall, Nat.reduceAdd, Nat.reduceSub, Nat.reduceMul, Nat.reduceEqDiff, Nat.reduceBEq, Nat.reduceLT, Nat.reduceLeDiff, ↓reduceIte, reduceCtorEq, Nat.reduceShiftRight, Nat.reduceAnd, Nat.reduceBneDiff]
                    refine ⟨_, OpS1_ok (ok_law22_awake  _ h50) rfl (by simp only [CLO]), ?_⟩
                    simp only [Option.some.injEq] at hm0
                    subst hm0
                    simp only [e4, e10, e20, e26, e28, e34, e36, e42, e48, Y_law22_OriginTells, EV, ↓EVd, isCall, Nat.reduceAdd, Nat.reduceSub, Nat.reduceMul, Nat.reduceEqDiff, Nat.reduceBEq, Nat.reduceLT, Nat.reduceLeDiff, ↓reduceIte, reduceCtorEq, Nat.reduceShiftRight, Nat.reduceAnd, Nat.reduceBneDiff]
                    all_goals first | done | rfl
              · have e36 : v31 = false := Bool.eq_false_iff.2 h35
                rw [if_neg h35] at hm0
                simp only [Option.some.injEq] at hm0
                subst hm0
                simp only [e4, e10, e20, e26, e28, e34, e36, Y_law22_OriginTells, EV, ↓EVd, isCall, Nat.reduceAdd, Nat.reduceSub, Nat.reduceMul, Nat.reduceEqDiff, Nat.reduceBEq, Nat.reduceLT, Nat.reduceLeDiff, ↓reduceIte, reduceCtorEq, Nat.reduceShiftRight, Nat.reduceAnd, Nat.reduceBneDiff]
                all_goals first | done | rfl
            · have e34 : v29 = false := Bool.eq_false_iff.2 h33
              rw [if_neg h33] at hm0
              by_cases h51 : v31 = true
              · have e52 : v31 = true := h51
                rw [if_pos h51] at hm0
                simp only [Option.some.injEq] at hm0
                subst hm0
                simp only [e4, e10, e20, e26, e28, e34, e52, Y_law22_OriginTells, EV, ↓EVd, isCall, Nat.reduceAdd, Nat.reduceSub, Nat.reduceMul, Nat.reduceEqDiff, Nat.reduceBEq, Nat.reduceLT, Nat.reduceLeDiff, ↓reduceIte, reduceCtorEq, Nat.reduceShiftRight, Nat.reduceAnd, Nat.reduceBneDiff]
                all_goals first | done | rfl
              · have e52 : v31 = false := Bool.eq_false_iff.2 h51
                rw [if_neg h51] at hm0
                rcases h54 : m_origin_Lacks a0 a1 with _ | v53
                · rw [h54] at hm0; simp only [Option.bind_none, reduceCtorEq] at hm0
                rw [h54] at hm0; simp only [Option.bind_some] at hm0
                simp only [e4, e10, e20, e26, e28, e34, e52, Y_law22_OriginTells, EV, ↓EVd, isCall, Nat.reduceAdd, Nat.reduceSub, Nat.reduceMul, Nat.reduceEqDiff, Nat.reduceBEq, Nat.reduceLT, Nat.reduceLeDiff, ↓reduceIte, reduceCtorEq, Nat.reduceShiftRight, Nat.reduceAnd, Nat.reduceBneDiff]
                refine ⟨_, OpS1_ok (ok_origin_Lacks _ _ _ h54) rfl (by simp only [CLO]), ?_⟩
                rcases h56 : m_ref22_Lacks a0 a1 with _ | v55
                · rw [h56] at hm0; simp only [Option.bind_none, reduceCtorEq] at hm0
                rw [h56] at hm0; simp only [Option.bind_some] at hm0
                simp only [e4, e10, e20, e26, e28, e34, e52, Y_law22_OriginTells, EV, ↓EVd, isCall, Nat.reduceAdd, Nat.reduceSub, Nat.reduceMul, Nat.reduceEqDiff, Nat.reduceBEq, Nat.reduceLT, Nat.reduceLeDiff, ↓reduceIte, reduceCtorEq, Nat.reduceShiftRight, Nat.reduceAnd, Nat.reduceBneDiff]
                refine ⟨_, OpS1_ok (ok_ref22_Lacks _ _ _ h56) rfl (by simp only [CLO]), ?_⟩
                by_cases h57 : v53 = true
                · have e58 : v53 = true := h57
                  rw [if_pos h57] at hm0
                  by_cases h59 : v55 = true
                  · have e60 : v55 = true := h59
                    rw [if_pos h59] at hm0
                    rcases h62 : m_law22_awake  with _ | v61
                    · rw [h62] at hm0; simp only [Option.bind_none, reduceCtorEq] at hm0
                    rw [h62] at hm0; simp only [Option.bind_some] at hm0
                    simp only [e4, e10, e20, e26, e28, e34, e52, e58, e60, Y_law22_OriginTells, EV, ↓EVd, isCall, Nat.reduceAdd, Nat.reduceSub, Nat.reduceMul, Nat.reduceEqDiff, Nat.reduceBEq, Nat.reduceLT, Nat.reduceLeDiff, ↓reduceIte, reduceCtorEq, Nat.reduceShiftRight, Nat.reduceAnd, Nat.reduceBneDiff]
                    refine ⟨_, OpS1_ok (ok_law22_awake  _ h62) rfl (by simp only [CLO]), ?_⟩
                    simp only [Option.some.injEq] at hm0
                    subst hm0
                    simp only [e4, e10, e20, e26, e28, e34, e52, e58, e60, Y_law22_OriginTells, EV, ↓EVd, isCall, Nat.reduceAdd, Nat.reduceSub, Nat.reduceMul, Nat.reduceEqDiff, Nat.reduceBEq, Nat.reduceLT, Nat.reduceLeDiff, ↓reduceIte, reduceCtorEq, Nat.reduceShiftRight, Nat.reduceAnd, Nat.reduceBneDiff]
                    all_goals first | done | rfl
                  · have e60 : v55 = false := Bool.eq_false_iff.2 h59
                    rw [if_neg h59] at hm0
                    simp only [Option.some.injEq] at hm0
                    subst hm0
                    simp only [e4, e10, e20, e26, e28, e34, e52, e58, e60, Y_law22_OriginTells, EV, ↓EVd, isCall, Nat.reduceAdd, Nat.reduceSub, Nat.reduceMul, Nat.reduceEqDiff, Nat.reduceBEq, Nat.reduceLT, Nat.reduceLeDiff, ↓reduceIte, reduceCtorEq, Nat.reduceShiftRight, Nat.reduceAnd, Nat.reduceBneDiff]
                    all_goals first | done | rfl
                · have e58 : v53 = false := Bool.eq_false_iff.2 h57
                  rw [if_neg h57] at hm0
                  by_cases h63 : v55 = true
                  · have e64 : v55 = true := h63
                    rw [if_pos h63] at hm0
                    simp only [Option.some.injEq] at hm0
                    subst hm0
                    simp only [e4, e10, e20, e26, e28, e34, e52, e58, e64, Y_law22_OriginTells, EV, ↓EVd, isCall, Nat.reduceAdd, Nat.reduceSub, Nat.reduceMul, Nat.reduceEqDiff, Nat.reduceBEq, Nat.reduceLT, Nat.reduceLeDiff, ↓reduceIte, reduceCtorEq, Nat.reduceShiftRight, Nat.reduceAnd, Nat.reduceBneDiff]
                    all_goals first | done | rfl
                  · have e64 : v55 = false := Bool.eq_false_iff.2 h63
                    rw [if_neg h63] at hm0
                    rcases h66 : m_law22_awake  with _ | v65
                    · rw [h66] at hm0; simp only [Option.bind_none, reduceCtorEq] at hm0
                    rw [h66] at hm0; simp only [Option.bind_some] at hm0
                    simp only [e4, e10, e20, e26, e28, e34, e52, e58, e64, Y_law22_OriginTells, EV, ↓EVd, isCall, Nat.reduceAdd, Nat.reduceSub, Nat.reduceMul, Nat.reduceEqDiff, Nat.reduceBEq, Nat.reduceLT, Nat.reduceLeDiff, ↓reduceIte, reduceCtorEq, Nat.reduceShiftRight, Nat.reduceAnd, Nat.reduceBneDiff]
                    refine ⟨_, OpS1_ok (ok_law22_awake  _ h66) rfl (by simp only [CLO]), ?_⟩
                    simp only [Option.some.injEq] at hm0
                    subst hm0
                    simp only [e4, e10, e20, e26, e28, e34, e52, e58, e64, Y_law22_OriginTells, EV, ↓EVd, isCall, Nat.reduceAdd, Nat.reduceSub, Nat.reduceMul, Nat.reduceEqDiff, Nat.reduceBEq, Nat.reduceLT, Nat.reduceLeDiff, ↓reduceIte, reduceCtorEq, Nat.reduceShiftRight, Nat.reduceAnd, Nat.reduceBneDiff]
                    all_goals first | done | rfl
          · have e28 : v23 = false := Bool.eq_false_iff.2 h27
            rw [if_neg h27] at hm0
            simp only [Option.some.injEq] at hm0
            subst hm0
            simp only [e4, e10, e20, e26, e28, Y_law22_OriginTells, EV, ↓EVd, isCall, Nat.reduceAdd, Nat.reduceSub, Nat.reduceMul, Nat.reduceEqDiff, Nat.reduceBEq, Nat.reduceLT, Nat.reduceLeDiff, ↓reduceIte, reduceCtorEq, Nat.reduceShiftRight, Nat.reduceAnd, Nat.reduceBneDiff]
            all_goals first | done | rfl
        · have e26 : v21 = false := Bool.eq_false_iff.2 h25
          rw [if_neg h25] at hm0
          by_cases h67 : v23 = true
          · have e68 : v23 = true := h67
            rw [if_pos h67] at hm0
            simp only [Option.some.injEq] at hm0
            subst hm0
            simp only [e4, e10, e20, e26, e68, Y_law22_OriginTells, EV, ↓EVd, isCall, Nat.reduceAdd, Nat.reduceSub, Nat.reduceMul, Nat.reduceEqDiff, Nat.reduceBEq, Nat.reduceLT, Nat.reduceLeDiff, ↓reduceIte, reduceCtorEq, Nat.reduceShiftRight, Nat.reduceAnd, Nat.reduceBneDiff]
            all_goals first | done | rfl
          · have e68 : v23 = false := Bool.eq_false_iff.2 h67
            rw [if_neg h67] at hm0
            rcases h70 : m_origin_Stale a0 a1 with _ | v69
            · rw [h70] at hm0; simp only [Option.bind_none, reduceCtorEq] at hm0
            rw [h70] at hm0; simp only [Option.bind_some] at hm0
            simp only [e4, e10, e20, e26, e68, Y_law22_OriginTells, EV, ↓EVd, isCall, Nat.reduceAdd, Nat.reduceSub, Nat.reduceMul, Nat.reduceEqDiff, Nat.reduceBEq, Nat.reduceLT, Nat.reduceLeDiff, ↓reduceIte, reduceCtorEq, Nat.reduceShiftRight, Nat.reduceAnd, Nat.reduceBneDiff]
            refine ⟨_, OpS1_ok (ok_origin_Stale _ _ _ h70) rfl (by simp only [CLO]), ?_⟩
            rcases h72 : m_ref22_Stale a0 a1 with _ | v71
            · rw [h72] at hm0; simp only [Option.bind_none, reduceCtorEq] at hm0
            rw [h72] at hm0; simp only [Option.bind_some] at hm0
            simp only [e4, e10, e20, e26, e68, Y_law22_OriginTells, EV, ↓EVd, isCall, Nat.reduceAdd, Nat.reduceSub, Nat.reduceMul, Nat.reduceEqDiff, Nat.reduceBEq, Nat.reduceLT, Nat.reduceLeDiff, ↓reduceIte, reduceCtorEq, Nat.reduceShiftRight, Nat.reduceAnd, Nat.reduceBneDiff]
            refine ⟨_, OpS1_ok (ok_ref22_Stale _ _ _ h72) rfl (by simp only [CLO]), ?_⟩
            by_cases h73 : v69 = true
            · have e74 : v69 = true := h73
              rw [if_pos h73] at hm0
              by_cases h75 : v71 = true
              · have e76 : v71 = true := h75
                rw [if_pos h75] at hm0
                rcases h78 : m_origin_Lacks a0 a1 with _ | v77
                · rw [h78] at hm0; simp only [Option.bind_none, reduceCtorEq] at hm0
                rw [h78] at hm0; simp only [Option.bind_some] at hm0
                simp only [e4, e10, e20, e26, e68, e74, e76, Y_law22_OriginTells, EV, ↓EVd, isCall, Nat.reduceAdd, Nat.reduceSub, Nat.reduceMul, Nat.reduceEqDiff, Nat.reduceBEq, Nat.reduceLT, Nat.reduceLeDiff, ↓reduceIte, reduceCtorEq, Nat.reduceShiftRight, Nat.reduceAnd, Nat.reduceBneDiff]
                refine ⟨_, OpS1_ok (ok_origin_Lacks _ _ _ h78) rfl (by simp only [CLO]), ?_⟩
                rcases h80 : m_ref22_Lacks a0 a1 with _ | v79
                · rw [h80] at hm0; simp only [Option.bind_none, reduceCtorEq] at hm0
                rw [h80] at hm0; simp only [Option.bind_some] at hm0
                simp only [e4, e10, e20, e26, e68, e74, e76, Y_law22_OriginTells, EV, ↓EVd, isCall, Nat.reduceAdd, Nat.reduceSub, Nat.reduceMul, Nat.reduceEqDiff, Nat.reduceBEq, Nat.reduceLT, Nat.reduceLeDiff, ↓reduceIte, reduceCtorEq, Nat.reduceShiftRight, Nat.reduceAnd, Nat.reduceBneDiff]
                refine ⟨_, OpS1_ok (ok_ref22_Lacks _ _ _ h80) rfl (by simp only [CLO]), ?_⟩
                by_cases h81 : v77 = true
                · have e82 : v77 = true := h81
                  rw [if_pos h81] at hm0
                  by_cases h83 : v79 = true
                  · have e84 : v79 = true := h83
                    rw [if_pos h83] at hm0
                    rcases h86 : m_law22_awake  with _ | v85
                    · rw [h86] at hm0; simp only [Option.bind_none, reduceCtorEq] at hm0
                    rw [h86] at hm0; simp only [Option.bind_some] at hm0
                    simp only [e4, e10, e20, e26, e68, e74, e76, e82, e84, Y_law22_OriginTells, EV, ↓EVd, isCall, Nat.reduceAdd, Nat.reduceSub, Nat.reduceMul, Nat.reduceEqDiff, Nat.reduceBEq, Nat.reduceLT, Nat.reduceLeDiff, ↓reduceIte, reduceCtorEq, Nat.reduceShiftRight, Nat.reduceAnd, Nat.reduceBneDiff]
                    refine ⟨_, OpS1_ok (ok_law22_awake  _ h86) rfl (by simp only [CLO]), ?_⟩
                    simp only [Option.some.injEq] at hm0
                    subst hm0
                    simp only [e4, e10, e20, e26, e68, e74, e76, e82, e84, Y_law22_OriginTells, EV, ↓EVd, isCall, Nat.reduceAdd, Nat.reduceSub, Nat.reduceMul, Nat.reduceEqDiff, Nat.reduceBEq, Nat.reduceLT, Nat.reduceLeDiff, ↓reduceIte, reduceCtorEq, Nat.reduceShiftRight, Nat.reduceAnd, Nat.reduceBneDiff]
                    all_goals first | done | rfl
                  · have e84 : v79 = false := Bool.eq_false_iff.2 h83
                    rw [if_neg h83] at hm0
                    simp only [Option.some.injEq] at hm0
                    subst hm0
                    simp only [e4, e10, e20, e26, e68, e74, e76, e82, e84, Y_law22_OriginTells, EV, ↓EVd, isCall, Nat.reduceAdd, Nat.reduceSub, Nat.reduceMul, Nat.reduceEqDiff, Nat.reduceBEq, Nat.reduceLT, Nat.reduceLeDiff, ↓reduceIte, reduceCtorEq, Nat.reduceShiftRight, Nat.reduceAnd, Nat.reduceBneDiff]
                    all_goals first | done | rfl
                · have e82 : v77 = false := Bool.eq_false_iff.2 h81
                  rw [if_neg h81] at hm0
                  by_cases h87 : v79 = true
                  · have e88 : v79 = true := h87
                    rw [if_pos h87] at hm0
                    simp only [Option.some.injEq] at hm0
                    subst hm0
                    simp only [e4, e10, e20, e26, e68, e74, e76, e82, e88, Y_law22_OriginTells, EV, ↓EVd, isCall, Nat.reduceAdd, Nat.reduceSub, Nat.reduceMul, Nat.reduceEqDiff, Nat.reduceBEq, Nat.reduceLT, Nat.reduceLeDiff, ↓reduceIte, reduceCtorEq, Nat.reduceShiftRight, Nat.reduceAnd, Nat.reduceBneDiff]
                    all_goals first | done | rfl
                  · have e88 : v79 = false := Bool.eq_false_iff.2 h87
                    rw [if_neg h87] at hm0
                    rcases h90 : m_law22_awake  with _ | v89
                    · rw [h90] at hm0; simp only [Option.bind_none, reduceCtorEq] at hm0
                    rw [h90] at hm0; simp only [Option.bind_some] at hm0
                    simp only [e4, e10, e20, e26, e68, e74, e76, e82, e88, Y_law22_OriginTells, EV, ↓EVd, isCall, Nat.reduceAdd, Nat.reduceSub, Nat.reduceMul, Nat.reduceEqDiff, Nat.reduceBEq, Nat.reduceLT, Nat.reduceLeDiff, ↓reduceIte, reduceCtorEq, Nat.reduceShiftRight, Nat.reduceAnd, Nat.reduceBneDiff]
                    refine ⟨_, OpS1_ok (ok_law22_awake  _ h90) rfl (by simp only [CLO]), ?_⟩
                    simp only [Option.some.injEq] at hm0
                    subst hm0
                    simp only [e4, e10, e20, e26, e68, e74, e76, e82, e88, Y_law22_OriginTells, EV, ↓EVd, isCall, Nat.reduceAdd, Nat.reduceSub, Nat.reduceMul, Nat.reduceEqDiff, Nat.reduceBEq, Nat.reduceLT, Nat.reduceLeDiff, ↓reduceIte, reduceCtorEq, Nat.reduceShiftRight, Nat.reduceAnd, Nat.reduceBneDiff]
                    all_goals first | done | rfl
              · have e76 : v71 = false := Bool.eq_false_iff.2 h75
                rw [if_neg h75] at hm0
                simp only [Option.some.injEq] at hm0
                subst hm0
                simp only [e4, e10, e20, e26, e68, e74, e76, Y_law22_OriginTells, EV, ↓EVd, isCall, Nat.reduceAdd, Nat.reduceSub, Nat.reduceMul, Nat.reduceEqDiff, Nat.reduceBEq, Nat.reduceLT, Nat.reduceLeDiff, ↓reduceIte, reduceCtorEq, Nat.reduceShiftRight, Nat.reduceAnd, Nat.reduceBneDiff]
                all_goals first | done | rfl
            · have e74 : v69 = false := Bool.eq_false_iff.2 h73
              rw [if_neg h73] at hm0
              by_cases h91 : v71 = true
              · have e92 : v71 = true := h91
                rw [if_pos h91] at hm0
                simp only [Option.some.injEq] at hm0
                subst hm0
                simp only [e4, e10, e20, e26, e68, e74, e92, Y_law22_OriginTells, EV, ↓EVd, isCall, Nat.reduceAdd, Nat.reduceSub, Nat.reduceMul, Nat.reduceEqDiff, Nat.reduceBEq, Nat.reduceLT, Nat.reduceLeDiff, ↓reduceIte, reduceCtorEq, Nat.reduceShiftRight, Nat.reduceAnd, Nat.reduceBneDiff]
                all_goals first | done | rfl
              · have e92 : v71 = false := Bool.eq_false_iff.2 h91
                rw [if_neg h91] at hm0
                rcases h94 : m_origin_Lacks a0 a1 with _ | v93
                · rw [h94] at hm0; simp only [Option.bind_none, reduceCtorEq] at hm0
                rw [h94] at hm0; simp only [Option.bind_some] at hm0
                simp only [e4, e10, e20, e26, e68, e74, e92, Y_law22_OriginTells, EV, ↓EVd, isCall, Nat.reduceAdd, Nat.reduceSub, Nat.reduceMul, Nat.reduceEqDiff, Nat.reduceBEq, Nat.reduceLT, Nat.reduceLeDiff, ↓reduceIte, reduceCtorEq, Nat.reduceShiftRight, Nat.reduceAnd, Nat.reduceBneDiff]
                refine ⟨_, OpS1_ok (ok_origin_Lacks _ _ _ h94) rfl (by simp only [CLO]), ?_⟩
                rcases h96 : m_ref22_Lacks a0 a1 with _ | v95
                · rw [h96] at hm0; simp only [Option.bind_none, reduceCtorEq] at hm0
                rw [h96] at hm0; simp only [Option.bind_some] at hm0
                simp only [e4, e10, e20, e26, e68, e74, e92, Y_law22_OriginTells, EV, ↓EVd, isCall, Nat.reduceAdd, Nat.reduceSub, Nat.reduceMul, Nat.reduceEqDiff, Nat.reduceBEq, Nat.reduceLT, Nat.reduceLeDiff, ↓reduceIte, reduceCtorEq, Nat.reduceShiftRight, Nat.reduceAnd, Nat.reduceBneDiff]
                refine ⟨_, OpS1_ok (ok_ref22_Lacks _ _ _ h96) rfl (by simp only [CLO]), ?_⟩
                by_cases h97 : v93 = true
                · have e98 : v93 = true := h97
                  rw [if_pos h97] at hm0
                  by_cases h99 : v95 = true
                  · have e100 : v95 = true := h99
                    rw [if_pos h99] at hm0
                    rcases h102 : m_law22_awake  with _ | v101
                    · rw [h102] at hm0; simp only [Option.bind_none, reduceCtorEq] at hm0
                    rw [h102] at hm0; simp only [Option.bind_some] at hm0
                    simp only [e4, e10, e20, e26, e68, e74, e92, e98, e100, Y_law22_OriginTells, EV, ↓EVd, isCall, Nat.reduceAdd, Nat.reduceSub, Nat.reduceMul, Nat.reduceEqDiff, Nat.reduceBEq, Nat.reduceLT, Nat.reduceLeDiff, ↓reduceIte, reduceCtorEq, Nat.reduceShiftRight, Nat.reduceAnd, Nat.reduceBneDiff]
                    refine ⟨_, OpS1_ok (ok_law22_awake  _ h102) rfl (by simp only [CLO]), ?_⟩
                    simp only [Option.some.injEq] at hm0
                    subst hm0
                    simp only [e4, e10, e20, e26, e68, e74, e92, e98, e100, Y_law22_OriginTells, EV, ↓EVd, isCall, Nat.reduceAdd, Nat.reduceSub, Nat.reduceMul, Nat.reduceEqDiff, Nat.reduceBEq, Nat.reduceLT, Nat.reduceLeDiff, ↓reduceIte, reduceCtorEq, Nat.reduceShiftRight, Nat.reduceAnd, Nat.reduceBneDiff]
                    all_goals first | done | rfl
                  · have e100 : v95 = false := Bool.eq_false_iff.2 h99
                    rw [if_neg h99] at hm0
                    simp only [Option.some.injEq] at hm0
                    subst hm0
                    simp only [e4, e10, e20, e26, e68, e74, e92, e98, e100, Y_law22_OriginTells, EV, ↓EVd, isCall, Nat.reduceAdd, Nat.reduceSub, Nat.reduceMul, Nat.reduceEqDiff, Nat.reduceBEq, Nat.reduceLT, Nat.reduceLeDiff, ↓reduceIte, reduceCtorEq, Nat.reduceShiftRight, Nat.reduceAnd, Nat.reduceBneDiff]
                    all_goals first | done | rfl
                · have e98 : v93 = false := Bool.eq_false_iff.2 h97
                  rw [if_neg h97] at hm0
                  by_cases h103 : v95 = true
                  · have e104 : v95 = true := h103
                    rw [if_pos h103] at hm0
                    simp only [Option.some.injEq] at hm0
                    subst hm0
                    simp only [e4, e10, e20, e26, e68, e74, e92, e98, e104, Y_law22_OriginTells, EV, ↓EVd, isCall, Nat.reduceAdd, Nat.reduceSub, Nat.reduceMul, Nat.reduceEqDiff, Nat.reduceBEq, Nat.reduceLT, Nat.reduceLeDiff, ↓reduceIte, reduceCtorEq, Nat.reduceShiftRight, Nat.reduceAnd, Nat.reduceBneDiff]
                    all_goals first | done | rfl
                  · have e104 : v95 = false := Bool.eq_false_iff.2 h103
                    rw [if_neg h103] at hm0
                    rcases h106 : m_law22_awake  with _ | v105
                    · rw [h106] at hm0; simp only [Option.bind_none, reduceCtorEq] at hm0
                    rw [h106] at hm0; simp only [Option.bind_some] at hm0
                    simp only [e4, e10, e20, e26, e68, e74, e92, e98, e104, Y_law22_OriginTells, EV, ↓EVd, isCall, Nat.reduceAdd, Nat.reduceSub, Nat.reduceMul, Nat.reduceEqDiff, Nat.reduceBEq, Nat.reduceLT, Nat.reduceLeDiff, ↓reduceIte, reduceCtorEq, Nat.reduceShiftRight, Nat.reduceAnd, Nat.reduceBneDiff]
                    refine ⟨_, OpS1_ok (ok_law22_awake  _ h106) rfl (by simp only [CLO]), ?_⟩
                    simp only [Option.some.injEq] at hm0
                    subst hm0
                    simp only [e4, e10, e20, e26, e68, e74, e92, e98, e104, Y_law22_OriginTells, EV, ↓EVd, isCall, Nat.reduceAdd, Nat.reduceSub, Nat.reduceMul, Nat.reduceEqDiff, Nat.reduceBEq, Nat.reduceLT, Nat.reduceLeDiff, ↓reduceIte, reduceCtorEq, Nat.reduceShiftRight, Nat.reduceAnd, Nat.reduceBneDiff]
                    all_goals first | done | rfl
      · have e20 : v17 = false := Bool.eq_false_iff.2 h19
        rw [if_neg h19] at hm0
        simp only [Option.some.injEq] at hm0
        subst hm0
        simp only [e4, e10, e20, Y_law22_OriginTells, EV, ↓EVd, isCall, Nat.reduceAdd, Nat.reduceSub, Nat.reduceMul, Nat.reduceEqDiff, Nat.reduceBEq, Nat.reduceLT, Nat.reduceLeDiff, ↓reduceIte, reduceCtorEq, Nat.reduceShiftRight, Nat.reduceAnd, Nat.reduceBneDiff]
        all_goals first | done | rfl
end Go.Proofs.Ytnmljicimdhpmaa.AL

/- Plain laws, part 7: chapter 22. -/
set_option linter.all false
namespace Go.Proofs.Ytnmljicimdhpmaa.AL
open Go Go.Proofs

def hasB (x : Node) (bit : Int) : Bool := decide ((wr (x.attr.has.tdiv bit)).tmod 2 = 1)
theorem bits1 (k : Fin 32) : bAnd .i64 (k.val : Int) 1 = 0 ↔ ¬ (wr ((k.val : Int).tdiv 1)).tmod 2 = 1 := by
  revert k
  decide +kernel
theorem bits4 (k : Fin 32) : bAnd .i64 (k.val : Int) 4 = 0 ↔ ¬ (wr ((k.val : Int).tdiv 4)).tmod 2 = 1 := by
  revert k
  decide +kernel
theorem bits16 (k : Fin 32) : bAnd .i64 (k.val : Int) 16 = 0 ↔ ¬ (wr ((k.val : Int).tdiv 16)).tmod 2 = 1 := by
  revert k
  decide +kernel
theorem bit3 {h bit : Int} (h0 : 0 ≤ h) (h1 : h ≤ 31) (hb : bit = 1 ∨ bit = 4 ∨ bit = 16) : bAnd .i64 h bit = 0 ↔ ¬ (wr (h.tdiv bit)).tmod 2 = 1 := by
  have e : ((h.toNat : Nat) : Int) = h := by omega
  rcases hb with rfl | rfl | rfl
  · have := bits1 ⟨h.toNat, by omega⟩; rwa [e] at this
  · have := bits4 ⟨h.toNat, by omega⟩; rwa [e] at this
  · have := bits16 ⟨h.toNat, by omega⟩; rwa [e] at this
theorem oHas_eq {x : Node} (h : NB x) {bit : Int} (hb : bit = 1 ∨ bit = 4 ∨ bit = 16) : m_origin_has x bit = some (hasB x bit) := by
  unfold m_origin_has hasB
  rw [if_pos h.has0]
  have := bit3 h.has0 h.has1 hb
  by_cases hc : bAnd .i64 x.attr.has bit = 0
  · rw [if_pos hc]; simp [this.1 hc]
  · rw [if_neg hc]
    have : (wr (x.attr.has.tdiv bit)).tmod 2 = 1 := Classical.byContradiction fun h => hc (this.2 h)
    simp [this]
theorem rHas_eq {x : Node} (h : NB x) {bit : Int} (hb : bit = 1 ∨ bit = 4 ∨ bit = 16) : m_ref09_Has x.attr bit = some (hasB x bit) := by
  unfold m_ref09_Has m_ref09_has ck
  rw [if_pos h.has0, if_pos (by rcases hb with rfl | rfl | rfl <;> decide)]
  simp only [Option.bind_some]
  unfold hasB
  by_cases hc : (wr (x.attr.has.tdiv bit)).tmod 2 = 1
  · rw [if_pos hc]; simp [hc]
  · rw [if_neg hc]; simp [hc]
def lowP (s : Stack) (o : Origin) : Node := if 1 ≤ o.layer ∧ o.layer ≤ (s.lowers.length : Int) then nodeP ((s.lowers[(o.layer - 1).toNat]?).getD default) o.ino else zeroNode
def foundP (s : Stack) (o : Origin) : Bool := decide ((lowP s o).kind = 1 ∨ (lowP s o).kind = 2 ∨ (lowP s o).kind = 3) && decide ((lowP s o).gen = o.gen)
def findN (s : Stack) (o : Origin) : Node × Bool := if foundP s o = true then (lowP s o, true) else (zeroNode, false)
theorem low_ix {s : Stack} {o : Origin} (hs : SB s) (h1 : ¬ o.layer < 1) (h2 : ¬ (s.lowers.length : Int) < o.layer) : ∃ b, ix s.lowers (wr (o.layer - 1)) = some b ∧ PB b ∧ lowP s o = nodeP b o.ino := by
  have hl := hs.low
  have hlt : (o.layer - 1).toNat < s.lowers.length := by omega
  refine ⟨s.lowers[(o.layer - 1).toNat], ?_, ?_, ?_⟩
  · rw [wr_in (by omega) (by omega), ix_of (by omega) (by omega)]
  · have := hs.lows _ (List.getElem_mem hlt)
    exact ⟨this.1, fun x hx => (this.2 x hx).ents⟩
  · unfold lowP
    rw [if_pos ⟨by omega, by omega⟩, List.getElem?_eq_getElem hlt]
    rfl
theorem find_split {x : Node} {g : Int} : (if x.kind = 1 then if x.gen = g then some (x, true) else some (zeroNode, false) else if x.kind = 2 then if x.gen = g then some (x, true) else some (zeroNode, false) else if x.kind = 3 then if x.gen = g then some (x, true) else some (zeroNode, false) else some (zeroNode, false))
    = some (if (decide (x.kind = 1 ∨ x.kind = 2 ∨ x.kind = 3) && decide (x.gen = g)) = true then (x, true) else (zeroNode, false)) := by
  by_cases h1 : x.kind = 1
  · by_cases hg : x.gen = g <;> simp [h1, hg]
  · by_cases h2 : x.kind = 2
    · by_cases hg : x.gen = g <;> simp [h2, hg]
    · by_cases h3 : x.kind = 3
      · by_cases hg : x.gen = g <;> simp [h3, hg]
      · simp [h1, h2, h3]
theorem low_out {s : Stack} {o : Origin} (h : o.layer < 1 ∨ (s.lowers.length : Int) < o.layer) : lowP s o = zeroNode := by
  unfold lowP
  rw [if_neg (by omega)]
theorem find_zero {s : Stack} {o : Origin} (h : lowP s o = zeroNode) : findN s o = (zeroNode, false) := by
  unfold findN foundP
  rw [h]
  simp [zeroNode]
theorem hFind_eq {s : Stack} (hs : SB s) (o : Origin) : m_handle_Find s o = some (findN s o) := by
  unfold m_handle_Find
  by_cases h1 : o.layer < 1
  · rw [if_pos h1, find_zero (low_out (.inl h1))]; rfl
  rw [if_neg h1]
  by_cases h2 : (s.lowers.length : Int) < o.layer
  · rw [if_pos h2, find_zero (low_out (.inr h2))]; rfl
  rw [if_neg h2]
  obtain ⟨b, e1, e2, e3⟩ := low_ix hs h1 h2
  rw [e1]
  simp only [Option.bind_some]
  by_cases h3 : o.ino < 1
  · rw [if_pos h3, find_zero (by rw [e3]; exact nodeP_out (.inl h3))]; rfl
  rw [if_neg h3]
  by_cases h4 : (b.nodes.length : Int) < o.ino
  · rw [if_pos h4, find_zero (by rw [e3]; exact nodeP_out (.inr h4))]; rfl
  rw [if_neg h4, nodeP_in h3 h4 e2.len]
  simp only [Option.bind_some]
  unfold findN foundP
  rw [e3]
  exact find_split
theorem rFind_eq {s : Stack} (hs : SB s) (o : Origin) : m_ref15_Find s o = some (findN s o) := by
  have hlow : m_ref15_Lower s (⟨o.layer, o.ino⟩ : Place) = some (lowP s o) := by
    unfold m_ref15_Lower
    simp only
    by_cases h1 : o.layer < 1
    · rw [if_pos h1, low_out (.inl h1)]; rfl
    rw [if_neg h1]
    by_cases h2 : (s.lowers.length : Int) < o.layer
    · rw [if_pos h2, low_out (.inr h2)]; rfl
    rw [if_neg h2]
    obtain ⟨b, e1, e2, e3⟩ := low_ix hs h1 h2
    rw [e1]
    simp only [Option.bind_some]
    rw [at_eq e2, e3]
    rfl
  unfold m_ref15_Find
  rw [hlow]
  simp only [Option.bind_some]
  unfold findN foundP
  exact find_split
theorem find_kind (s : Stack) (o : Origin) : ((findN s o).2 = false ∧ (findN s o).1.kind = 0) ∨ ((findN s o).2 = true ∧ ((findN s o).1.kind = 1 ∨ (findN s o).1.kind = 2 ∨ (findN s o).1.kind = 3)) := by
  unfold findN
  by_cases h : foundP s o = true
  · rw [if_pos h]
    refine .inr ⟨rfl, ?_⟩
    unfold foundP at h
    simp only [Bool.and_eq_true, decide_eq_true_eq] at h
    exact h.1
  · rw [if_neg h]
    exact .inl ⟨rfl, rfl⟩
def oddP (x : Node) : Bool := hasB x 1 && !(decide (x.kind = 1) && decide (x.attr.opaque0 = 121))
theorem odd_eq {x : Node} (h : NB x) : m_origin_Odd x = some (oddP x) ∧ m_ref22_Odd x = some (oddP x) := by
  unfold m_origin_Odd m_ref22_Odd oddP
  rw [oHas_eq h (.inl rfl), rHas_eq h (.inl rfl)]
  simp only [Option.bind_some]
  cases hasB x 1 with
  | false => simp
  | true =>
    by_cases h1 : x.kind = 1
    · by_cases h2 : x.attr.opaque0 = 121 <;> simp [h1, h2]
    · simp [h1]
theorem stale_eq {s : Stack} (hs : SB s) {x : Node} (h : NB x) : ∃ r, m_origin_Stale s x = some r ∧ m_ref22_Stale s x = some r := by
  unfold m_origin_Stale m_ref22_Stale m_origin_kind
  rw [oHas_eq h (.inr (.inl rfl)), rHas_eq h (.inr (.inl rfl)), hFind_eq hs, rFind_eq hs]
  simp only [Option.bind_some]
  cases hasB x 4 with
  | false => exact ⟨false, by simp, by simp⟩
  | true =>
    rcases find_kind s x.attr.origin with ⟨e1, e2⟩ | ⟨e1, e2⟩
    · by_cases k1 : x.kind = 1
      · exact ⟨true, by simp [k1, e2], by simp [k1, e1]⟩
      by_cases k2 : x.kind = 2
      · exact ⟨true, by simp [k2, e2], by simp [k2, e1]⟩
      by_cases k3 : x.kind = 3
      · exact ⟨true, by simp [k3, e2], by simp [k3, e1]⟩
      exact ⟨true, by simp [k1, k2, k3], by simp [k1, k2, k3]⟩
    · rcases e2 with e2 | e2 | e2
      all_goals
        by_cases k1 : x.kind = 1
        · exact ⟨_, by simp [k1, e2]; rfl, by simp [k1, e1, e2]⟩
        by_cases k2 : x.kind = 2
        · exact ⟨_, by simp [k2, e2]; rfl, by simp [k2, e1, e2]⟩
        by_cases k3 : x.kind = 3
        · exact ⟨_, by simp [k3, e2]; rfl, by simp [k3, e1, e2]⟩
        exact ⟨true, by simp [k1, k2, k3], by simp [k1, k2, k3]⟩
theorem lacks_eq {s : Stack} (hs : SB s) {x : Node} (h : NB x) : ∃ r, m_origin_Lacks s x = some r ∧ m_ref22_Lacks s x = some r := by
  unfold m_origin_Lacks m_ref22_Lacks m_origin_kind
  rw [oHas_eq h (.inr (.inr rfl)), rHas_eq h (.inr (.inr rfl)), oHas_eq h (.inr (.inl rfl)), rHas_eq h (.inr (.inl rfl)), hFind_eq hs, rFind_eq hs]
  simp only [Option.bind_some]
  cases hasB x 16 with
  | false => exact ⟨false, by simp, by simp⟩
  | true =>
    by_cases k2 : x.kind = 2
    · cases hasB x 4 with
      | false => exact ⟨true, by simp [k2], by simp [k2]⟩
      | true =>
        rcases find_kind s x.attr.origin with ⟨e1, e2⟩ | ⟨e1, e2⟩
        · exact ⟨true, by simp [k2, e2], by simp [k2, e1]⟩
        · rcases e2 with e2 | e2 | e2
          · exact ⟨true, by simp [k2, e2], by simp [k2, e1, e2]⟩
          · exact ⟨false, by simp [k2, e2], by simp [k2, e1, e2]⟩
          · exact ⟨true, by simp [k2, e2], by simp [k2, e1, e2]⟩
    · exact ⟨true, by simp [k2], by simp [k2]⟩
end Go.Proofs.Ytnmljicimdhpmaa.AL

