/- What of the attributes of any stack, and of any node, may not be, is what the document says: part 44 of 53. -/
import Derived.Test.YtnmljicimdhpmaaB43
set_option linter.all false
/- Models of functions, and that the functions are as their models: written by gen.py. -/
set_option linter.all false
set_option maxRecDepth 100000
namespace Go.Proofs.Ytnmljicimdhpmaa.AL
open Go Go.Proofs
def m_ref09_has (a0 : Int) (a1 : Int) : Option (Bool) := (ck (¬ a1 = 0)).bind fun _ => if ((wr (a0.tdiv a1)).tmod 2) = 1 then some true
 else some false
set_option maxHeartbeats 2000000 in
theorem ok_ref09_has (a0 : Int) (a1 : Int) (r : Bool) (hm0 : m_ref09_has a0 a1 = some r) : Ok Try.prog 89 [int a0, int a1] (bool r) := by
  unfold m_ref09_has at hm0
  refine okF fc_ref09_has (by simp) ?_
  unfold c_ref09_has
  rcases h1 : ck (¬ a1 = 0) with _ | h1u
  · rw [h1] at hm0; simp only [Option.bind_none, reduceCtorEq] at hm0
  rw [h1] at hm0; simp only [Option.bind_some] at hm0
  have e2 := eq_true (ck_some h1)
  have e3 : ((2 : Int) = 0) = False := by decide
  by_cases h4 : ((wr (a0.tdiv a1)).tmod 2) = 1
  · have e5 : (((wr (a0.tdiv a1)).tmod 2) = 1) = True := eq_true h4
    rw [if_pos h4] at hm0
    simp only [Option.some.injEq] at hm0
    subst hm0
    simp only [e2, e3, e5, R3, EV, ↓EVd, isCall, Nat.reduceAdd, Nat.reduceSub, Nat.reduceMul, Nat.reduceEqDiff, Nat.reduceBEq, Nat.reduceLT, Nat.reduceLeDiff, ↓reduceIte, reduceCtorEq, Nat.reduceShiftRight, Nat.reduceAnd, Nat.reduceBneDiff]
    all_goals first | done | rfl
  · have e5 : (((wr (a0.tdiv a1)).tmod 2) = 1) = False := eq_false h4
    rw [if_neg h4] at hm0
    simp only [Option.some.injEq] at hm0
    subst hm0
    simp only [e2, e3, e5, R3, EV, ↓EVd, isCall, Nat.reduceAdd, Nat.reduceSub, Nat.reduceMul, Nat.reduceEqDiff, Nat.reduceBEq, Nat.reduceLT, Nat.reduceLeDiff, ↓reduceIte, reduceCtorEq, Nat.reduceShiftRight, Nat.reduceAnd, Nat.reduceBneDiff]
    all_goals first | done | rfl
def m_ref09_Has (a0 : Attr) (a1 : Int) : Option (Bool) := if 0 ≤ a0.has then (m_ref09_has a0.has a1).bind fun v3 => some v3
 else some false
def Y_ref09_Has := And.intro (And.intro ((@R3)) ((@R44))) (And.intro ((@DOrigin)) ((@DAttr)))
set_option maxHeartbeats 2000000 in
theorem ok_ref09_Has (a0 : Attr) (a1 : Int) (r : Bool) (hm0 : m_ref09_Has a0 a1 = some r) : Ok Try.prog 58 [encAttr a0, int a1] (bool r) := by
  unfold m_ref09_Has at hm0
  refine okF fc_ref09_Has (by simp) ?_
  unfold c_ref09_Has
  by_cases h1 : 0 ≤ a0.has
  · have e2 : (0 ≤ a0.has) = True := eq_true h1
    rw [if_pos h1] at hm0
    rcases h4 : m_ref09_has a0.has a1 with _ | v3
    · rw [h4] at hm0; simp only [Option.bind_none, reduceCtorEq] at hm0
    rw [h4] at hm0; simp only [Option.bind_some] at hm0
    simp only [e2, Y_ref09_Has, EV, ↓EVd, isCall, Nat.reduceAdd, Nat.reduceSub, Nat.reduceMul, Nat.reduceEqDiff, Nat.reduceBEq, Nat.reduceLT, Nat.reduceLeDiff, ↓reduceIte, reduceCtorEq, Nat.reduceShiftRight, Nat.reduceAnd, Nat.reduceBneDiff]
    refine S1_ok (ok_ref09_has _ _ _ h4) rfl (by simp only [CLO]) ?_
    simp only [Option.some.injEq] at hm0
    subst hm0
    simp only [e2, Y_ref09_Has, EV, ↓EVd, isCall, Nat.reduceAdd, Nat.reduceSub, Nat.reduceMul, Nat.reduceEqDiff, Nat.reduceBEq, Nat.reduceLT, Nat.reduceLeDiff, ↓reduceIte, reduceCtorEq, Nat.reduceShiftRight, Nat.reduceAnd, Nat.reduceBneDiff]
    all_goals first | done | rfl
  · have e2 : (0 ≤ a0.has) = False := eq_false h1
    rw [if_neg h1] at hm0
    simp only [Option.some.injEq] at hm0
    subst hm0
    simp only [e2, Y_ref09_Has, EV, ↓EVd, isCall, Nat.reduceAdd, Nat.reduceSub, Nat.reduceMul, Nat.reduceEqDiff, Nat.reduceBEq, Nat.reduceLT, Nat.reduceLeDiff, ↓reduceIte, reduceCtorEq, Nat.reduceShiftRight, Nat.reduceAnd, Nat.reduceBneDiff]
    all_goals first | done | rfl
def m_slices_Equal_api_Finding_api_Finding_b0 (a0 : List Finding) (a1 : List Finding) : Int → Option (St (Int) ((Unit) ⊕ (Bool)))
 | v4 => if v4 < (a0.length : Int) then (ix a0 v4).bind fun v8 => (ix a1 v4).bind fun v12 => if (decide (v8 = v12)) = true then some (.nx (wr (v4 + 1)))
 else some (.out (.inr false))
 else some (.out (.inl ()))
def m_slices_Equal_api_Finding_api_Finding (a0 : List Finding) (a1 : List Finding) : Option (Bool) := if (a0.length : Int) = (a1.length : Int) then (iter (m_slices_Equal_api_Finding_api_Finding_b0 a0 a1) big 0).bind fun o => (match o with
 | (.inl _) => some true
 | (.inr r) => some r)
 else some false
def Y_slices_Equal_api_Finding_api_Finding := And.intro (And.intro ((@R3)) (And.intro ((@R33)) ((@R35)))) (And.intro ((@DFinding)) (And.intro ((@eq35)) ((@mixed))))
set_option maxHeartbeats 2000000 in
theorem ok_slices_Equal_api_Finding_api_Finding (a0 : List Finding) (a1 : List Finding) (r : Bool) (hm0 : m_slices_Equal_api_Finding_api_Finding a0 a1 = some r) : Ok Try.prog 14 [.sl 4 (a0.map encFinding), .sl 4 (a1.map encFinding)] (bool r) := by
  unfold m_slices_Equal_api_Finding_api_Finding at hm0
  refine okF fc_slices_Equal_api_Finding_api_Finding (by simp) ?_
  unfold c_slices_Equal_api_Finding_api_Finding
  by_cases h1 : (a0.length : Int) = (a1.length : Int)
  · have e2 : ((a0.length : Int) = (a1.length : Int)) = True := eq_true h1
    rw [if_pos h1] at hm0
    rcases ho0 : iter (m_slices_Equal_api_Finding_api_Finding_b0 a0 a1) big 0 with _ | o0
    · rw [ho0] at hm0; simp only [Option.bind_none, reduceCtorEq] at hm0
    rw [ho0] at hm0; simp only [Option.bind_some] at hm0
    simp only [e2, Y_slices_Equal_api_Finding_api_Finding, EV, ↓EVd, isCall, Nat.reduceAdd, Nat.reduceSub, Nat.reduceMul, Nat.reduceEqDiff, Nat.reduceBEq, Nat.reduceLT, Nat.reduceLeDiff, ↓reduceIte, reduceCtorEq, Nat.reduceShiftRight, Nat.reduceAnd, Nat.reduceBneDiff]
    obtain ⟨J0_0, hJ0_0⟩ : ∃ J : AS → Prop, J = fun s => (.inl ()) = o0 := ⟨_, rfl⟩
    refine cwp_cut 0 J0_0 ?_ ?_
    rotate_left
    · clear ho0
      rintro ⟨T0, H0, x5⟩ hs
      rw [hJ0_0] at hs
      have hq := hs
      subst hq
      try dsimp only at hm0
      simp only [Option.some.injEq] at hm0
      subst hm0
      simp only [e2, Y_slices_Equal_api_Finding_api_Finding, EV, ↓EVd, isCall, Nat.reduceAdd, Nat.reduceSub, Nat.reduceMul, Nat.reduceEqDiff, Nat.reduceBEq, Nat.reduceLT, Nat.reduceLeDiff, ↓reduceIte, reduceCtorEq, Nat.reduceShiftRight, Nat.reduceAnd, Nat.reduceBneDiff]
      all_goals first | done | rfl
    obtain ⟨I0, hI0⟩ : ∃ I : Nat → AS → Prop, I = fun k s => ∃ v4 : Int, s.T 0 = .sl 4 (a0.map encFinding) ∧ s.T 1 = .sl 4 (a1.map encFinding) ∧ s.T 12 = int (a0.length : Int) ∧ s.T 13 = int v4 ∧ iter (m_slices_Equal_api_Finding_api_Finding_b0 a0 a1) k v4 = some o0 := ⟨_, rfl⟩
    refine cwp_iter I0 big ?_ ?_ ?_
    · rw [hI0]
      refine TI.here ⟨0, ?_, ?_, ?_, ?_, ho0⟩
      all_goals first | omega | (simp only [e2, Y_slices_Equal_api_Finding_api_Finding, EV, ↓EVd, isCall, Nat.reduceAdd, Nat.reduceSub, Nat.reduceMul, Nat.reduceEqDiff, Nat.reduceBEq, Nat.reduceLT, Nat.reduceLeDiff, ↓reduceIte, reduceCtorEq, Nat.reduceShiftRight, Nat.reduceAnd, Nat.reduceBneDiff]; done) | (simp only [e2, Y_slices_Equal_api_Finding_api_Finding, EV, ↓EVd, isCall, Nat.reduceAdd, Nat.reduceSub, Nat.reduceMul, Nat.reduceEqDiff, Nat.reduceBEq, Nat.reduceLT, Nat.reduceLeDiff, ↓reduceIte, reduceCtorEq, Nat.reduceShiftRight, Nat.reduceAnd, Nat.reduceBneDiff]; omega) | (simp only [e2, Y_slices_Equal_api_Finding_api_Finding, EV, ↓EVd, isCall, Nat.reduceAdd, Nat.reduceSub, Nat.reduceMul, Nat.reduceEqDiff, Nat.reduceBEq, Nat.reduceLT, Nat.reduceLeDiff, ↓reduceIte, reduceCtorEq, Nat.reduceShiftRight, Nat.reduceAnd, Nat.reduceBneDiff]; congr 1; omega)
    · rintro s hs
      rw [hI0] at hs
      obtain ⟨_, _, _, _, _, hz⟩ := hs
      simp only [iter_zero, reduceCtorEq] at hz
    · clear ho0
      rintro k ⟨T0, H0, x3⟩ hs
      rw [hI0] at hs
      obtain ⟨v4, k0_0, k0_1, k0_2, k0_3, hm1⟩ := hs
      try simp only at k0_0 k0_1 k0_2 k0_3
      apply cw_cwp
      rw [iter_succ] at hm1; simp only [m_slices_Equal_api_Finding_api_Finding_b0] at hm1
      have kk0 := And.intro (And.intro ((k0_0)) ((k0_1))) (And.intro ((k0_2)) ((k0_3)))
      by_cases h6 : v4 < (a0.length : Int)
      · have e7 : (v4 < (a0.length : Int)) = True := eq_true h6
        rw [if_pos h6] at hm1
        rcases h9 : ix a0 v4 with _ | v8
        · rw [h9] at hm1; simp only [Option.bind_none, reduceCtorEq] at hm1
        rw [h9] at hm1; simp only [Option.bind_some] at hm1
        have e10 := eq_true (ix_nonneg h9)
        have e11 := ix_enc encFinding h9
        rcases h13 : ix a1 v4 with _ | v12
        · rw [h13] at hm1; simp only [Option.bind_none, reduceCtorEq] at hm1
        rw [h13] at hm1; simp only [Option.bind_some] at hm1
        have e14 := eq_true (ix_nonneg h13)
        have e15 := ix_enc encFinding h13
        by_cases h16 : (decide (v8 = v12)) = true
        · have e17 : (decide (v8 = v12)) = true := h16
          rw [if_pos h16] at hm1
          try simp only [Option.bind_some] at hm1
          simp only [kk0, e2, e7, e10, e11, e14, e15, e17, Y_slices_Equal_api_Finding_api_Finding, EV, ↓EVd, isCall, Nat.reduceAdd, Nat.reduceSub, Nat.reduceMul, Nat.reduceEqDiff, Nat.reduceBEq, Nat.reduceLT, Nat.reduceLeDiff, ↓reduceIte, reduceCtorEq, Nat.reduceShiftRight, Nat.reduceAnd, Nat.reduceBneDiff]
          rw [hI0]
          refine TI.here ⟨(wr (v4 + 1)), ?_, ?_, ?_, ?_, hm1⟩
          all_goals first | omega | (simp only [kk0, e2, e7, e10, e11, e14, e15, e17, Y_slices_Equal_api_Finding_api_Finding, EV, ↓EVd, isCall, Nat.reduceAdd, Nat.reduceSub, Nat.reduceMul, Nat.reduceEqDiff, Nat.reduceBEq, Nat.reduceLT, Nat.reduceLeDiff, ↓reduceIte, reduceCtorEq, Nat.reduceShiftRight, Nat.reduceAnd, Nat.reduceBneDiff]; done) | (simp only [kk0, e2, e7, e10, e11, e14, e15, e17, Y_slices_Equal_api_Finding_api_Finding, EV, ↓EVd, isCall, Nat.reduceAdd, Nat.reduceSub, Nat.reduceMul, Nat.reduceEqDiff, Nat.reduceBEq, Nat.reduceLT, Nat.reduceLeDiff, ↓reduceIte, reduceCtorEq, Nat.reduceShiftRight, Nat.reduceAnd, Nat.reduceBneDiff]; omega) | (simp only [kk0, e2, e7, e10, e11, e14, e15, e17, Y_slices_Equal_api_Finding_api_Finding, EV, ↓EVd, isCall, Nat.reduceAdd, Nat.reduceSub, Nat.reduceMul, Nat.reduceEqDiff, Nat.reduceBEq, Nat.reduceLT, Nat.reduceLeDiff, ↓reduceIte, reduceCtorEq, Nat.reduceShiftRight, Nat.reduceAnd, Nat.reduceBneDiff]; congr 1; omega)
        · have e17 : (decide (v8 = v12)) = false := Bool.eq_false_iff.2 h16
          rw [if_neg h16] at hm1
          try simp only [Option.bind_some, Option.some.injEq] at hm1
          subst hm1
          try simp only [Option.bind_some, Option.some.injEq] at hm0
          subst hm0
          simp only [kk0, e2, e7, e10, e11, e14, e15, e17, Y_slices_Equal_api_Finding_api_Finding, EV, ↓EVd, isCall, Nat.reduceAdd, Nat.reduceSub, Nat.reduceMul, Nat.reduceEqDiff, Nat.reduceBEq, Nat.reduceLT, Nat.reduceLeDiff, ↓reduceIte, reduceCtorEq, Nat.reduceShiftRight, Nat.reduceAnd, Nat.reduceBneDiff]
          all_goals first | done | rfl
      · have e7 : (v4 < (a0.length : Int)) = False := eq_false h6
        rw [if_neg h6] at hm1
        try simp only [Option.bind_some, Option.some.injEq] at hm1
        simp only [kk0, e2, e7, Y_slices_Equal_api_Finding_api_Finding, EV, ↓EVd, isCall, Nat.reduceAdd, Nat.reduceSub, Nat.reduceMul, Nat.reduceEqDiff, Nat.reduceBEq, Nat.reduceLT, Nat.reduceLeDiff, ↓reduceIte, reduceCtorEq, Nat.reduceShiftRight, Nat.reduceAnd, Nat.reduceBneDiff]
        rw [hJ0_0]
        exact TI.here hm1
  · have e2 : ((a0.length : Int) = (a1.length : Int)) = False := eq_false h1
    rw [if_neg h1] at hm0
    simp only [Option.some.injEq] at hm0
    subst hm0
    simp only [e2, Y_slices_Equal_api_Finding_api_Finding, EV, ↓EVd, isCall, Nat.reduceAdd, Nat.reduceSub, Nat.reduceMul, Nat.reduceEqDiff, Nat.reduceBEq, Nat.reduceLT, Nat.reduceLeDiff, ↓reduceIte, reduceCtorEq, Nat.reduceShiftRight, Nat.reduceAnd, Nat.reduceBneDiff]
    all_goals first | done | rfl
end Go.Proofs.Ytnmljicimdhpmaa.AL

