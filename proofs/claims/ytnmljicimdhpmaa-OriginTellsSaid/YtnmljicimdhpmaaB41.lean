/- What of the attributes of any stack, and of any node, may not be, is what the document says: part 41 of 53. -/
import Derived.Test.YtnmljicimdhpmaaB40
set_option linter.all false
/- Models of functions, and that the functions are as their models: written by gen.py. -/
set_option linter.all false
set_option maxRecDepth 100000
namespace Go.Proofs.Ytnmljicimdhpmaa.AL
open Go Go.Proofs
def m_ref03_letter (a0 : Int) : Option (Bool) := if 97 ≤ a0 then if a0 ≤ 122 then some true
 else if 48 ≤ a0 then if a0 ≤ 57 then some true
 else if a0 = 46 then some true
 else if a0 = 95 then some true
 else if a0 = 45 then some true
 else some false
 else if a0 = 46 then some true
 else if a0 = 95 then some true
 else if a0 = 45 then some true
 else some false
 else if 48 ≤ a0 then if a0 ≤ 57 then some true
 else if a0 = 46 then some true
 else if a0 = 95 then some true
 else if a0 = 45 then some true
 else some false
 else if a0 = 46 then some true
 else if a0 = 95 then some true
 else if a0 = 45 then some true
 else some false
set_option maxHeartbeats 2000000 in
theorem ok_ref03_letter (a0 : Int) (r : Bool) (hm0 : m_ref03_letter a0 = some r) : Ok Try.prog 105 [ik .u8 a0] (bool r) := by
  unfold m_ref03_letter at hm0
  refine okF fc_ref03_letter (by simp) ?_
  unfold c_ref03_letter
  by_cases h1 : 97 ≤ a0
  · have e2 : (97 ≤ a0) = True := eq_true h1
    rw [if_pos h1] at hm0
    by_cases h3 : a0 ≤ 122
    · have e4 : (a0 ≤ 122) = True := eq_true h3
      rw [if_pos h3] at hm0
      simp only [Option.some.injEq] at hm0
      subst hm0
      simp only [e2, e4, R5, EV, ↓EVd, isCall, Nat.reduceAdd, Nat.reduceSub, Nat.reduceMul, Nat.reduceEqDiff, Nat.reduceBEq, Nat.reduceLT, Nat.reduceLeDiff, ↓reduceIte, reduceCtorEq, Nat.reduceShiftRight, Nat.reduceAnd, Nat.reduceBneDiff]
      all_goals first | done | rfl
    · have e4 : (a0 ≤ 122) = False := eq_false h3
      rw [if_neg h3] at hm0
      by_cases h5 : 48 ≤ a0
      · have e6 : (48 ≤ a0) = True := eq_true h5
        rw [if_pos h5] at hm0
        by_cases h7 : a0 ≤ 57
        · have e8 : (a0 ≤ 57) = True := eq_true h7
          rw [if_pos h7] at hm0
          simp only [Option.some.injEq] at hm0
          subst hm0
          simp only [e2, e4, e6, e8, R5, EV, ↓EVd, isCall, Nat.reduceAdd, Nat.reduceSub, Nat.reduceMul, Nat.reduceEqDiff, Nat.reduceBEq, Nat.reduceLT, Nat.reduceLeDiff, ↓reduceIte, reduceCtorEq, Nat.reduceShiftRight, Nat.reduceAnd, Nat.reduceBneDiff]
          all_goals first | done | rfl
        · have e8 : (a0 ≤ 57) = False := eq_false h7
          rw [if_neg h7] at hm0
          by_cases h9 : a0 = 46
          · have e10 : (a0 = 46) = True := eq_true h9
            rw [if_pos h9] at hm0
            simp only [Option.some.injEq] at hm0
            subst hm0
            simp only [e2, e4, e6, e8, e10, R5, EV, ↓EVd, isCall, Nat.reduceAdd, Nat.reduceSub, Nat.reduceMul, Nat.reduceEqDiff, Nat.reduceBEq, Nat.reduceLT, Nat.reduceLeDiff, ↓reduceIte, reduceCtorEq, Nat.reduceShiftRight, Nat.reduceAnd, Nat.reduceBneDiff]
            all_goals first | done | rfl
          · have e10 : (a0 = 46) = False := eq_false h9
            rw [if_neg h9] at hm0
            by_cases h11 : a0 = 95
            · have e12 : (a0 = 95) = True := eq_true h11
              rw [if_pos h11] at hm0
              simp only [Option.some.injEq] at hm0
              subst hm0
              simp only [e2, e4, e6, e8, e10, e12, R5, EV, ↓EVd, isCall, Nat.reduceAdd, Nat.reduceSub, Nat.reduceMul, Nat.reduceEqDiff, Nat.reduceBEq, Nat.reduceLT, Nat.reduceLeDiff, ↓reduceIte, reduceCtorEq, Nat.reduceShiftRight, Nat.reduceAnd, Nat.reduceBneDiff]
              all_goals first | done | rfl
            · have e12 : (a0 = 95) = False := eq_false h11
              rw [if_neg h11] at hm0
              by_cases h13 : a0 = 45
              · have e14 : (a0 = 45) = True := eq_true h13
                rw [if_pos h13] at hm0
                simp only [Option.some.injEq] at hm0
                subst hm0
                simp only [e2, e4, e6, e8, e10, e12, e14, R5, EV, ↓EVd, isCall, Nat.reduceAdd, Nat.reduceSub, Nat.reduceMul, Nat.reduceEqDiff, Nat.reduceBEq, Nat.reduceLT, Nat.reduceLeDiff, ↓reduceIte, reduceCtorEq, Nat.reduceShiftRight, Nat.reduceAnd, Nat.reduceBneDiff]
                all_goals first | done | rfl
              · have e14 : (a0 = 45) = False := eq_false h13
                rw [if_neg h13] at hm0
                simp only [Option.some.injEq] at hm0
                subst hm0
                simp only [e2, e4, e6, e8, e10, e12, e14, R5, EV, ↓EVd, isCall, Nat.reduceAdd, Nat.reduceSub, Nat.reduceMul, Nat.reduceEqDiff, Nat.reduceBEq, Nat.reduceLT, Nat.reduceLeDiff, ↓reduceIte, reduceCtorEq, Nat.reduceShiftRight, Nat.reduceAnd, Nat.reduceBneDiff]
                all_goals first | done | rfl
      · have e6 : (48 ≤ a0) = False := eq_false h5
        rw [if_neg h5] at hm0
        by_cases h15 : a0 = 46
        · have e16 : (a0 = 46) = True := eq_true h15
          rw [if_pos h15] at hm0
          simp only [Option.some.injEq] at hm0
          subst hm0
          simp only [e2, e4, e6, e16, R5, EV, ↓EVd, isCall, Nat.reduceAdd, Nat.reduceSub, Nat.reduceMul, Nat.reduceEqDiff, Nat.reduceBEq, Nat.reduceLT, Nat.reduceLeDiff, ↓reduceIte, reduceCtorEq, Nat.reduceShiftRight, Nat.reduceAnd, Nat.reduceBneDiff]
          all_goals first | done | rfl
        · have e16 : (a0 = 46) = False := eq_false h15
          rw [if_neg h15] at hm0
          by_cases h17 : a0 = 95
          · have e18 : (a0 = 95) = True := eq_true h17
            rw [if_pos h17] at hm0
            simp only [Option.some.injEq] at hm0
            subst hm0
            simp only [e2, e4, e6, e16, e18, R5, EV, ↓EVd, isCall, Nat.reduceAdd, Nat.reduceSub, Nat.reduceMul, Nat.reduceEqDiff, Nat.reduceBEq, Nat.reduceLT, Nat.reduceLeDiff, ↓reduceIte, reduceCtorEq, Nat.reduceShiftRight, Nat.reduceAnd, Nat.reduceBneDiff]
            all_goals first | done | rfl
          · have e18 : (a0 = 95) = False := eq_false h17
            rw [if_neg h17] at hm0
            by_cases h19 : a0 = 45
            · have e20 : (a0 = 45) = True := eq_true h19
              rw [if_pos h19] at hm0
              simp only [Option.some.injEq] at hm0
              subst hm0
              simp only [e2, e4, e6, e16, e18, e20, R5, EV, ↓EVd, isCall, Nat.reduceAdd, Nat.reduceSub, Nat.reduceMul, Nat.reduceEqDiff, Nat.reduceBEq, Nat.reduceLT, Nat.reduceLeDiff, ↓reduceIte, reduceCtorEq, Nat.reduceShiftRight, Nat.reduceAnd, Nat.reduceBneDiff]
              all_goals first | done | rfl
            · have e20 : (a0 = 45) = False := eq_false h19
              rw [if_neg h19] at hm0
              simp only [Option.some.injEq] at hm0
              subst hm0
              simp only [e2, e4, e6, e16, e18, e20, R5, EV, ↓EVd, isCall, Nat.reduceAdd, Nat.reduceSub, Nat.reduceMul, Nat.reduceEqDiff, Nat.reduceBEq, Nat.reduceLT, Nat.reduceLeDiff, ↓reduceIte, reduceCtorEq, Nat.reduceShiftRight, Nat.reduceAnd, Nat.reduceBneDiff]
              all_goals first | done | rfl
  · have e2 : (97 ≤ a0) = False := eq_false h1
    rw [if_neg h1] at hm0
    by_cases h21 : 48 ≤ a0
    · have e22 : (48 ≤ a0) = True := eq_true h21
      rw [if_pos h21] at hm0
      by_cases h23 : a0 ≤ 57
      · have e24 : (a0 ≤ 57) = True := eq_true h23
        rw [if_pos h23] at hm0
        simp only [Option.some.injEq] at hm0
        subst hm0
        simp only [e2, e22, e24, R5, EV, ↓EVd, isCall, Nat.reduceAdd, Nat.reduceSub, Nat.reduceMul, Nat.reduceEqDiff, Nat.reduceBEq, Nat.reduceLT, Nat.reduceLeDiff, ↓reduceIte, reduceCtorEq, Nat.reduceShiftRight, Nat.reduceAnd, Nat.reduceBneDiff]
        all_goals first | done | rfl
      · have e24 : (a0 ≤ 57) = False := eq_false h23
        rw [if_neg h23] at hm0
        by_cases h25 : a0 = 46
        · have e26 : (a0 = 46) = True := eq_true h25
          rw [if_pos h25] at hm0
          simp only [Option.some.injEq] at hm0
          subst hm0
          simp only [e2, e22, e24, e26, R5, EV, ↓EVd, isCall, Nat.reduceAdd, Nat.reduceSub, Nat.reduceMul, Nat.reduceEqDiff, Nat.reduceBEq, Nat.reduceLT, Nat.reduceLeDiff, ↓reduceIte, reduceCtorEq, Nat.reduceShiftRight, Nat.reduceAnd, Nat.reduceBneDiff]
          all_goals first | done | rfl
        · have e26 : (a0 = 46) = False := eq_false h25
          rw [if_neg h25] at hm0
          by_cases h27 : a0 = 95
          · have e28 : (a0 = 95) = True := eq_true h27
            rw [if_pos h27] at hm0
            simp only [Option.some.injEq] at hm0
            subst hm0
            simp only [e2, e22, e24, e26, e28, R5, EV, ↓EVd, isCall, Nat.reduceAdd, Nat.reduceSub, Nat.reduceMul, Nat.reduceEqDiff, Nat.reduceBEq, Nat.reduceLT, Nat.reduceLeDiff, ↓reduceIte, reduceCtorEq, Nat.reduceShiftRight, Nat.reduceAnd, Nat.reduceBneDiff]
            all_goals first | done | rfl
          · have e28 : (a0 = 95) = False := eq_false h27
            rw [if_neg h27] at hm0
            by_cases h29 : a0 = 45
            · have e30 : (a0 = 45) = True := eq_true h29
              rw [if_pos h29] at hm0
              simp only [Option.some.injEq] at hm0
              subst hm0
              simp only [e2, e22, e24, e26, e28, e30, R5, EV, ↓EVd, isCall, Nat.reduceAdd, Nat.reduceSub, Nat.reduceMul, Nat.reduceEqDiff, Nat.reduceBEq, Nat.reduceLT, Nat.reduceLeDiff, ↓reduceIte, reduceCtorEq, Nat.reduceShiftRight, Nat.reduceAnd, Nat.reduceBneDiff]
              all_goals first | done | rfl
            · have e30 : (a0 = 45) = False := eq_false h29
              rw [if_neg h29] at hm0
              simp only [Option.some.injEq] at hm0
              subst hm0
              simp only [e2, e22, e24, e26, e28, e30, R5, EV, ↓EVd, isCall, Nat.reduceAdd, Nat.reduceSub, Nat.reduceMul, Nat.reduceEqDiff, Nat.reduceBEq, Nat.reduceLT, Nat.reduceLeDiff, ↓reduceIte, reduceCtorEq, Nat.reduceShiftRight, Nat.reduceAnd, Nat.reduceBneDiff]
              all_goals first | done | rfl
    · have e22 : (48 ≤ a0) = False := eq_false h21
      rw [if_neg h21] at hm0
      by_cases h31 : a0 = 46
      · have e32 : (a0 = 46) = True := eq_true h31
        rw [if_pos h31] at hm0
        simp only [Option.some.injEq] at hm0
        subst hm0
        simp only [e2, e22, e32, R5, EV, ↓EVd, isCall, Nat.reduceAdd, Nat.reduceSub, Nat.reduceMul, Nat.reduceEqDiff, Nat.reduceBEq, Nat.reduceLT, Nat.reduceLeDiff, ↓reduceIte, reduceCtorEq, Nat.reduceShiftRight, Nat.reduceAnd, Nat.reduceBneDiff]
        all_goals first | done | rfl
      · have e32 : (a0 = 46) = False := eq_false h31
        rw [if_neg h31] at hm0
        by_cases h33 : a0 = 95
        · have e34 : (a0 = 95) = True := eq_true h33
          rw [if_pos h33] at hm0
          simp only [Option.some.injEq] at hm0
          subst hm0
          simp only [e2, e22, e32, e34, R5, EV, ↓EVd, isCall, Nat.reduceAdd, Nat.reduceSub, Nat.reduceMul, Nat.reduceEqDiff, Nat.reduceBEq, Nat.reduceLT, Nat.reduceLeDiff, ↓reduceIte, reduceCtorEq, Nat.reduceShiftRight, Nat.reduceAnd, Nat.reduceBneDiff]
          all_goals first | done | rfl
        · have e34 : (a0 = 95) = False := eq_false h33
          rw [if_neg h33] at hm0
          by_cases h35 : a0 = 45
          · have e36 : (a0 = 45) = True := eq_true h35
            rw [if_pos h35] at hm0
            simp only [Option.some.injEq] at hm0
            subst hm0
            simp only [e2, e22, e32, e34, e36, R5, EV, ↓EVd, isCall, Nat.reduceAdd, Nat.reduceSub, Nat.reduceMul, Nat.reduceEqDiff, Nat.reduceBEq, Nat.reduceLT, Nat.reduceLeDiff, ↓reduceIte, reduceCtorEq, Nat.reduceShiftRight, Nat.reduceAnd, Nat.reduceBneDiff]
            all_goals first | done | rfl
          · have e36 : (a0 = 45) = False := eq_false h35
            rw [if_neg h35] at hm0
            simp only [Option.some.injEq] at hm0
            subst hm0
            simp only [e2, e22, e32, e34, e36, R5, EV, ↓EVd, isCall, Nat.reduceAdd, Nat.reduceSub, Nat.reduceMul, Nat.reduceEqDiff, Nat.reduceBEq, Nat.reduceLT, Nat.reduceLeDiff, ↓reduceIte, reduceCtorEq, Nat.reduceShiftRight, Nat.reduceAnd, Nat.reduceBneDiff]
            all_goals first | done | rfl
def m_ref03_Right_b0 (a0 : ByteArray) : Int → Option (St (Int) ((Unit) ⊕ (Bool)))
 | v10 => if v10 < (a0.size : Int) then (ixB a0 v10).bind fun v14 => (m_ref03_letter (v14.toNat : Int)).bind fun v18 => if (!v18) = true then some (.out (.inr false))
 else some (.nx (wr (v10 + 1)))
 else some (.out (.inl ()))
def m_ref03_Right (a0 : ByteArray) : Option (Bool) := if (a0.size : Int) < 1 then some false
 else if 12 < (a0.size : Int) then some false
 else if a0 = (ByteArray.mk #[46]) then some false
 else if a0 = (ByteArray.mk #[46, 46]) then some false
 else (iter (m_ref03_Right_b0 a0) big 0).bind fun o => (match o with
 | (.inl _) => some true
 | (.inr r) => some r)
def Y_ref03_Right := And.intro ((@R3)) (And.intro ((@R5)) ((@R9)))
set_option maxHeartbeats 2000000 in
theorem ok_ref03_Right (a0 : ByteArray) (r : Bool) (hm0 : m_ref03_Right a0 = some r) : Ok Try.prog 96 [str a0] (bool r) := by
  unfold m_ref03_Right at hm0
  refine okF fc_ref03_Right (by simp) ?_
  unfold c_ref03_Right
  by_cases h1 : (a0.size : Int) < 1
  · have e2 : ((a0.size : Int) < 1) = True := eq_true h1
    rw [if_pos h1] at hm0
    simp only [Option.some.injEq] at hm0
    subst hm0
    simp only [e2, Y_ref03_Right, EV, ↓EVd, isCall, Nat.reduceAdd, Nat.reduceSub, Nat.reduceMul, Nat.reduceEqDiff, Nat.reduceBEq, Nat.reduceLT, Nat.reduceLeDiff, ↓reduceIte, reduceCtorEq, Nat.reduceShiftRight, Nat.reduceAnd, Nat.reduceBneDiff]
    all_goals first | done | rfl
  · have e2 : ((a0.size : Int) < 1) = False := eq_false h1
    rw [if_neg h1] at hm0
    by_cases h3 : 12 < (a0.size : Int)
    · have e4 : (12 < (a0.size : Int)) = True := eq_true h3
      rw [if_pos h3] at hm0
      simp only [Option.some.injEq] at hm0
      subst hm0
      simp only [e2, e4, Y_ref03_Right, EV, ↓EVd, isCall, Nat.reduceAdd, Nat.reduceSub, Nat.reduceMul, Nat.reduceEqDiff, Nat.reduceBEq, Nat.reduceLT, Nat.reduceLeDiff, ↓reduceIte, reduceCtorEq, Nat.reduceShiftRight, Nat.reduceAnd, Nat.reduceBneDiff]
      all_goals first | done | rfl
    · have e4 : (12 < (a0.size : Int)) = False := eq_false h3
      rw [if_neg h3] at hm0
      by_cases h5 : a0 = (ByteArray.mk #[46])
      · have e6 : (a0 = (ByteArray.mk #[46])) = True := eq_true h5
        rw [if_pos h5] at hm0
        simp only [Option.some.injEq] at hm0
        subst hm0
        simp only [e2, e4, e6, Y_ref03_Right, EV, ↓EVd, isCall, Nat.reduceAdd, Nat.reduceSub, Nat.reduceMul, Nat.reduceEqDiff, Nat.reduceBEq, Nat.reduceLT, Nat.reduceLeDiff, ↓reduceIte, reduceCtorEq, Nat.reduceShiftRight, Nat.reduceAnd, Nat.reduceBneDiff]
        all_goals first | done | rfl
      · have e6 : (a0 = (ByteArray.mk #[46])) = False := eq_false h5
        rw [if_neg h5] at hm0
        by_cases h7 : a0 = (ByteArray.mk #[46, 46])
        · have e8 : (a0 = (ByteArray.mk #[46, 46])) = True := eq_true h7
          rw [if_pos h7] at hm0
          simp only [Option.some.injEq] at hm0
          subst hm0
          simp only [e2, e4, e6, e8, Y_ref03_Right, EV, ↓EVd, isCall, Nat.reduceAdd, Nat.reduceSub, Nat.reduceMul, Nat.reduceEqDiff, Nat.reduceBEq, Nat.reduceLT, Nat.reduceLeDiff, ↓reduceIte, reduceCtorEq, Nat.reduceShiftRight, Nat.reduceAnd, Nat.reduceBneDiff]
          all_goals first | done | rfl
        · have e8 : (a0 = (ByteArray.mk #[46, 46])) = False := eq_false h7
          rw [if_neg h7] at hm0
          rcases ho0 : iter (m_ref03_Right_b0 a0) big 0 with _ | o0
          · rw [ho0] at hm0; simp only [Option.bind_none, reduceCtorEq] at hm0
          rw [ho0] at hm0; simp only [Option.bind_some] at hm0
          simp only [e2, e4, e6, e8, Y_ref03_Right, EV, ↓EVd, isCall, Nat.reduceAdd, Nat.reduceSub, Nat.reduceMul, Nat.reduceEqDiff, Nat.reduceBEq, Nat.reduceLT, Nat.reduceLeDiff, ↓reduceIte, reduceCtorEq, Nat.reduceShiftRight, Nat.reduceAnd, Nat.reduceBneDiff]
          obtain ⟨J0_0, hJ0_0⟩ : ∃ J : AS → Prop, J = fun s => (.inl ()) = o0 := ⟨_, rfl⟩
          refine cwp_cut 0 J0_0 ?_ ?_
          rotate_left
          · clear ho0
            rintro ⟨T0, H0, x11⟩ hs
            rw [hJ0_0] at hs
            have hq := hs
            subst hq
            try dsimp only at hm0
            simp only [Option.some.injEq] at hm0
            subst hm0
            simp only [e2, e4, e6, e8, Y_ref03_Right, EV, ↓EVd, isCall, Nat.reduceAdd, Nat.reduceSub, Nat.reduceMul, Nat.reduceEqDiff, Nat.reduceBEq, Nat.reduceLT, Nat.reduceLeDiff, ↓reduceIte, reduceCtorEq, Nat.reduceShiftRight, Nat.reduceAnd, Nat.reduceBneDiff]
            all_goals first | done | rfl
          obtain ⟨I0, hI0⟩ : ∃ I : Nat → AS → Prop, I = fun k s => ∃ v10 : Int, s.T 0 = str a0 ∧ s.T 3 = int v10 ∧ iter (m_ref03_Right_b0 a0) k v10 = some o0 := ⟨_, rfl⟩
          refine cwp_iter I0 big ?_ ?_ ?_
          · rw [hI0]
            refine TI.here ⟨0, ?_, ?_, ho0⟩
            all_goals first | omega | (simp only [e2, e4, e6, e8, Y_ref03_Right, EV, ↓EVd, isCall, Nat.reduceAdd, Nat.reduceSub, Nat.reduceMul, Nat.reduceEqDiff, Nat.reduceBEq, Nat.reduceLT, Nat.reduceLeDiff, ↓reduceIte, reduceCtorEq, Nat.reduceShiftRight, Nat.reduceAnd, Nat.reduceBneDiff]) | (simp only [e2, e4, e6, e8, Y_ref03_Right, EV, ↓EVd, isCall, Nat.reduceAdd, Nat.reduceSub, Nat.reduceMul, Nat.reduceEqDiff, Nat.reduceBEq, Nat.reduceLT, Nat.reduceLeDiff, ↓reduceIte, reduceCtorEq, Nat.reduceShiftRight, Nat.reduceAnd, Nat.reduceBneDiff]; omega) | (simp only [e2, e4, e6, e8, Y_ref03_Right, EV, ↓EVd, isCall, Nat.reduceAdd, Nat.reduceSub, Nat.reduceMul, Nat.reduceEqDiff, Nat.reduceBEq, Nat.reduceLT, Nat.reduceLeDiff, ↓reduceIte, reduceCtorEq, Nat.reduceShiftRight, Nat.reduceAnd, Nat.reduceBneDiff]; congr 1; omega)
          · rintro s hs
            rw [hI0] at hs
            obtain ⟨_, _, _, hz⟩ := hs
            simp only [iter_zero, reduceCtorEq] at hz
          · clear ho0
            rintro k ⟨T0, H0, x9⟩ hs
            rw [hI0] at hs
            obtain ⟨v10, k0_0, k0_1, hm1⟩ := hs
            try simp only at k0_0 k0_1
            apply cw_cwp
            rw [iter_succ] at hm1; simp only [m_ref03_Right_b0] at hm1
            have kk0 := And.intro ((k0_0)) ((k0_1))
            by_cases h12 : v10 < (a0.size : Int)
            · have e13 : (v10 < (a0.size : Int)) = True := eq_true h12
              rw [if_pos h12] at hm1
              rcases h15 : ixB a0 v10 with _ | v14
              · rw [h15] at hm1; simp only [Option.bind_none, reduceCtorEq] at hm1
              rw [h15] at hm1; simp only [Option.bind_some] at hm1
              have e16 := ixB_nonneg h15
              have e17 := (ixB_some h15).2
              rcases h19 : m_ref03_letter (v14.toNat : Int) with _ | v18
              · rw [h19] at hm1; simp only [Option.bind_none, reduceCtorEq] at hm1
              rw [h19] at hm1; simp only [Option.bind_some] at hm1
              simp only [kk0, e2, e4, e6, e8, e13, e16, e17, Y_ref03_Right, EV, ↓EVd, isCall, Nat.reduceAdd, Nat.reduceSub, Nat.reduceMul, Nat.reduceEqDiff, Nat.reduceBEq, Nat.reduceLT, Nat.reduceLeDiff, ↓reduceIte, reduceCtorEq, Nat.reduceShiftRight, Nat.reduceAnd, Nat.reduceBneDiff]
              refine S1_ok (ok_ref03_letter _ _ h19) rfl (by simp only [CLO]) ?_
              by_cases h20 : (!v18) = true
              · have e21 : (!v18) = true := h20
                rw [if_pos h20] at hm1
                try simp only [Option.bind_some, Option.some.injEq] at hm1
                subst hm1
                try simp only [Option.bind_some, Option.some.injEq] at hm0
                subst hm0
                simp only [kk0, e2, e4, e6, e8, e13, e16, e17, e21, Y_ref03_Right, EV, ↓EVd, isCall, Nat.reduceAdd, Nat.reduceSub, Nat.reduceMul, Nat.reduceEqDiff, Nat.reduceBEq, Nat.reduceLT, Nat.reduceLeDiff, ↓reduceIte, reduceCtorEq, Nat.reduceShiftRight, Nat.reduceAnd, Nat.reduceBneDiff]
                all_goals first | done | rfl
              · have e21 : (!v18) = false := Bool.eq_false_iff.2 h20
                rw [if_neg h20] at hm1
                try simp only [Option.bind_some] at hm1
                simp only [kk0, e2, e4, e6, e8, e13, e16, e17, e21, Y_ref03_Right, EV, ↓EVd, isCall, Nat.reduceAdd, Nat.reduceSub, Nat.reduceMul, Nat.reduceEqDiff, Nat.reduceBEq, Nat.reduceLT, Nat.reduceLeDiff, ↓reduceIte, reduceCtorEq, Nat.reduceShiftRight, Nat.reduceAnd, Nat.reduceBneDiff]
                rw [hI0]
                refine TI.here ⟨(wr (v10 + 1)), ?_, ?_, hm1⟩
                all_goals first | omega | (simp only [kk0, e2, e4, e6, e8, e13, e16, e17, e21, Y_ref03_Right, EV, ↓EVd, isCall, Nat.reduceAdd, Nat.reduceSub, Nat.reduceMul, Nat.reduceEqDiff, Nat.reduceBEq, Nat.reduceLT, Nat.reduceLeDiff, ↓reduceIte, reduceCtorEq, Nat.reduceShiftRight, Nat.reduceAnd, Nat.reduceBneDiff]) | (simp only [kk0, e2, e4, e6, e8, e13, e16, e17, e21, Y_ref03_Right, EV, ↓EVd, isCall, Nat.reduceAdd, Nat.reduceSub, Nat.reduceMul, Nat.reduceEqDiff, Nat.reduceBEq, Nat.reduceLT, Nat.reduceLeDiff, ↓reduceIte, reduceCtorEq, Nat.reduceShiftRight, Nat.reduceAnd, Nat.reduceBneDiff]; omega) | (simp only [kk0, e2, e4, e6, e8, e13, e16, e17, e21, Y_ref03_Right, EV, ↓EVd, isCall, Nat.reduceAdd, Nat.reduceSub, Nat.reduceMul, Nat.reduceEqDiff, Nat.reduceBEq, Nat.reduceLT, Nat.reduceLeDiff, ↓reduceIte, reduceCtorEq, Nat.reduceShiftRight, Nat.reduceAnd, Nat.reduceBneDiff]; congr 1; omega)
            · have e13 : (v10 < (a0.size : Int)) = False := eq_false h12
              rw [if_neg h12] at hm1
              try simp only [Option.bind_some, Option.some.injEq] at hm1
              simp only [kk0, e2, e4, e6, e8, e13, Y_ref03_Right, EV, ↓EVd, isCall, Nat.reduceAdd, Nat.reduceSub, Nat.reduceMul, Nat.reduceEqDiff, Nat.reduceBEq, Nat.reduceLT, Nat.reduceLeDiff, ↓reduceIte, reduceCtorEq, Nat.reduceShiftRight, Nat.reduceAnd, Nat.reduceBneDiff]
              rw [hJ0_0]
              exact TI.here hm1
def m_plain_odd (a0 : Entry) : Option (Bool) := (m_ref03_Right a0.name).bind fun v1 => some (!v1)
def Y_plain_odd := And.intro ((@R9)) (And.intro ((@R54)) ((@DEntry)))
set_option maxHeartbeats 2000000 in
theorem ok_plain_odd (a0 : Entry) (r : Bool) (hm0 : m_plain_odd a0 = some r) : Ok Try.prog 66 [encEntry a0] (bool r) := by
  unfold m_plain_odd at hm0
  refine okF fc_plain_odd (by simp) ?_
  unfold c_plain_odd
  rcases h2 : m_ref03_Right a0.name with _ | v1
  · rw [h2] at hm0; simp only [Option.bind_none, reduceCtorEq] at hm0
  rw [h2] at hm0; simp only [Option.bind_some] at hm0
  simp only [Y_plain_odd, EV, ↓EVd, isCall, Nat.reduceAdd, Nat.reduceSub, Nat.reduceMul, Nat.reduceEqDiff, Nat.reduceBEq, Nat.reduceLT, Nat.reduceLeDiff, ↓reduceIte, reduceCtorEq, Nat.reduceShiftRight, Nat.reduceAnd, Nat.reduceBneDiff]
  refine S1_ok (ok_ref03_Right _ _ h2) rfl (by simp only [CLO]) ?_
  simp only [Option.some.injEq] at hm0
  subst hm0
  simp only [Y_plain_odd, EV, ↓EVd, isCall, Nat.reduceAdd, Nat.reduceSub, Nat.reduceMul, Nat.reduceEqDiff, Nat.reduceBEq, Nat.reduceLT, Nat.reduceLeDiff, ↓reduceIte, reduceCtorEq, Nat.reduceShiftRight, Nat.reduceAnd, Nat.reduceBneDiff]
  all_goals first | done | rfl
def m_plain_Node_b0 (a0 : Node) : Int → Option (St (Int) ((Unit) ⊕ (Bool)))
 | v2 => if v2 < (a0.entries.length : Int) then (ix a0.entries v2).bind fun v6 => if v6.slot < 0 then some (.out (.inr false))
 else if 16 ≤ v6.slot then some (.out (.inr false))
 else if 0 < v2 then (ix a0.entries (wr (v2 - 1))).bind fun v16 => if v6.slot ≤ v16.slot then some (.out (.inr false))
 else some (.nx (wr (v2 + 1)))
 else some (.nx (wr (v2 + 1)))
 else some (.out (.inl ()))
def m_plain_Node (a0 : Node) : Option (Bool) := (iter (m_plain_Node_b0 a0) big 0).bind fun o => (match o with
 | (.inl _) => if 0 ≤ a0.kind then if a0.kind ≤ 4 then if (-9007199254740992) ≤ a0.nlink then if a0.nlink ≤ 9007199254740992 then if 0 ≤ a0.attr.has then if a0.attr.has ≤ 31 then if (a0.data.length : Int) ≤ 300 then if (a0.entries.length : Int) ≤ 16 then if (a0.attr.redirect.size : Int) ≤ 40 then (containsM (fun z => m_plain_odd z ) a0.entries).bind fun v40 => some (!v40)
 else some false
 else some false
 else some false
 else some false
 else some false
 else some false
 else some false
 else some false
 else some false
 | (.inr r) => some r)
def Y_plain_Node := And.intro (And.intro (And.intro ((@R3)) (And.intro ((@R5)) ((@R9)))) (And.intro (And.intro ((@R39)) ((@R40))) (And.intro ((@R44)) ((@R46))))) (And.intro (And.intro ((@R54)) (And.intro ((@R100)) ((@DOrigin)))) (And.intro (And.intro ((@DAttr)) ((@DNode))) (And.intro ((@DEntry)) ((@mixed)))))
set_option maxHeartbeats 2000000 in
theorem ok_plain_Node (a0 : Node) (r : Bool) (hm0 : m_plain_Node a0 = some r) : Ok Try.prog 24 [encNode a0] (bool r) := by
  unfold m_plain_Node at hm0
  refine okF fc_plain_Node (by simp) ?_
  unfold c_plain_Node
  rcases ho0 : iter (m_plain_Node_b0 a0) big 0 with _ | o0
  · rw [ho0] at hm0; simp only [Option.bind_none, reduceCtorEq] at hm0
  rw [ho0] at hm0; simp only [Option.bind_some] at hm0
  simp only [Y_plain_Node, EV, ↓EVd, isCall, Nat.reduceAdd, Nat.reduceSub, Nat.reduceMul, Nat.reduceEqDiff, Nat.reduceBEq, Nat.reduceLT, Nat.reduceLeDiff, ↓reduceIte, reduceCtorEq, Nat.reduceShiftRight, Nat.reduceAnd, Nat.reduceBneDiff]
  obtain ⟨J0_0, hJ0_0⟩ : ∃ J : AS → Prop, J = fun s => s.T 1 = .loc 0 13 0 0 ∧ s.H 0 = some (.row 46 13 [encNode a0]) ∧ 0 < s.nx ∧ (.inl ()) = o0 := ⟨_, rfl⟩
  refine cwp_cut 0 J0_0 ?_ ?_
  rotate_left
  · clear ho0
    rintro ⟨T0, H0, x3⟩ hs
    rw [hJ0_0] at hs
    obtain ⟨k0_0_0, k0_0_1, k0_0_2, hq⟩ := hs
    subst hq
    try simp only at k0_0_0 k0_0_1 k0_0_2
    try dsimp only at hm0
    have kk0_0 := And.intro (And.intro ((k0_0_0)) (And.intro ((k0_0_1)) ((k0_0_2)))) (And.intro ((ne2 k0_0_2)) (And.intro ((ne2' k0_0_2)) ((lt2 k0_0_2))))
    by_cases h22 : 0 ≤ a0.kind
    · have e23 : (0 ≤ a0.kind) = True := eq_true h22
      rw [if_pos h22] at hm0
      by_cases h24 : a0.kind ≤ 4
      · have e25 : (a0.kind ≤ 4) = True := eq_true h24
        rw [if_pos h24] at hm0
        by_cases h26 : (-9007199254740992) ≤ a0.nlink
        · have e27 : ((-9007199254740992) ≤ a0.nlink) = True := eq_true h26
          rw [if_pos h26] at hm0
          by_cases h28 : a0.nlink ≤ 9007199254740992
          · have e29 : (a0.nlink ≤ 9007199254740992) = True := eq_true h28
            rw [if_pos h28] at hm0
            by_cases h30 : 0 ≤ a0.attr.has
            · have e31 : (0 ≤ a0.attr.has) = True := eq_true h30
              rw [if_pos h30] at hm0
              by_cases h32 : a0.attr.has ≤ 31
              · have e33 : (a0.attr.has ≤ 31) = True := eq_true h32
                rw [if_pos h32] at hm0
                by_cases h34 : (a0.data.length : Int) ≤ 300
                · have e35 : ((a0.data.length : Int) ≤ 300) = True := eq_true h34
                  rw [if_pos h34] at hm0
                  by_cases h36 : (a0.entries.length : Int) ≤ 16
                  · have e37 : ((a0.entries.length : Int) ≤ 16) = True := eq_true h36
                    rw [if_pos h36] at hm0
                    by_cases h38 : (a0.attr.redirect.size : Int) ≤ 40
                    · have e39 : ((a0.attr.redirect.size : Int) ≤ 40) = True := eq_true h38
                      rw [if_pos h38] at hm0
                      rcases h41 : containsM (fun z => m_plain_odd z ) a0.entries with _ | v40
                      · rw [h41] at hm0; simp only [Option.bind_none, reduceCtorEq] at hm0
                      rw [h41] at hm0; simp only [Option.bind_some] at hm0
                      simp only [kk0_0, e23, e25, e27, e29, e31, e33, e35, e37, e39, Y_plain_Node, EV, ↓EVd, isCall, Nat.reduceAdd, Nat.reduceSub, Nat.reduceMul, Nat.reduceEqDiff, Nat.reduceBEq, Nat.reduceLT, Nat.reduceLeDiff, ↓reduceIte, reduceCtorEq, Nat.reduceShiftRight, Nat.reduceAnd, Nat.reduceBneDiff]
                      refine S1_ok (containsM_ok fc_slices_ContainsFunc_api_Entry_api_Entry fc_slices_IndexFunc_api_Entry_api_Entry elemOfT_40 aggN_54 (fi := []) (ca := []) encEntry a0.entries (fun z => m_plain_odd z ) _ h41 (fun z b hz => ok_plain_odd z  b hz) (fun z => by simp only [CLO]) rfl (by simp only [CLO]) (fun z => by simp only [Y_plain_Node, EV, ↓EVd, isCall, Nat.reduceAdd, Nat.reduceSub, Nat.reduceMul, Nat.reduceEqDiff, Nat.reduceBEq, Nat.reduceLT, Nat.reduceLeDiff, ↓reduceIte, reduceCtorEq, Nat.reduceShiftRight, Nat.reduceAnd, Nat.reduceBneDiff])) rfl (by simp only [CLO]) ?_
                      simp only [Option.some.injEq] at hm0
                      subst hm0
                      simp only [kk0_0, e23, e25, e27, e29, e31, e33, e35, e37, e39, Y_plain_Node, EV, ↓EVd, isCall, Nat.reduceAdd, Nat.reduceSub, Nat.reduceMul, Nat.reduceEqDiff, Nat.reduceBEq, Nat.reduceLT, Nat.reduceLeDiff, ↓reduceIte, reduceCtorEq, Nat.reduceShiftRight, Nat.reduceAnd, Nat.reduceBneDiff]
                      all_goals first | done | rfl
                    · have e39 : ((a0.attr.redirect.size : Int) ≤ 40) = False := eq_false h38
                      rw [if_neg h38] at hm0
                      simp only [Option.some.injEq] at hm0
                      subst hm0
                      simp only [kk0_0, e23, e25, e27, e29, e31, e33, e35, e37, e39, Y_plain_Node, EV, ↓EVd, isCall, Nat.reduceAdd, Nat.reduceSub, Nat.reduceMul, Nat.reduceEqDiff, Nat.reduceBEq, Nat.reduceLT, Nat.reduceLeDiff, ↓reduceIte, reduceCtorEq, Nat.reduceShiftRight, Nat.reduceAnd, Nat.reduceBneDiff]
                      all_goals first | done | rfl
                  · have e37 : ((a0.entries.length : Int) ≤ 16) = False := eq_false h36
                    rw [if_neg h36] at hm0
                    simp only [Option.some.injEq] at hm0
                    subst hm0
                    simp only [kk0_0, e23, e25, e27, e29, e31, e33, e35, e37, Y_plain_Node, EV, ↓EVd, isCall, Nat.reduceAdd, Nat.reduceSub, Nat.reduceMul, Nat.reduceEqDiff, Nat.reduceBEq, Nat.reduceLT, Nat.reduceLeDiff, ↓reduceIte, reduceCtorEq, Nat.reduceShiftRight, Nat.reduceAnd, Nat.reduceBneDiff]
                    all_goals first | done | rfl
                · have e35 : ((a0.data.length : Int) ≤ 300) = False := eq_false h34
                  rw [if_neg h34] at hm0
                  simp only [Option.some.injEq] at hm0
                  subst hm0
                  simp only [kk0_0, e23, e25, e27, e29, e31, e33, e35, Y_plain_Node, EV, ↓EVd, isCall, Nat.reduceAdd, Nat.reduceSub, Nat.reduceMul, Nat.reduceEqDiff, Nat.reduceBEq, Nat.reduceLT, Nat.reduceLeDiff, ↓reduceIte, reduceCtorEq, Nat.reduceShiftRight, Nat.reduceAnd, Nat.reduceBneDiff]
                  all_goals first | done | rfl
              · have e33 : (a0.attr.has ≤ 31) = False := eq_false h32
                rw [if_neg h32] at hm0
                simp only [Option.some.injEq] at hm0
                subst hm0
                simp only [kk0_0, e23, e25, e27, e29, e31, e33, Y_plain_Node, EV, ↓EVd, isCall, Nat.reduceAdd, Nat.reduceSub, Nat.reduceMul, Nat.reduceEqDiff, Nat.reduceBEq, Nat.reduceLT, Nat.reduceLeDiff, ↓reduceIte, reduceCtorEq, Nat.reduceShiftRight, Nat.reduceAnd, Nat.reduceBneDiff]
                all_goals first | done | rfl
            · have e31 : (0 ≤ a0.attr.has) = False := eq_false h30
              rw [if_neg h30] at hm0
              simp only [Option.some.injEq] at hm0
              subst hm0
              simp only [kk0_0, e23, e25, e27, e29, e31, Y_plain_Node, EV, ↓EVd, isCall, Nat.reduceAdd, Nat.reduceSub, Nat.reduceMul, Nat.reduceEqDiff, Nat.reduceBEq, Nat.reduceLT, Nat.reduceLeDiff, ↓reduceIte, reduceCtorEq, Nat.reduceShiftRight, Nat.reduceAnd, Nat.reduceBneDiff]
              all_goals first | done | rfl
          · have e29 : (a0.nlink ≤ 9007199254740992) = False := eq_false h28
            rw [if_neg h28] at hm0
            simp only [Option.some.injEq] at hm0
            subst hm0
            simp only [kk0_0, e23, e25, e27, e29, Y_plain_Node, EV, ↓EVd, isCall, Nat.reduceAdd, Nat.reduceSub, Nat.reduceMul, Nat.reduceEqDiff, Nat.reduceBEq, Nat.reduceLT, Nat.reduceLeDiff, ↓reduceIte, reduceCtorEq, Nat.reduceShiftRight, Nat.reduceAnd, Nat.reduceBneDiff]
            all_goals first | done | rfl
        · have e27 : ((-9007199254740992) ≤ a0.nlink) = False := eq_false h26
          rw [if_neg h26] at hm0
          simp only [Option.some.injEq] at hm0
          subst hm0
          simp only [kk0_0, e23, e25, e27, Y_plain_Node, EV, ↓EVd, isCall, Nat.reduceAdd, Nat.reduceSub, Nat.reduceMul, Nat.reduceEqDiff, Nat.reduceBEq, Nat.reduceLT, Nat.reduceLeDiff, ↓reduceIte, reduceCtorEq, Nat.reduceShiftRight, Nat.reduceAnd, Nat.reduceBneDiff]
          all_goals first | done | rfl
      · have e25 : (a0.kind ≤ 4) = False := eq_false h24
        rw [if_neg h24] at hm0
        simp only [Option.some.injEq] at hm0
        subst hm0
        simp only [kk0_0, e23, e25, Y_plain_Node, EV, ↓EVd, isCall, Nat.reduceAdd, Nat.reduceSub, Nat.reduceMul, Nat.reduceEqDiff, Nat.reduceBEq, Nat.reduceLT, Nat.reduceLeDiff, ↓reduceIte, reduceCtorEq, Nat.reduceShiftRight, Nat.reduceAnd, Nat.reduceBneDiff]
        all_goals first | done | rfl
    · have e23 : (0 ≤ a0.kind) = False := eq_false h22
      rw [if_neg h22] at hm0
      simp only [Option.some.injEq] at hm0
      subst hm0
      simp only [kk0_0, e23, Y_plain_Node, EV, ↓EVd, isCall, Nat.reduceAdd, Nat.reduceSub, Nat.reduceMul, Nat.reduceEqDiff, Nat.reduceBEq, Nat.reduceLT, Nat.reduceLeDiff, ↓reduceIte, reduceCtorEq, Nat.reduceShiftRight, Nat.reduceAnd, Nat.reduceBneDiff]
      all_goals first | done | rfl
  obtain ⟨I0, hI0⟩ : ∃ I : Nat → AS → Prop, I = fun k s => ∃ v2 : Int, s.T 1 = .loc 0 13 0 0 ∧ s.T 6 = .sl 3 (a0.entries.map encEntry) ∧ s.T 7 = int (a0.entries.length : Int) ∧ s.T 8 = int v2 ∧ s.H 0 = some (.row 46 13 [encNode a0]) ∧ 0 < s.nx ∧ iter (m_plain_Node_b0 a0) k v2 = some o0 := ⟨_, rfl⟩
  refine cwp_iter I0 big ?_ ?_ ?_
  · rw [hI0]
    refine TI.here ⟨0, ?_, ?_, ?_, ?_, ?_, ?_, ho0⟩
    all_goals first | omega | (simp only [Y_plain_Node, EV, ↓EVd, isCall, Nat.reduceAdd, Nat.reduceSub, Nat.reduceMul, Nat.reduceEqDiff, Nat.reduceBEq, Nat.reduceLT, Nat.reduceLeDiff, ↓reduceIte, reduceCtorEq, Nat.reduceShiftRight, Nat.reduceAnd, Nat.reduceBneDiff]) | (simp only [Y_plain_Node, EV, ↓EVd, isCall, Nat.reduceAdd, Nat.reduceSub, Nat.reduceMul, Nat.reduceEqDiff, Nat.reduceBEq, Nat.reduceLT, Nat.reduceLeDiff, ↓reduceIte, reduceCtorEq, Nat.reduceShiftRight, Nat.reduceAnd, Nat.reduceBneDiff]; omega) | (simp only [Y_plain_Node, EV, ↓EVd, isCall, Nat.reduceAdd, Nat.reduceSub, Nat.reduceMul, Nat.reduceEqDiff, Nat.reduceBEq, Nat.reduceLT, Nat.reduceLeDiff, ↓reduceIte, reduceCtorEq, Nat.reduceShiftRight, Nat.reduceAnd, Nat.reduceBneDiff]; congr 1; omega)
  · rintro s hs
    rw [hI0] at hs
    obtain ⟨_, _, _, _, _, _, _, hz⟩ := hs
    simp only [iter_zero, reduceCtorEq] at hz
  · clear ho0
    rintro k ⟨T0, H0, x1⟩ hs
    rw [hI0] at hs
    obtain ⟨v2, k0_0, k0_1, k0_2, k0_3, k0_4, k0_5, hm1⟩ := hs
    try simp only at k0_0 k0_1 k0_2 k0_3 k0_4 k0_5
    apply cw_cwp
    rw [iter_succ] at hm1; simp only [m_plain_Node_b0] at hm1
    have kk0 := And.intro (And.intro (And.intro ((k0_0)) ((k0_1))) (And.intro ((k0_2)) ((k0_3)))) (And.intro (And.intro ((k0_4)) ((k0_5))) (And.intro ((ne2 k0_5)) (And.intro ((ne2' k0_5)) ((lt2 k0_5)))))
    by_cases h4 : v2 < (a0.entries.length : Int)
    · have e5 : (v2 < (a0.entries.length : Int)) = True := eq_true h4
      rw [if_pos h4] at hm1
      rcases h7 : ix a0.entries v2 with _ | v6
      · rw [h7] at hm1; simp only [Option.bind_none, reduceCtorEq] at hm1
      rw [h7] at hm1; simp only [Option.bind_some] at hm1
      have e8 := eq_true (ix_nonneg h7)
      have e9 := ix_enc encEntry h7
      by_cases h10 : v6.slot < 0
      · have e11 : (v6.slot < 0) = True := eq_true h10
        rw [if_pos h10] at hm1
        try simp only [Option.bind_some, Option.some.injEq] at hm1
        subst hm1
        try simp only [Option.bind_some, Option.some.injEq] at hm0
        subst hm0
        simp only [kk0, e5, e8, e9, e11, Y_plain_Node, EV, ↓EVd, isCall, Nat.reduceAdd, Nat.reduceSub, Nat.reduceMul, Nat.reduceEqDiff, Nat.reduceBEq, Nat.reduceLT, Nat.reduceLeDiff, ↓reduceIte, reduceCtorEq, Nat.reduceShiftRight, Nat.reduceAnd, Nat.reduceBneDiff]
        all_goals first | done | rfl
      · have e11 : (v6.slot < 0) = False := eq_false h10
        rw [if_neg h10] at hm1
        by_cases h12 : 16 ≤ v6.slot
        · have e13 : (16 ≤ v6.slot) = True := eq_true h12
          rw [if_pos h12] at hm1
          try simp only [Option.bind_some, Option.some.injEq] at hm1
          subst hm1
          try simp only [Option.bind_some, Option.some.injEq] at hm0
          subst hm0
          simp only [kk0, e5, e8, e9, e11, e13, Y_plain_Node, EV, ↓EVd, isCall, Nat.reduceAdd, Nat.reduceSub, Nat.reduceMul, Nat.reduceEqDiff, Nat.reduceBEq, Nat.reduceLT, Nat.reduceLeDiff, ↓reduceIte, reduceCtorEq, Nat.reduceShiftRight, Nat.reduceAnd, Nat.reduceBneDiff]
          all_goals first | done | rfl
        · have e13 : (16 ≤ v6.slot) = False := eq_false h12
          rw [if_neg h12] at hm1
          by_cases h14 : 0 < v2
          · have e15 : (0 < v2) = True := eq_true h14
            rw [if_pos h14] at hm1
            rcases h17 : ix a0.entries (wr (v2 - 1)) with _ | v16
            · rw [h17] at hm1; simp only [Option.bind_none, reduceCtorEq] at hm1
            rw [h17] at hm1; simp only [Option.bind_some] at hm1
            have e18 := eq_true (ix_nonneg h17)
            have e19 := ix_enc encEntry h17
            by_cases h20 : v6.slot ≤ v16.slot
            · have e21 : (v6.slot ≤ v16.slot) = True := eq_true h20
              rw [if_pos h20] at hm1
              try simp only [Option.bind_some, Option.some.injEq] at hm1
              subst hm1
              try simp only [Option.bind_some, Option.some.injEq] at hm0
              subst hm0
              simp only [kk0, e5, e8, e9, e11, e13, e15, e18, e19, e21, Y_plain_Node, EV, ↓EVd, isCall, Nat.reduceAdd, Nat.reduceSub, Nat.reduceMul, Nat.reduceEqDiff, Nat.reduceBEq, Nat.reduceLT, Nat.reduceLeDiff, ↓reduceIte, reduceCtorEq, Nat.reduceShiftRight, Nat.reduceAnd, Nat.reduceBneDiff]
              all_goals first | done | rfl
            · have e21 : (v6.slot ≤ v16.slot) = False := eq_false h20
              rw [if_neg h20] at hm1
              try simp only [Option.bind_some] at hm1
              simp only [kk0, e5, e8, e9, e11, e13, e15, e18, e19, e21, Y_plain_Node, EV, ↓EVd, isCall, Nat.reduceAdd, Nat.reduceSub, Nat.reduceMul, Nat.reduceEqDiff, Nat.reduceBEq, Nat.reduceLT, Nat.reduceLeDiff, ↓reduceIte, reduceCtorEq, Nat.reduceShiftRight, Nat.reduceAnd, Nat.reduceBneDiff]
              rw [hI0]
              refine TI.here ⟨(wr (v2 + 1)), ?_, ?_, ?_, ?_, ?_, ?_, hm1⟩
              all_goals first | omega | (simp only [kk0, e5, e8, e9, e11, e13, e15, e18, e19, e21, Y_plain_Node, EV, ↓EVd, isCall, Nat.reduceAdd, Nat.reduceSub, Nat.reduceMul, Nat.reduceEqDiff, Nat.reduceBEq, Nat.reduceLT, Nat.reduceLeDiff, ↓reduceIte, reduceCtorEq, Nat.reduceShiftRight, Nat.reduceAnd, Nat.reduceBneDiff]) | (simp only [kk0, e5, e8, e9, e11, e13, e15, e18, e19, e21, Y_plain_Node, EV, ↓EVd, isCall, Nat.reduceAdd, Nat.reduceSub, Nat.reduceMul, Nat.reduceEqDiff, Nat.reduceBEq, Nat.reduceLT, Nat.reduceLeDiff, ↓reduceIte, reduceCtorEq, Nat.reduceShiftRight, Nat.reduceAnd, Nat.reduceBneDiff]; omega) | (simp only [kk0, e5, e8, e9, e11, e13, e15, e18, e19, e21, Y_plain_Node, EV, ↓EVd, isCall, Nat.reduceAdd, Nat.reduceSub, Nat.reduceMul, Nat.reduceEqDiff, Nat.reduceBEq, Nat.reduceLT, Nat.reduceLeDiff, ↓reduceIte, reduceCtorEq, Nat.reduceShiftRight, Nat.reduceAnd, Nat.reduceBneDiff]; congr 1; omega)
          · have e15 : (0 < v2) = False := eq_false h14
            rw [if_neg h14] at hm1
            try simp only [Option.bind_some] at hm1
            simp only [kk0, e5, e8, e9, e11, e13, e15, Y_plain_Node, EV, ↓EVd, isCall, Nat.reduceAdd, Nat.reduceSub, Nat.reduceMul, Nat.reduceEqDiff, Nat.reduceBEq, Nat.reduceLT, Nat.reduceLeDiff, ↓reduceIte, reduceCtorEq, Nat.reduceShiftRight, Nat.reduceAnd, Nat.reduceBneDiff]
            rw [hI0]
            refine TI.here ⟨(wr (v2 + 1)), ?_, ?_, ?_, ?_, ?_, ?_, hm1⟩
            all_goals first | omega | (simp only [kk0, e5, e8, e9, e11, e13, e15, Y_plain_Node, EV, ↓EVd, isCall, Nat.reduceAdd, Nat.reduceSub, Nat.reduceMul, Nat.reduceEqDiff, Nat.reduceBEq, Nat.reduceLT, Nat.reduceLeDiff, ↓reduceIte, reduceCtorEq, Nat.reduceShiftRight, Nat.reduceAnd, Nat.reduceBneDiff]) | (simp only [kk0, e5, e8, e9, e11, e13, e15, Y_plain_Node, EV, ↓EVd, isCall, Nat.reduceAdd, Nat.reduceSub, Nat.reduceMul, Nat.reduceEqDiff, Nat.reduceBEq, Nat.reduceLT, Nat.reduceLeDiff, ↓reduceIte, reduceCtorEq, Nat.reduceShiftRight, Nat.reduceAnd, Nat.reduceBneDiff]; omega) | (simp only [kk0, e5, e8, e9, e11, e13, e15, Y_plain_Node, EV, ↓EVd, isCall, Nat.reduceAdd, Nat.reduceSub, Nat.reduceMul, Nat.reduceEqDiff, Nat.reduceBEq, Nat.reduceLT, Nat.reduceLeDiff, ↓reduceIte, reduceCtorEq, Nat.reduceShiftRight, Nat.reduceAnd, Nat.reduceBneDiff]; congr 1; omega)
    · have e5 : (v2 < (a0.entries.length : Int)) = False := eq_false h4
      rw [if_neg h4] at hm1
      try simp only [Option.bind_some, Option.some.injEq] at hm1
      simp only [kk0, e5, Y_plain_Node, EV, ↓EVd, isCall, Nat.reduceAdd, Nat.reduceSub, Nat.reduceMul, Nat.reduceEqDiff, Nat.reduceBEq, Nat.reduceLT, Nat.reduceLeDiff, ↓reduceIte, reduceCtorEq, Nat.reduceShiftRight, Nat.reduceAnd, Nat.reduceBneDiff]
      rw [hJ0_0]
      refine TI.here ⟨?_, ?_, ?_, hm1⟩
      all_goals first | omega | (simp only [kk0, e5, Y_plain_Node, EV, ↓EVd, isCall, Nat.reduceAdd, Nat.reduceSub, Nat.reduceMul, Nat.reduceEqDiff, Nat.reduceBEq, Nat.reduceLT, Nat.reduceLeDiff, ↓reduceIte, reduceCtorEq, Nat.reduceShiftRight, Nat.reduceAnd, Nat.reduceBneDiff]) | (simp only [kk0, e5, Y_plain_Node, EV, ↓EVd, isCall, Nat.reduceAdd, Nat.reduceSub, Nat.reduceMul, Nat.reduceEqDiff, Nat.reduceBEq, Nat.reduceLT, Nat.reduceLeDiff, ↓reduceIte, reduceCtorEq, Nat.reduceShiftRight, Nat.reduceAnd, Nat.reduceBneDiff]; omega) | (simp only [kk0, e5, Y_plain_Node, EV, ↓EVd, isCall, Nat.reduceAdd, Nat.reduceSub, Nat.reduceMul, Nat.reduceEqDiff, Nat.reduceBEq, Nat.reduceLT, Nat.reduceLeDiff, ↓reduceIte, reduceCtorEq, Nat.reduceShiftRight, Nat.reduceAnd, Nat.reduceBneDiff]; congr 1; omega)
def m_plain_Branch_1 (a0 : Node) : Option (Bool) := (m_plain_Node a0).bind fun v1 => some (!v1)
def Y_plain_Branch_1 := And.intro (And.intro ((@R46)) ((@DOrigin))) (And.intro ((@DAttr)) (And.intro ((@DNode)) ((@DEntry))))
set_option maxHeartbeats 2000000 in
theorem ok_plain_Branch_1 (a0 : Node) (r : Bool) (hm0 : m_plain_Branch_1 a0 = some r) : Ok Try.prog 60 [encNode a0] (bool r) := by
  unfold m_plain_Branch_1 at hm0
  refine okF fc_plain_Branch_1 (by simp) ?_
  unfold c_plain_Branch_1
  rcases h2 : m_plain_Node a0 with _ | v1
  · rw [h2] at hm0; simp only [Option.bind_none, reduceCtorEq] at hm0
  rw [h2] at hm0; simp only [Option.bind_some] at hm0
  simp only [Y_plain_Branch_1, EV, ↓EVd, isCall, Nat.reduceAdd, Nat.reduceSub, Nat.reduceMul, Nat.reduceEqDiff, Nat.reduceBEq, Nat.reduceLT, Nat.reduceLeDiff, ↓reduceIte, reduceCtorEq, Nat.reduceShiftRight, Nat.reduceAnd, Nat.reduceBneDiff]
  refine S1_ok (ok_plain_Node _ _ h2) rfl (by simp only [CLO]) ?_
  simp only [Option.some.injEq] at hm0
  subst hm0
  simp only [Y_plain_Branch_1, EV, ↓EVd, isCall, Nat.reduceAdd, Nat.reduceSub, Nat.reduceMul, Nat.reduceEqDiff, Nat.reduceBEq, Nat.reduceLT, Nat.reduceLeDiff, ↓reduceIte, reduceCtorEq, Nat.reduceShiftRight, Nat.reduceAnd, Nat.reduceBneDiff]
  all_goals first | done | rfl
def m_plain_Branch (a0 : Branch) (a1 : Int) : Option (Bool) := if (a0.nodes.length : Int) ≤ a1 then (containsM (fun z => m_plain_Branch_1 z ) a0.nodes).bind fun v3 => some (!v3)
 else some false
def Y_plain_Branch := And.intro (And.intro (And.intro ((@R3)) ((@R24))) (And.intro ((@R26)) (And.intro ((@R46)) ((@R57))))) (And.intro (And.intro ((@DBranch)) ((@DOrigin))) (And.intro ((@DAttr)) (And.intro ((@DNode)) ((@DEntry)))))
set_option maxHeartbeats 2000000 in
theorem ok_plain_Branch (a0 : Branch) (a1 : Int) (r : Bool) (hm0 : m_plain_Branch a0 a1 = some r) : Ok Try.prog 20 [encBranch a0, int a1] (bool r) := by
  unfold m_plain_Branch at hm0
  refine okF fc_plain_Branch (by simp) ?_
  unfold c_plain_Branch
  by_cases h1 : (a0.nodes.length : Int) ≤ a1
  · have e2 : ((a0.nodes.length : Int) ≤ a1) = True := eq_true h1
    rw [if_pos h1] at hm0
    rcases h4 : containsM (fun z => m_plain_Branch_1 z ) a0.nodes with _ | v3
    · rw [h4] at hm0; simp only [Option.bind_none, reduceCtorEq] at hm0
    rw [h4] at hm0; simp only [Option.bind_some] at hm0
    simp only [e2, Y_plain_Branch, EV, ↓EVd, isCall, Nat.reduceAdd, Nat.reduceSub, Nat.reduceMul, Nat.reduceEqDiff, Nat.reduceBEq, Nat.reduceLT, Nat.reduceLeDiff, ↓reduceIte, reduceCtorEq, Nat.reduceShiftRight, Nat.reduceAnd, Nat.reduceBneDiff]
    refine S1_ok (containsM_ok fc_slices_ContainsFunc_api_Node_api_Node fc_slices_IndexFunc_api_Node_api_Node elemOfT_24 aggN_46 (fi := []) (ca := []) encNode a0.nodes (fun z => m_plain_Branch_1 z ) _ h4 (fun z b hz => ok_plain_Branch_1 z  b hz) (fun z => by simp only [CLO]) rfl (by simp only [CLO]) (fun z => by simp only [Y_plain_Branch, EV, ↓EVd, isCall, Nat.reduceAdd, Nat.reduceSub, Nat.reduceMul, Nat.reduceEqDiff, Nat.reduceBEq, Nat.reduceLT, Nat.reduceLeDiff, ↓reduceIte, reduceCtorEq, Nat.reduceShiftRight, Nat.reduceAnd, Nat.reduceBneDiff])) rfl (by simp only [CLO]) ?_
    simp only [Option.some.injEq] at hm0
    subst hm0
    simp only [e2, Y_plain_Branch, EV, ↓EVd, isCall, Nat.reduceAdd, Nat.reduceSub, Nat.reduceMul, Nat.reduceEqDiff, Nat.reduceBEq, Nat.reduceLT, Nat.reduceLeDiff, ↓reduceIte, reduceCtorEq, Nat.reduceShiftRight, Nat.reduceAnd, Nat.reduceBneDiff]
    all_goals first | done | rfl
  · have e2 : ((a0.nodes.length : Int) ≤ a1) = False := eq_false h1
    rw [if_neg h1] at hm0
    simp only [Option.some.injEq] at hm0
    subst hm0
    simp only [e2, Y_plain_Branch, EV, ↓EVd, isCall, Nat.reduceAdd, Nat.reduceSub, Nat.reduceMul, Nat.reduceEqDiff, Nat.reduceBEq, Nat.reduceLT, Nat.reduceLeDiff, ↓reduceIte, reduceCtorEq, Nat.reduceShiftRight, Nat.reduceAnd, Nat.reduceBneDiff]
    all_goals first | done | rfl
def m_plain_Stack_1 (a0 : Branch) (a1 : Int) : Option (Bool) := (m_plain_Branch a0 a1).bind fun v1 => some (!v1)
def Y_plain_Stack_1 := And.intro (And.intro ((@R3)) (And.intro ((@R26)) ((@DBranch)))) (And.intro (And.intro ((@DOrigin)) ((@DAttr))) (And.intro ((@DNode)) ((@DEntry))))
set_option maxHeartbeats 2000000 in
theorem ok_plain_Stack_1 (a0 : Branch) (a1 : Int) (r : Bool) (hm0 : m_plain_Stack_1 a0 a1 = some r) : Ok Try.prog 54 [encBranch a0, .ptr (int a1) 0] (bool r) := by
  unfold m_plain_Stack_1 at hm0
  refine okF fc_plain_Stack_1 (by simp) ?_
  unfold c_plain_Stack_1
  rcases h2 : m_plain_Branch a0 a1 with _ | v1
  · rw [h2] at hm0; simp only [Option.bind_none, reduceCtorEq] at hm0
  rw [h2] at hm0; simp only [Option.bind_some] at hm0
  simp only [Y_plain_Stack_1, EV, ↓EVd, isCall, Nat.reduceAdd, Nat.reduceSub, Nat.reduceMul, Nat.reduceEqDiff, Nat.reduceBEq, Nat.reduceLT, Nat.reduceLeDiff, ↓reduceIte, reduceCtorEq, Nat.reduceShiftRight, Nat.reduceAnd, Nat.reduceBneDiff]
  refine S1_ok (ok_plain_Branch _ _ _ h2) rfl (by simp only [CLO]) ?_
  simp only [Option.some.injEq] at hm0
  subst hm0
  simp only [Y_plain_Stack_1, EV, ↓EVd, isCall, Nat.reduceAdd, Nat.reduceSub, Nat.reduceMul, Nat.reduceEqDiff, Nat.reduceBEq, Nat.reduceLT, Nat.reduceLeDiff, ↓reduceIte, reduceCtorEq, Nat.reduceShiftRight, Nat.reduceAnd, Nat.reduceBneDiff]
  all_goals first | done | rfl
def m_plain_Stack (a0 : Stack) (a1 : Int) : Option (Bool) := if (a0.lowers.length : Int) ≤ 3 then (m_plain_Branch a0.upper a1).bind fun v3 => if v3 = true then (containsM (fun z => m_plain_Stack_1 z a1) a0.lowers).bind fun v7 => some (!v7)
 else some false
 else some false
def Y_plain_Stack := And.intro (And.intro (And.intro ((@R3)) (And.intro ((@R26)) ((@R27)))) (And.intro ((@R29)) (And.intro ((@R56)) ((@DGeo))))) (And.intro (And.intro ((@DBranch)) (And.intro ((@DStack)) ((@DOrigin)))) (And.intro ((@DAttr)) (And.intro ((@DNode)) ((@DEntry)))))
set_option maxHeartbeats 2000000 in
theorem ok_plain_Stack (a0 : Stack) (a1 : Int) (r : Bool) (hm0 : m_plain_Stack a0 a1 = some r) : Ok Try.prog 12 [encStack a0, int a1] (bool r) := by
  unfold m_plain_Stack at hm0
  refine okF fc_plain_Stack (by simp) ?_
  unfold c_plain_Stack
  by_cases h1 : (a0.lowers.length : Int) ≤ 3
  · have e2 : ((a0.lowers.length : Int) ≤ 3) = True := eq_true h1
    rw [if_pos h1] at hm0
    rcases h4 : m_plain_Branch a0.upper a1 with _ | v3
    · rw [h4] at hm0; simp only [Option.bind_none, reduceCtorEq] at hm0
    rw [h4] at hm0; simp only [Option.bind_some] at hm0
    simp only [e2, Y_plain_Stack, EV, ↓EVd, isCall, Nat.reduceAdd, Nat.reduceSub, Nat.reduceMul, Nat.reduceEqDiff, Nat.reduceBEq, Nat.reduceLT, Nat.reduceLeDiff, ↓reduceIte, reduceCtorEq, Nat.reduceShiftRight, Nat.reduceAnd, Nat.reduceBneDiff]
    refine S1_ok (ok_plain_Branch _ _ _ h4) rfl (by simp only [CLO]) ?_
    by_cases h5 : v3 = true
    · have e6 : v3 = true := h5
      rw [if_pos h5] at hm0
      rcases h8 : containsM (fun z => m_plain_Stack_1 z a1) a0.lowers with _ | v7
      · rw [h8] at hm0; simp only [Option.bind_none, reduceCtorEq] at hm0
      rw [h8] at hm0; simp only [Option.bind_some] at hm0
      simp only [e2, e6, Y_plain_Stack, EV, ↓EVd, isCall, Nat.reduceAdd, Nat.reduceSub, Nat.reduceMul, Nat.reduceEqDiff, Nat.reduceBEq, Nat.reduceLT, Nat.reduceLeDiff, ↓reduceIte, reduceCtorEq, Nat.reduceShiftRight, Nat.reduceAnd, Nat.reduceBneDiff]
      refine S1_okb 9 (containsM_ok fc_slices_ContainsFunc_api_Branch_api_Branch fc_slices_IndexFunc_api_Branch_api_Branch elemOfT_27 aggN_26 (fi := []) (ca := [.ptr (int a1) 0]) encBranch a0.lowers (fun z => m_plain_Stack_1 z a1) _ h8 (fun z b hz => ok_plain_Stack_1 z a1 b hz) (fun z => by simp only [CLO]) rfl (by simp only [CLO]) (fun z => by simp only [Y_plain_Stack, EV, ↓EVd, isCall, Nat.reduceAdd, Nat.reduceSub, Nat.reduceMul, Nat.reduceEqDiff, Nat.reduceBEq, Nat.reduceLT, Nat.reduceLeDiff, ↓reduceIte, reduceCtorEq, Nat.reduceShiftRight, Nat.reduceAnd, Nat.reduceBneDiff])) rfl (frzs_cons (frz_closed (x := .sl 1 (a0.lowers.map encBranch)) (by simp only [CLO]) _ _) (frzs_cons (frz_fn (frzs_nil) (frzs_cons (frz_loc (T := 3) (xs := [int a1]) (by first | rfl | simp only [e2, e6, Y_plain_Stack, EV, ↓EVd, isCall, Nat.reduceAdd, Nat.reduceSub, Nat.reduceMul, Nat.reduceEqDiff, Nat.reduceBEq, Nat.reduceLT, Nat.reduceLeDiff, ↓reduceIte, reduceCtorEq, Nat.reduceShiftRight, Nat.reduceAnd, Nat.reduceBneDiff]) rfl (frz_closed (x := int a1) (by simp only [CLO]) _ _)) (frzs_nil))) (frzs_nil))) rfl ?_
      simp only [Option.some.injEq] at hm0
      subst hm0
      simp only [e2, e6, Y_plain_Stack, EV, ↓EVd, isCall, Nat.reduceAdd, Nat.reduceSub, Nat.reduceMul, Nat.reduceEqDiff, Nat.reduceBEq, Nat.reduceLT, Nat.reduceLeDiff, ↓reduceIte, reduceCtorEq, Nat.reduceShiftRight, Nat.reduceAnd, Nat.reduceBneDiff]
      all_goals first | done | rfl
    · have e6 : v3 = false := Bool.eq_false_iff.2 h5
      rw [if_neg h5] at hm0
      simp only [Option.some.injEq] at hm0
      subst hm0
      simp only [e2, e6, Y_plain_Stack, EV, ↓EVd, isCall, Nat.reduceAdd, Nat.reduceSub, Nat.reduceMul, Nat.reduceEqDiff, Nat.reduceBEq, Nat.reduceLT, Nat.reduceLeDiff, ↓reduceIte, reduceCtorEq, Nat.reduceShiftRight, Nat.reduceAnd, Nat.reduceBneDiff]
      all_goals first | done | rfl
  · have e2 : ((a0.lowers.length : Int) ≤ 3) = False := eq_false h1
    rw [if_neg h1] at hm0
    simp only [Option.some.injEq] at hm0
    subst hm0
    simp only [e2, Y_plain_Stack, EV, ↓EVd, isCall, Nat.reduceAdd, Nat.reduceSub, Nat.reduceMul, Nat.reduceEqDiff, Nat.reduceBEq, Nat.reduceLT, Nat.reduceLeDiff, ↓reduceIte, reduceCtorEq, Nat.reduceShiftRight, Nat.reduceAnd, Nat.reduceBneDiff]
    all_goals first | done | rfl
end Go.Proofs.Ytnmljicimdhpmaa.AL

