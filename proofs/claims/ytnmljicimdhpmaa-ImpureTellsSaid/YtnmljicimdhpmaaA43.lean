/- What any node of any stack should say of copies, and which say otherwise, is what the document says: part 43 of 49. -/
import Derived.Test.YtnmljicimdhpmaaA42
set_option linter.all false
/- Models of functions, and that the functions are as their models: written by gen.py. -/
set_option linter.all false
set_option maxRecDepth 100000
namespace Go.Proofs.Ytnmljicimdhpmaa.AL
open Go Go.Proofs
def m_ref09_has (a0 : Int) (a1 : Int) : Option (Bool) := (ck (¬ a1 = 0)).bind fun _ => if ((wr (a0.tdiv a1)).tmod 2) = 1 then some true
 else some false
set_option maxHeartbeats 2000000 in
theorem ok_ref09_has (a0 : Int) (a1 : Int) (r : Bool) (hm0 : m_ref09_has a0 a1 = some r) : Ok Try.prog 89 [int a0, int a1] (bool r) := by
  unfold m_ref09_has at hm0
  refine okF fc_ref09_has (by simp) ?_
  unfold c_ref09_has
  rcases h1 : ck (¬ a1 = 0) with _ | h1u
  · rw [h1] at hm0; simp only [Option.bind_none, reduceCtorEq] at hm0
  rw [h1] at hm0; simp only [Option.bind_some] at hm0
  have e2 := eq_true (ck_some h1)
  have e3 : ((2 : Int) = 0) = False := by decide
  by_cases h4 : ((wr (a0.tdiv a1)).tmod 2) = 1
  · have e5 : (((wr (a0.tdiv a1)).tmod 2) = 1) = True := eq_true h4
    rw [if_pos h4] at hm0
    simp only [Option.some.injEq] at hm0
    subst hm0
    simp only [e2, e3, e5, R3, EV, ↓EVd, isCall, Nat.reduceAdd, Nat.reduceSub, Nat.reduceMul, Nat.reduceEqDiff, Nat.reduceBEq, Nat.reduceLT, Nat.reduceLeDiff, ↓reduceIte, reduceCtorEq, Nat.reduceShiftRight, Nat.reduceAnd, Nat.reduceBneDiff]
    all_goals first | done | rfl
  · have e5 : (((wr (a0.tdiv a1)).tmod 2) = 1) = False := eq_false h4
    rw [if_neg h4] at hm0
    simp only [Option.some.injEq] at hm0
    subst hm0
    simp only [e2, e3, e5, R3, EV, ↓EVd, isCall, Nat.reduceAdd, Nat.reduceSub, Nat.reduceMul, Nat.reduceEqDiff, Nat.reduceBEq, Nat.reduceLT, Nat.reduceLeDiff, ↓reduceIte, reduceCtorEq, Nat.reduceShiftRight, Nat.reduceAnd, Nat.reduceBneDiff]
    all_goals first | done | rfl
def m_ref09_Has (a0 : Attr) (a1 : Int) : Option (Bool) := if 0 ≤ a0.has then (m_ref09_has a0.has a1).bind fun v3 => some v3
 else some false
def Y_ref09_Has := And.intro (And.intro ((@R3)) ((@R44))) (And.intro ((@DOrigin)) ((@DAttr)))
set_option maxHeartbeats 2000000 in
theorem ok_ref09_Has (a0 : Attr) (a1 : Int) (r : Bool) (hm0 : m_ref09_Has a0 a1 = some r) : Ok Try.prog 58 [encAttr a0, int a1] (bool r) := by
  unfold m_ref09_Has at hm0
  refine okF fc_ref09_Has (by simp) ?_
  unfold c_ref09_Has
  by_cases h1 : 0 ≤ a0.has
  · have e2 : (0 ≤ a0.has) = True := eq_true h1
    rw [if_pos h1] at hm0
    rcases h4 : m_ref09_has a0.has a1 with _ | v3
    · rw [h4] at hm0; simp only [Option.bind_none, reduceCtorEq] at hm0
    rw [h4] at hm0; simp only [Option.bind_some] at hm0
    simp only [e2, Y_ref09_Has, EV, ↓EVd, isCall, Nat.reduceAdd, Nat.reduceSub, Nat.reduceMul, Nat.reduceEqDiff, Nat.reduceBEq, Nat.reduceLT, Nat.reduceLeDiff, ↓reduceIte, reduceCtorEq, Nat.reduceShiftRight, Nat.reduceAnd, Nat.reduceBneDiff]
    refine S1_ok (ok_ref09_has _ _ _ h4) rfl (by simp only [CLO]) ?_
    simp only [Option.some.injEq] at hm0
    subst hm0
    simp only [e2, Y_ref09_Has, EV, ↓EVd, isCall, Nat.reduceAdd, Nat.reduceSub, Nat.reduceMul, Nat.reduceEqDiff, Nat.reduceBEq, Nat.reduceLT, Nat.reduceLeDiff, ↓reduceIte, reduceCtorEq, Nat.reduceShiftRight, Nat.reduceAnd, Nat.reduceBneDiff]
    all_goals first | done | rfl
  · have e2 : (0 ≤ a0.has) = False := eq_false h1
    rw [if_neg h1] at hm0
    simp only [Option.some.injEq] at hm0
    subst hm0
    simp only [e2, Y_ref09_Has, EV, ↓EVd, isCall, Nat.reduceAdd, Nat.reduceSub, Nat.reduceMul, Nat.reduceEqDiff, Nat.reduceBEq, Nat.reduceLT, Nat.reduceLeDiff, ↓reduceIte, reduceCtorEq, Nat.reduceShiftRight, Nat.reduceAnd, Nat.reduceBneDiff]
    all_goals first | done | rfl
def m_ref24_Want_b0 (a0 : Stack) (v1 : Node) : Int → Option (St (Int) ((Unit) ⊕ (Int)))
 | v14 => if v14 < (v1.entries.length : Int) then (ix v1.entries v14).bind fun v18 => (m_ref13_At a0.upper v18.ino).bind fun v22 => (m_ref09_Has v22.attr 4).bind fun v24 => if v24 = true then some (.out (.inr 121))
 else some (.nx (wr (v14 + 1)))
 else some (.out (.inl ()))
def m_ref24_Want (a0 : Stack) (a1 : Int) : Option (Int) := (m_ref13_At a0.upper a1).bind fun v1 => if v1.kind = 1 then (m_ref13_Reach a0.upper ([1] : List Int)).bind fun v5 => (ix v5 (wr (a1 - 1))).bind fun v7 => if (!v7) = true then some 0
 else (iter (m_ref24_Want_b0 a0 v1) big 0).bind fun o => (match o with
 | (.inl _) => some 0
 | (.inr r) => some r)
 else some 0
def Y_ref24_Want := And.intro (And.intro (And.intro (And.intro ((@R3)) ((@R4))) (And.intro ((@R26)) ((@R29)))) (And.intro (And.intro ((@R40)) ((@R44))) (And.intro ((@R46)) (And.intro ((@R54)) ((@R63)))))) (And.intro (And.intro (And.intro ((@R72)) ((@DGeo))) (And.intro ((@DBranch)) ((@DStack)))) (And.intro (And.intro ((@DOrigin)) ((@DAttr))) (And.intro ((@DNode)) (And.intro ((@DEntry)) ((@mixed))))))
set_option maxHeartbeats 2000000 in
theorem ok_ref24_Want (a0 : Stack) (a1 : Int) (r : Int) (hm0 : m_ref24_Want a0 a1 = some r) : Ok Try.prog 18 [encStack a0, int a1] (int r) := by
  unfold m_ref24_Want at hm0
  refine okF fc_ref24_Want (by simp) ?_
  unfold c_ref24_Want
  rcases h2 : m_ref13_At a0.upper a1 with _ | v1
  · rw [h2] at hm0; simp only [Option.bind_none, reduceCtorEq] at hm0
  rw [h2] at hm0; simp only [Option.bind_some] at hm0
  simp only [Y_ref24_Want, EV, ↓EVd, isCall, Nat.reduceAdd, Nat.reduceSub, Nat.reduceMul, Nat.reduceEqDiff, Nat.reduceBEq, Nat.reduceLT, Nat.reduceLeDiff, ↓reduceIte, reduceCtorEq, Nat.reduceShiftRight, Nat.reduceAnd, Nat.reduceBneDiff]
  refine S1_ok (ok_ref13_At _ _ _ h2) rfl (by simp only [CLO]) ?_
  by_cases h3 : v1.kind = 1
  · have e4 : (v1.kind = 1) = True := eq_true h3
    rw [if_pos h3] at hm0
    rcases h6 : m_ref13_Reach a0.upper ([1] : List Int) with _ | v5
    · rw [h6] at hm0; simp only [Option.bind_none, reduceCtorEq] at hm0
    rw [h6] at hm0; simp only [Option.bind_some] at hm0
    simp only [e4, Y_ref24_Want, EV, ↓EVd, isCall, Nat.reduceAdd, Nat.reduceSub, Nat.reduceMul, Nat.reduceEqDiff, Nat.reduceBEq, Nat.reduceLT, Nat.reduceLeDiff, ↓reduceIte, reduceCtorEq, Nat.reduceShiftRight, Nat.reduceAnd, Nat.reduceBneDiff]
    refine S1_okk (ok_ref13_Reach _ _ _ h6) rfl (by simp only [e4, fk_nil, fk_clo, fkK_row, fk_msl, CLO, fkO_some, Y_ref24_Want, EV, ↓EVd, isCall, Nat.reduceAdd, Nat.reduceSub, Nat.reduceMul, Nat.reduceEqDiff, Nat.reduceBEq, Nat.reduceLT, Nat.reduceLeDiff, ↓reduceIte, reduceCtorEq, Nat.reduceShiftRight, Nat.reduceAnd, Nat.reduceBneDiff]; first | done | rfl) ?_
    rcases h8 : ix v5 (wr (a1 - 1)) with _ | v7
    · rw [h8] at hm0; simp only [Option.bind_none, reduceCtorEq] at hm0
    rw [h8] at hm0; simp only [Option.bind_some] at hm0
    have e9 := eq_true (ix_nonneg h8)
    have e10 := ix_enc bool h8
    by_cases h11 : (!v7) = true
    · have e12 : (!v7) = true := h11
      rw [if_pos h11] at hm0
      simp only [Option.some.injEq] at hm0
      subst hm0
      simp only [e4, e9, e10, e12, Y_ref24_Want, EV, ↓EVd, isCall, Nat.reduceAdd, Nat.reduceSub, Nat.reduceMul, Nat.reduceEqDiff, Nat.reduceBEq, Nat.reduceLT, Nat.reduceLeDiff, ↓reduceIte, reduceCtorEq, Nat.reduceShiftRight, Nat.reduceAnd, Nat.reduceBneDiff]
      all_goals first | done | rfl
    · have e12 : (!v7) = false := Bool.eq_false_iff.2 h11
      rw [if_neg h11] at hm0
      rcases ho0 : iter (m_ref24_Want_b0 a0 v1) big 0 with _ | o0
      · rw [ho0] at hm0; simp only [Option.bind_none, reduceCtorEq] at hm0
      rw [ho0] at hm0; simp only [Option.bind_some] at hm0
      simp only [e4, e9, e10, e12, Y_ref24_Want, EV, ↓EVd, isCall, Nat.reduceAdd, Nat.reduceSub, Nat.reduceMul, Nat.reduceEqDiff, Nat.reduceBEq, Nat.reduceLT, Nat.reduceLeDiff, ↓reduceIte, reduceCtorEq, Nat.reduceShiftRight, Nat.reduceAnd, Nat.reduceBneDiff]
      obtain ⟨J0_0, hJ0_0⟩ : ∃ J : AS → Prop, J = fun s => (.inl ()) = o0 := ⟨_, rfl⟩
      refine cwp_cut 0 J0_0 ?_ ?_
      rotate_left
      · clear ho0
        rintro ⟨T0, H0, x15⟩ hs
        rw [hJ0_0] at hs
        have hq := hs
        subst hq
        try dsimp only at hm0
        simp only [Option.some.injEq] at hm0
        subst hm0
        simp only [e4, e9, e10, e12, Y_ref24_Want, EV, ↓EVd, isCall, Nat.reduceAdd, Nat.reduceSub, Nat.reduceMul, Nat.reduceEqDiff, Nat.reduceBEq, Nat.reduceLT, Nat.reduceLeDiff, ↓reduceIte, reduceCtorEq, Nat.reduceShiftRight, Nat.reduceAnd, Nat.reduceBneDiff]
        all_goals first | done | rfl
      obtain ⟨I0, hI0⟩ : ∃ I : Nat → AS → Prop, I = fun k s => ∃ v14 : Int, s.T 2 = .loc 0 6 0 0 ∧ s.T 5 = .loc 6 13 0 0 ∧ s.T 6 = int v14 ∧ s.H 0 = some (.row 29 6 [encStack a0]) ∧ s.H 6 = some (.row 46 13 [encNode v1]) ∧ 0 < s.nx ∧ 6 < s.nx ∧ iter (m_ref24_Want_b0 a0 v1) k v14 = some o0 := ⟨_, rfl⟩
      refine cwp_iter I0 big ?_ ?_ ?_
      · rw [hI0]
        refine TI.here ⟨0, ?_, ?_, ?_, ?_, ?_, ?_, ?_, ho0⟩
        all_goals first | omega | (simp only [e4, e9, e10, e12, Y_ref24_Want, EV, ↓EVd, isCall, Nat.reduceAdd, Nat.reduceSub, Nat.reduceMul, Nat.reduceEqDiff, Nat.reduceBEq, Nat.reduceLT, Nat.reduceLeDiff, ↓reduceIte, reduceCtorEq, Nat.reduceShiftRight, Nat.reduceAnd, Nat.reduceBneDiff]; done) | (simp only [e4, e9, e10, e12, Y_ref24_Want, EV, ↓EVd, isCall, Nat.reduceAdd, Nat.reduceSub, Nat.reduceMul, Nat.reduceEqDiff, Nat.reduceBEq, Nat.reduceLT, Nat.reduceLeDiff, ↓reduceIte, reduceCtorEq, Nat.reduceShiftRight, Nat.reduceAnd, Nat.reduceBneDiff]; omega) | (simp only [e4, e9, e10, e12, Y_ref24_Want, EV, ↓EVd, isCall, Nat.reduceAdd, Nat.reduceSub, Nat.reduceMul, Nat.reduceEqDiff, Nat.reduceBEq, Nat.reduceLT, Nat.reduceLeDiff, ↓reduceIte, reduceCtorEq, Nat.reduceShiftRight, Nat.reduceAnd, Nat.reduceBneDiff]; congr 1; omega)
      · rintro s hs
        rw [hI0] at hs
        obtain ⟨_, _, _, _, _, _, _, _, hz⟩ := hs
        simp only [iter_zero, reduceCtorEq] at hz
      · clear ho0
        rintro k ⟨T0, H0, x13⟩ hs
        rw [hI0] at hs
        obtain ⟨v14, k0_0, k0_1, k0_2, k0_3, k0_4, k0_5, k0_6, hm1⟩ := hs
        try simp only at k0_0 k0_1 k0_2 k0_3 k0_4 k0_5 k0_6
        apply cw_cwp
        rw [iter_succ] at hm1; simp only [m_ref24_Want_b0] at hm1
        have kk0 := And.intro (And.intro (And.intro ((k0_0)) (And.intro ((k0_1)) ((k0_2)))) (And.intro ((k0_3)) (And.intro ((k0_4)) ((k0_5))))) (And.intro (And.intro ((ne2 k0_5)) (And.intro ((ne2' k0_5)) ((lt2 k0_5)))) (And.intro (And.intro ((k0_6)) ((ne2 k0_6))) (And.intro ((ne2' k0_6)) ((lt2 k0_6)))))
        by_cases h16 : v14 < (v1.entries.length : Int)
        · have e17 : (v14 < (v1.entries.length : Int)) = True := eq_true h16
          rw [if_pos h16] at hm1
          rcases h19 : ix v1.entries v14 with _ | v18
          · rw [h19] at hm1; simp only [Option.bind_none, reduceCtorEq] at hm1
          rw [h19] at hm1; simp only [Option.bind_some] at hm1
          have e20 := eq_true (ix_nonneg h19)
          have e21 := ix_enc encEntry h19
          rcases h23 : m_ref13_At a0.upper v18.ino with _ | v22
          · rw [h23] at hm1; simp only [Option.bind_none, reduceCtorEq] at hm1
          rw [h23] at hm1; simp only [Option.bind_some] at hm1
          simp only [kk0, e4, e9, e10, e12, e17, e20, e21, Y_ref24_Want, EV, ↓EVd, isCall, Nat.reduceAdd, Nat.reduceSub, Nat.reduceMul, Nat.reduceEqDiff, Nat.reduceBEq, Nat.reduceLT, Nat.reduceLeDiff, ↓reduceIte, reduceCtorEq, Nat.reduceShiftRight, Nat.reduceAnd, Nat.reduceBneDiff]
          refine ⟨_, OpS1_ok (ok_ref13_At _ _ _ h23) rfl (by simp only [CLO]), ?_⟩
          rcases h25 : m_ref09_Has v22.attr 4 with _ | v24
          · rw [h25] at hm1; simp only [Option.bind_none, reduceCtorEq] at hm1
          rw [h25] at hm1; simp only [Option.bind_some] at hm1
          simp only [kk0, e4, e9, e10, e12, e17, e20, e21, Y_ref24_Want, EV, ↓EVd, isCall, Nat.reduceAdd, Nat.reduceSub, Nat.reduceMul, Nat.reduceEqDiff, Nat.reduceBEq, Nat.reduceLT, Nat.reduceLeDiff, ↓reduceIte, reduceCtorEq, Nat.reduceShiftRight, Nat.reduceAnd, Nat.reduceBneDiff]
          refine ⟨_, OpS1_ok (ok_ref09_Has _ _ _ h25) rfl (by simp only [CLO]), ?_⟩
          by_cases h26 : v24 = true
          · have e27 : v24 = true := h26
            rw [if_pos h26] at hm1
            try simp only [Option.bind_some, Option.some.injEq] at hm1
            subst hm1
            try simp only [Option.bind_some, Option.some.injEq] at hm0
            subst hm0
            simp only [kk0, e4, e9, e10, e12, e17, e20, e21, e27, Y_ref24_Want, EV, ↓EVd, isCall, Nat.reduceAdd, Nat.reduceSub, Nat.reduceMul, Nat.reduceEqDiff, Nat.reduceBEq, Nat.reduceLT, Nat.reduceLeDiff, ↓reduceIte, reduceCtorEq, Nat.reduceShiftRight, Nat.reduceAnd, Nat.reduceBneDiff]
            all_goals first | done | rfl
          · have e27 : v24 = false := Bool.eq_false_iff.2 h26
            rw [if_neg h26] at hm1
            try simp only [Option.bind_some] at hm1
            simp only [kk0, e4, e9, e10, e12, e17, e20, e21, e27, Y_ref24_Want, EV, ↓EVd, isCall, Nat.reduceAdd, Nat.reduceSub, Nat.reduceMul, Nat.reduceEqDiff, Nat.reduceBEq, Nat.reduceLT, Nat.reduceLeDiff, ↓reduceIte, reduceCtorEq, Nat.reduceShiftRight, Nat.reduceAnd, Nat.reduceBneDiff]
            rw [hI0]
            refine TI.here ⟨(wr (v14 + 1)), ?_, ?_, ?_, ?_, ?_, ?_, ?_, hm1⟩
            all_goals first | omega | (simp only [kk0, e4, e9, e10, e12, e17, e20, e21, e27, Y_ref24_Want, EV, ↓EVd, isCall, Nat.reduceAdd, Nat.reduceSub, Nat.reduceMul, Nat.reduceEqDiff, Nat.reduceBEq, Nat.reduceLT, Nat.reduceLeDiff, ↓reduceIte, reduceCtorEq, Nat.reduceShiftRight, Nat.reduceAnd, Nat.reduceBneDiff]; done) | (simp only [kk0, e4, e9, e10, e12, e17, e20, e21, e27, Y_ref24_Want, EV, ↓EVd, isCall, Nat.reduceAdd, Nat.reduceSub, Nat.reduceMul, Nat.reduceEqDiff, Nat.reduceBEq, Nat.reduceLT, Nat.reduceLeDiff, ↓reduceIte, reduceCtorEq, Nat.reduceShiftRight, Nat.reduceAnd, Nat.reduceBneDiff]; omega) | (simp only [kk0, e4, e9, e10, e12, e17, e20, e21, e27, Y_ref24_Want, EV, ↓EVd, isCall, Nat.reduceAdd, Nat.reduceSub, Nat.reduceMul, Nat.reduceEqDiff, Nat.reduceBEq, Nat.reduceLT, Nat.reduceLeDiff, ↓reduceIte, reduceCtorEq, Nat.reduceShiftRight, Nat.reduceAnd, Nat.reduceBneDiff]; congr 1; omega)
        · have e17 : (v14 < (v1.entries.length : Int)) = False := eq_false h16
          rw [if_neg h16] at hm1
          try simp only [Option.bind_some, Option.some.injEq] at hm1
          simp only [kk0, e4, e9, e10, e12, e17, Y_ref24_Want, EV, ↓EVd, isCall, Nat.reduceAdd, Nat.reduceSub, Nat.reduceMul, Nat.reduceEqDiff, Nat.reduceBEq, Nat.reduceLT, Nat.reduceLeDiff, ↓reduceIte, reduceCtorEq, Nat.reduceShiftRight, Nat.reduceAnd, Nat.reduceBneDiff]
          rw [hJ0_0]
          exact TI.here hm1
  · have e4 : (v1.kind = 1) = False := eq_false h3
    rw [if_neg h3] at hm0
    simp only [Option.some.injEq] at hm0
    subst hm0
    simp only [e4, Y_ref24_Want, EV, ↓EVd, isCall, Nat.reduceAdd, Nat.reduceSub, Nat.reduceMul, Nat.reduceEqDiff, Nat.reduceBEq, Nat.reduceLT, Nat.reduceLeDiff, ↓reduceIte, reduceCtorEq, Nat.reduceShiftRight, Nat.reduceAnd, Nat.reduceBneDiff]
    all_goals first | done | rfl
def m_ref24_Findings_b0 (a0 : Stack) (v1 : List Bool) : (List Finding × Int) → Option (St (List Finding × Int) (List Finding))
 | (v5, v6) => if v6 ≤ (v1.length : Int) then (m_ref13_At a0.upper v6).bind fun v12 => (ix v1 (wr (v6 - 1))).bind fun v14 => if v14 = true then (m_ref24_Want a0 v6).bind fun v20 => if v12.impure = v20 then some (.nx (v5, (wr (v6 + 1))))
 else (ap 32 v5 ([(⟨18, 0, v6, (-1)⟩ : Finding)] : List Finding)).bind fun _ => some (.nx ((v5 ++ ([(⟨18, 0, v6, (-1)⟩ : Finding)] : List Finding)), (wr (v6 + 1))))
 else if v12.kind = 1 then if v6 = 2 then (m_ref24_Want a0 v6).bind fun v33 => if v12.impure = v33 then some (.nx (v5, (wr (v6 + 1))))
 else (ap 32 v5 ([(⟨18, 0, v6, (-1)⟩ : Finding)] : List Finding)).bind fun _ => some (.nx ((v5 ++ ([(⟨18, 0, v6, (-1)⟩ : Finding)] : List Finding)), (wr (v6 + 1))))
 else if v6 = 3 then (m_ref24_Want a0 v6).bind fun v44 => if v12.impure = v44 then some (.nx (v5, (wr (v6 + 1))))
 else (ap 32 v5 ([(⟨18, 0, v6, (-1)⟩ : Finding)] : List Finding)).bind fun _ => some (.nx ((v5 ++ ([(⟨18, 0, v6, (-1)⟩ : Finding)] : List Finding)), (wr (v6 + 1))))
 else some (.nx (v5, (wr (v6 + 1))))
 else some (.nx (v5, (wr (v6 + 1))))
 else some (.out v5)
def m_ref24_Findings (a0 : Stack) : Option (List Finding) := (m_ref13_Reach a0.upper ([1] : List Int)).bind fun v1 => (iter (m_ref24_Findings_b0 a0 v1) big (([] : List Finding), 1)).bind fun o => (match o with | v9 => some v9)
def Y_ref24_Findings := And.intro (And.intro (And.intro (And.intro ((@R3)) ((@R4))) (And.intro ((@R26)) ((@R29)))) (And.intro (And.intro ((@R33)) ((@R35))) (And.intro ((@R46)) (And.intro ((@R63)) ((@R72)))))) (And.intro (And.intro (And.intro ((@DGeo)) ((@DBranch))) (And.intro ((@DStack)) ((@DFinding)))) (And.intro (And.intro ((@DOrigin)) ((@DAttr))) (And.intro ((@DNode)) (And.intro ((@DEntry)) ((@mixed))))))
set_option maxHeartbeats 2000000 in
theorem ok_ref24_Findings (a0 : Stack) (r : List Finding) (hm0 : m_ref24_Findings a0 = some r) : Ok Try.prog 16 [encStack a0] (.sl 4 (r.map encFinding)) := by
  unfold m_ref24_Findings at hm0
  refine okF fc_ref24_Findings (by simp) ?_
  unfold c_ref24_Findings
  rcases h2 : m_ref13_Reach a0.upper ([1] : List Int) with _ | v1
  · rw [h2] at hm0; simp only [Option.bind_none, reduceCtorEq] at hm0
  rw [h2] at hm0; simp only [Option.bind_some] at hm0
  simp only [Y_ref24_Findings, EV, ↓EVd, isCall, Nat.reduceAdd, Nat.reduceSub, Nat.reduceMul, Nat.reduceEqDiff, Nat.reduceBEq, Nat.reduceLT, Nat.reduceLeDiff, ↓reduceIte, reduceCtorEq, Nat.reduceShiftRight, Nat.reduceAnd, Nat.reduceBneDiff]
  refine S1_okk (ok_ref13_Reach _ _ _ h2) rfl (by simp only [fk_nil, fk_clo, fkK_row, fk_msl, CLO, fkO_some, Y_ref24_Findings, EV, ↓EVd, isCall, Nat.reduceAdd, Nat.reduceSub, Nat.reduceMul, Nat.reduceEqDiff, Nat.reduceBEq, Nat.reduceLT, Nat.reduceLeDiff, ↓reduceIte, reduceCtorEq, Nat.reduceShiftRight, Nat.reduceAnd, Nat.reduceBneDiff]; first | done | rfl) ?_
  rcases ho0 : iter (m_ref24_Findings_b0 a0 v1) big (([] : List Finding), 1) with _ | o0
  · rw [ho0] at hm0; simp only [Option.bind_none, reduceCtorEq] at hm0
  rw [ho0] at hm0; simp only [Option.bind_some] at hm0
  simp only [Y_ref24_Findings, EV, ↓EVd, isCall, Nat.reduceAdd, Nat.reduceSub, Nat.reduceMul, Nat.reduceEqDiff, Nat.reduceBEq, Nat.reduceLT, Nat.reduceLeDiff, ↓reduceIte, reduceCtorEq, Nat.reduceShiftRight, Nat.reduceAnd, Nat.reduceBneDiff]
  obtain ⟨J0_0, hJ0_0⟩ : ∃ J : AS → Prop, J = fun s => ∃ v9 : List Finding, ∃ l8 : Nat, s.T 3 = .msl l8 v9.length ∧ s.H l8 = some (.row 35 4 (v9.map encFinding)) ∧ l8 < s.nx ∧ v9 = o0 := ⟨_, rfl⟩
  refine cwp_cut 0 J0_0 ?_ ?_
  rotate_left
  · clear ho0
    rintro ⟨T0, H0, x7⟩ hs
    rw [hJ0_0] at hs
    obtain ⟨v9, l8, k0_0_0, k0_0_1, k0_0_2, hq⟩ := hs
    subst hq
    try simp only at k0_0_0 k0_0_1 k0_0_2
    try dsimp only at hm0
    have kk0_0 := And.intro (And.intro ((k0_0_0)) (And.intro ((k0_0_1)) ((k0_0_2)))) (And.intro ((ne2 k0_0_2)) (And.intro ((ne2' k0_0_2)) ((lt2 k0_0_2))))
    simp only [Option.some.injEq] at hm0
    subst hm0
    simp only [kk0_0, Y_ref24_Findings, EV, ↓EVd, isCall, Nat.reduceAdd, Nat.reduceSub, Nat.reduceMul, Nat.reduceEqDiff, Nat.reduceBEq, Nat.reduceLT, Nat.reduceLeDiff, ↓reduceIte, reduceCtorEq, Nat.reduceShiftRight, Nat.reduceAnd, Nat.reduceBneDiff]
    all_goals first | done | rfl | exact frzR_msl (T := 35) (by simp only [kk0_0, Y_ref24_Findings, EV, ↓EVd, isCall, Nat.reduceAdd, Nat.reduceSub, Nat.reduceMul, Nat.reduceEqDiff, Nat.reduceBEq, Nat.reduceLT, Nat.reduceLeDiff, ↓reduceIte, reduceCtorEq, Nat.reduceShiftRight, Nat.reduceAnd, Nat.reduceBneDiff]) (by simp only [kk0_0, Y_ref24_Findings, EV, ↓EVd, isCall, Nat.reduceAdd, Nat.reduceSub, Nat.reduceMul, Nat.reduceEqDiff, Nat.reduceBEq, Nat.reduceLT, Nat.reduceLeDiff, ↓reduceIte, reduceCtorEq, Nat.reduceShiftRight, Nat.reduceAnd, Nat.reduceBneDiff]) (by simp only [CLO])
  obtain ⟨I0, hI0⟩ : ∃ I : Nat → AS → Prop, I = fun k s => ∃ v5 : List Finding, ∃ v6 : Int, ∃ l4 : Nat, s.T 1 = .loc 0 6 0 0 ∧ s.T 3 = .msl l4 v5.length ∧ s.T 4 = .sl 1 (v1.map bool) ∧ s.T 5 = int v6 ∧ s.H 0 = some (.row 29 6 [encStack a0]) ∧ s.H l4 = some (.row 35 4 (v5.map encFinding)) ∧ 0 < s.nx ∧ l4 < s.nx ∧ 0 ≠ l4 ∧ iter (m_ref24_Findings_b0 a0 v1) k (v5, v6) = some o0 := ⟨_, rfl⟩
  refine cwp_iter I0 big ?_ ?_ ?_
  · rw [hI0]
    refine TI.here ⟨([] : List Finding), 1, 2, ?_, ?_, ?_, ?_, ?_, ?_, ?_, ?_, ?_, ho0⟩
    all_goals first | omega | (simp only [Y_ref24_Findings, EV, ↓EVd, isCall, Nat.reduceAdd, Nat.reduceSub, Nat.reduceMul, Nat.reduceEqDiff, Nat.reduceBEq, Nat.reduceLT, Nat.reduceLeDiff, ↓reduceIte, reduceCtorEq, Nat.reduceShiftRight, Nat.reduceAnd, Nat.reduceBneDiff]; done) | (simp only [Y_ref24_Findings, EV, ↓EVd, isCall, Nat.reduceAdd, Nat.reduceSub, Nat.reduceMul, Nat.reduceEqDiff, Nat.reduceBEq, Nat.reduceLT, Nat.reduceLeDiff, ↓reduceIte, reduceCtorEq, Nat.reduceShiftRight, Nat.reduceAnd, Nat.reduceBneDiff]; omega) | (simp only [Y_ref24_Findings, EV, ↓EVd, isCall, Nat.reduceAdd, Nat.reduceSub, Nat.reduceMul, Nat.reduceEqDiff, Nat.reduceBEq, Nat.reduceLT, Nat.reduceLeDiff, ↓reduceIte, reduceCtorEq, Nat.reduceShiftRight, Nat.reduceAnd, Nat.reduceBneDiff]; congr 1; omega)
  · rintro s hs
    rw [hI0] at hs
    obtain ⟨_, _, _, _, _, _, _, _, _, _, _, _, hz⟩ := hs
    simp only [iter_zero, reduceCtorEq] at hz
  · clear ho0
    rintro k ⟨T0, H0, x3⟩ hs
    rw [hI0] at hs
    obtain ⟨v5, v6, l4, k0_0, k0_1, k0_2, k0_3, k0_4, k0_5, k0_6, k0_7, k0_8, hm1⟩ := hs
    try simp only at k0_0 k0_1 k0_2 k0_3 k0_4 k0_5 k0_6 k0_7 k0_8
    apply cw_cwp
    rw [iter_succ] at hm1; simp only [m_ref24_Findings_b0] at hm1
    have kk0 := And.intro (And.intro (And.intro (And.intro ((k0_0)) ((k0_1))) (And.intro ((k0_2)) ((k0_3)))) (And.intro (And.intro ((k0_4)) ((k0_5))) (And.intro ((k0_6)) ((ne2 k0_6))))) (And.intro (And.intro (And.intro ((ne2' k0_6)) ((lt2 k0_6))) (And.intro ((k0_7)) ((ne2 k0_7)))) (And.intro (And.intro ((ne2' k0_7)) ((lt2 k0_7))) (And.intro ((k0_8)) ((k0_8.symm)))))
    by_cases h10 : v6 ≤ (v1.length : Int)
    · have e11 : (v6 ≤ (v1.length : Int)) = True := eq_true h10
      rw [if_pos h10] at hm1
      rcases h13 : m_ref13_At a0.upper v6 with _ | v12
      · rw [h13] at hm1; simp only [Option.bind_none, reduceCtorEq] at hm1
      rw [h13] at hm1; simp only [Option.bind_some] at hm1
      simp only [kk0, e11, Y_ref24_Findings, EV, ↓EVd, isCall, Nat.reduceAdd, Nat.reduceSub, Nat.reduceMul, Nat.reduceEqDiff, Nat.reduceBEq, Nat.reduceLT, Nat.reduceLeDiff, ↓reduceIte, reduceCtorEq, Nat.reduceShiftRight, Nat.reduceAnd, Nat.reduceBneDiff]
      refine S1_ok (ok_ref13_At _ _ _ h13) rfl (by simp only [CLO]) ?_
      rcases h15 : ix v1 (wr (v6 - 1)) with _ | v14
      · rw [h15] at hm1; simp only [Option.bind_none, reduceCtorEq] at hm1
      rw [h15] at hm1; simp only [Option.bind_some] at hm1
      have e16 := eq_true (ix_nonneg h15)
      have e17 := ix_enc bool h15
      by_cases h18 : v14 = true
      · have e19 : v14 = true := h18
        rw [if_pos h18] at hm1
        rcases h21 : m_ref24_Want a0 v6 with _ | v20
        · rw [h21] at hm1; simp only [Option.bind_none, reduceCtorEq] at hm1
        rw [h21] at hm1; simp only [Option.bind_some] at hm1
        simp only [kk0, e11, e16, e17, e19, Y_ref24_Findings, EV, ↓EVd, isCall, Nat.reduceAdd, Nat.reduceSub, Nat.reduceMul, Nat.reduceEqDiff, Nat.reduceBEq, Nat.reduceLT, Nat.reduceLeDiff, ↓reduceIte, reduceCtorEq, Nat.reduceShiftRight, Nat.reduceAnd, Nat.reduceBneDiff]
        refine ⟨_, OpS1_ok (ok_ref24_Want _ _ _ h21) rfl (by simp only [CLO]), ?_⟩
        by_cases h22 : v12.impure = v20
        · have e23 : (v12.impure = v20) = True := eq_true h22
          rw [if_pos h22] at hm1
          try simp only [Option.bind_some] at hm1
          simp only [kk0, e11, e16, e17, e19, e23, Y_ref24_Findings, EV, ↓EVd, isCall, Nat.reduceAdd, Nat.reduceSub, Nat.reduceMul, Nat.reduceEqDiff, Nat.reduceBEq, Nat.reduceLT, Nat.reduceLeDiff, ↓reduceIte, reduceCtorEq, Nat.reduceShiftRight, Nat.reduceAnd, Nat.reduceBneDiff]
          rw [hI0]
          refine TI.here ⟨v5, (wr (v6 + 1)), l4, ?_, ?_, ?_, ?_, ?_, ?_, ?_, ?_, ?_, hm1⟩
          all_goals first | omega | (simp only [kk0, e11, e16, e17, e19, e23, Y_ref24_Findings, EV, ↓EVd, isCall, Nat.reduceAdd, Nat.reduceSub, Nat.reduceMul, Nat.reduceEqDiff, Nat.reduceBEq, Nat.reduceLT, Nat.reduceLeDiff, ↓reduceIte, reduceCtorEq, Nat.reduceShiftRight, Nat.reduceAnd, Nat.reduceBneDiff]; done) | (simp only [kk0, e11, e16, e17, e19, e23, Y_ref24_Findings, EV, ↓EVd, isCall, Nat.reduceAdd, Nat.reduceSub, Nat.reduceMul, Nat.reduceEqDiff, Nat.reduceBEq, Nat.reduceLT, Nat.reduceLeDiff, ↓reduceIte, reduceCtorEq, Nat.reduceShiftRight, Nat.reduceAnd, Nat.reduceBneDiff]; omega) | (simp only [kk0, e11, e16, e17, e19, e23, Y_ref24_Findings, EV, ↓EVd, isCall, Nat.reduceAdd, Nat.reduceSub, Nat.reduceMul, Nat.reduceEqDiff, Nat.reduceBEq, Nat.reduceLT, Nat.reduceLeDiff, ↓reduceIte, reduceCtorEq, Nat.reduceShiftRight, Nat.reduceAnd, Nat.reduceBneDiff]; congr 1; omega)
        · have e23 : (v12.impure = v20) = False := eq_false h22
          rw [if_neg h22] at hm1
          have e24 : (.agg [int 18, int 0, int v6, int (-1)] : AV) = encFinding (⟨18, 0, v6, (-1)⟩ : Finding) := _root_.id rfl
          rcases h26 : ap 32 v5 ([(⟨18, 0, v6, (-1)⟩ : Finding)] : List Finding) with _ | h26u
          · rw [h26] at hm1; simp only [Option.bind_none, reduceCtorEq] at hm1
          rw [h26] at hm1; simp only [Option.bind_some] at hm1
          have e27 := eq_true (ap_some h26).2.1
          have e28 := eq_true (ap_some h26).2.2
          try simp only [ZL] at e27 e28
          try simp only [Option.bind_some] at hm1
          simp only [kk0, e11, e16, e17, e19, e23, e24, e27, e28, Y_ref24_Findings, EV, ↓EVd, isCall, Nat.reduceAdd, Nat.reduceSub, Nat.reduceMul, Nat.reduceEqDiff, Nat.reduceBEq, Nat.reduceLT, Nat.reduceLeDiff, ↓reduceIte, reduceCtorEq, Nat.reduceShiftRight, Nat.reduceAnd, Nat.reduceBneDiff]
          rw [hI0]
          refine TI.here ⟨(v5 ++ ([(⟨18, 0, v6, (-1)⟩ : Finding)] : List Finding)), (wr (v6 + 1)), (x3 + 42), ?_, ?_, ?_, ?_, ?_, ?_, ?_, ?_, ?_, hm1⟩
          all_goals first | omega | (simp only [kk0, e11, e16, e17, e19, e23, e24, e27, e28, Y_ref24_Findings, EV, ↓EVd, isCall, Nat.reduceAdd, Nat.reduceSub, Nat.reduceMul, Nat.reduceEqDiff, Nat.reduceBEq, Nat.reduceLT, Nat.reduceLeDiff, ↓reduceIte, reduceCtorEq, Nat.reduceShiftRight, Nat.reduceAnd, Nat.reduceBneDiff]; done) | (simp only [kk0, e11, e16, e17, e19, e23, e24, e27, e28, Y_ref24_Findings, EV, ↓EVd, isCall, Nat.reduceAdd, Nat.reduceSub, Nat.reduceMul, Nat.reduceEqDiff, Nat.reduceBEq, Nat.reduceLT, Nat.reduceLeDiff, ↓reduceIte, reduceCtorEq, Nat.reduceShiftRight, Nat.reduceAnd, Nat.reduceBneDiff]; omega) | (simp only [kk0, e11, e16, e17, e19, e23, e24, e27, e28, Y_ref24_Findings, EV, ↓EVd, isCall, Nat.reduceAdd, Nat.reduceSub, Nat.reduceMul, Nat.reduceEqDiff, Nat.reduceBEq, Nat.reduceLT, Nat.reduceLeDiff, ↓reduceIte, reduceCtorEq, Nat.reduceShiftRight, Nat.reduceAnd, Nat.reduceBneDiff]; congr 1; omega)
      · have e19 : v14 = false := Bool.eq_false_iff.2 h18
        rw [if_neg h18] at hm1
        by_cases h29 : v12.kind = 1
        · have e30 : (v12.kind = 1) = True := eq_true h29
          rw [if_pos h29] at hm1
          by_cases h31 : v6 = 2
          · have e32 : (v6 = 2) = True := eq_true h31
            rw [if_pos h31] at hm1
            rcases h34 : m_ref24_Want a0 v6 with _ | v33
            · rw [h34] at hm1; simp only [Option.bind_none, reduceCtorEq] at hm1
            rw [h34] at hm1; simp only [Option.bind_some] at hm1
            simp only [kk0, e11, e16, e17, e19, e30, e32, Y_ref24_Findings, EV, ↓EVd, isCall, Nat.reduceAdd, Nat.reduceSub, Nat.reduceMul, Nat.reduceEqDiff, Nat.reduceBEq, Nat.reduceLT, Nat.reduceLeDiff, ↓reduceIte, reduceCtorEq, Nat.reduceShiftRight, Nat.reduceAnd, Nat.reduceBneDiff]
            refine ⟨_, OpS1_ok (ok_ref24_Want _ _ _ h34) rfl (by simp only [CLO]), ?_⟩
            by_cases h35 : v12.impure = v33
            · have e36 : (v12.impure = v33) = True := eq_true h35
              rw [if_pos h35] at hm1
              try simp only [Option.bind_some] at hm1
              simp only [kk0, e11, e16, e17, e19, e30, e32, e36, Y_ref24_Findings, EV, ↓EVd, isCall, Nat.reduceAdd, Nat.reduceSub, Nat.reduceMul, Nat.reduceEqDiff, Nat.reduceBEq, Nat.reduceLT, Nat.reduceLeDiff, ↓reduceIte, reduceCtorEq, Nat.reduceShiftRight, Nat.reduceAnd, Nat.reduceBneDiff]
              rw [hI0]
              refine TI.here ⟨v5, (wr (v6 + 1)), l4, ?_, ?_, ?_, ?_, ?_, ?_, ?_, ?_, ?_, hm1⟩
              all_goals first | omega | (simp only [kk0, e11, e16, e17, e19, e30, e32, e36, Y_ref24_Findings, EV, ↓EVd, isCall, Nat.reduceAdd, Nat.reduceSub, Nat.reduceMul, Nat.reduceEqDiff, Nat.reduceBEq, Nat.reduceLT, Nat.reduceLeDiff, ↓reduceIte, reduceCtorEq, Nat.reduceShiftRight, Nat.reduceAnd, Nat.reduceBneDiff]; done) | (simp only [kk0, e11, e16, e17, e19, e30, e32, e36, Y_ref24_Findings, EV, ↓EVd, isCall, Nat.reduceAdd, Nat.reduceSub, Nat.reduceMul, Nat.reduceEqDiff, Nat.reduceBEq, Nat.reduceLT, Nat.reduceLeDiff, ↓reduceIte, reduceCtorEq, Nat.reduceShiftRight, Nat.reduceAnd, Nat.reduceBneDiff]; omega) | (simp only [kk0, e11, e16, e17, e19, e30, e32, e36, Y_ref24_Findings, EV, ↓EVd, isCall, Nat.reduceAdd, Nat.reduceSub, Nat.reduceMul, Nat.reduceEqDiff, Nat.reduceBEq, Nat.reduceLT, Nat.reduceLeDiff, ↓reduceIte, reduceCtorEq, Nat.reduceShiftRight, Nat.reduceAnd, Nat.reduceBneDiff]; congr 1; omega)
            · have e36 : (v12.impure = v33) = False := eq_false h35
              rw [if_neg h35] at hm1
              have e37 : (.agg [int 18, int 0, int v6, int (-1)] : AV) = encFinding (⟨18, 0, v6, (-1)⟩ : Finding) := _root_.id rfl
              rcases h39 : ap 32 v5 ([(⟨18, 0, v6, (-1)⟩ : Finding)] : List Finding) with _ | h39u
              · rw [h39] at hm1; simp only [Option.bind_none, reduceCtorEq] at hm1
              rw [h39] at hm1; simp only [Option.bind_some] at hm1
              have e40 := eq_true (ap_some h39).2.1
              have e41 := eq_true (ap_some h39).2.2
              try simp only [ZL] at e40 e41
              try simp only [Option.bind_some] at hm1
              simp only [kk0, e11, e16, e17, e19, e30, e32, e36, e37, e40, e41, Y_ref24_Findings, EV, ↓EVd, isCall, Nat.reduceAdd, Nat.reduceSub, Nat.reduceMul, Nat.reduceEqDiff, Nat.reduceBEq, Nat.reduceLT, Nat.reduceLeDiff, ↓reduceIte, reduceCtorEq, Nat.reduceShiftRight, Nat.reduceAnd, Nat.reduceBneDiff]
              rw [hI0]
              refine TI.here ⟨(v5 ++ ([(⟨18, 0, v6, (-1)⟩ : Finding)] : List Finding)), (wr (v6 + 1)), (x3 + 42), ?_, ?_, ?_, ?_, ?_, ?_, ?_, ?_, ?_, hm1⟩
              all_goals first | omega | (simp only [kk0, e11, e16, e17, e19, e30, e32, e36, e37, e40, e41, Y_ref24_Findings, EV, ↓EVd, isCall, Nat.reduceAdd, Nat.reduceSub, Nat.reduceMul, Nat.reduceEqDiff, Nat.reduceBEq, Nat.reduceLT, Nat.reduceLeDiff, ↓reduceIte, reduceCtorEq, Nat.reduceShiftRight, Nat.reduceAnd, Nat.reduceBneDiff]; done) | (simp only [kk0, e11, e16, e17, e19, e30, e32, e36, e37, e40, e41, Y_ref24_Findings, EV, ↓EVd, isCall, Nat.reduceAdd, Nat.reduceSub, Nat.reduceMul, Nat.reduceEqDiff, Nat.reduceBEq, Nat.reduceLT, Nat.reduceLeDiff, ↓reduceIte, reduceCtorEq, Nat.reduceShiftRight, Nat.reduceAnd, Nat.reduceBneDiff]; omega) | (simp only [kk0, e11, e16, e17, e19, e30, e32, e36, e37, e40, e41, Y_ref24_Findings, EV, ↓EVd, isCall, Nat.reduceAdd, Nat.reduceSub, Nat.reduceMul, Nat.reduceEqDiff, Nat.reduceBEq, Nat.reduceLT, Nat.reduceLeDiff, ↓reduceIte, reduceCtorEq, Nat.reduceShiftRight, Nat.reduceAnd, Nat.reduceBneDiff]; congr 1; omega)
          · have e32 : (v6 = 2) = False := eq_false h31
            rw [if_neg h31] at hm1
            by_cases h42 : v6 = 3
            · have e43 : (v6 = 3) = True := eq_true h42
              rw [if_pos h42] at hm1
              rcases h45 : m_ref24_Want a0 v6 with _ | v44
              · rw [h45] at hm1; simp only [Option.bind_none, reduceCtorEq] at hm1
              rw [h45] at hm1; simp only [Option.bind_some] at hm1
              simp only [kk0, e11, e16, e17, e19, e30, e32, e43, Y_ref24_Findings, EV, ↓EVd, isCall, Nat.reduceAdd, Nat.reduceSub, Nat.reduceMul, Nat.reduceEqDiff, Nat.reduceBEq, Nat.reduceLT, Nat.reduceLeDiff, ↓reduceIte, reduceCtorEq, Nat.reduceShiftRight, Nat.reduceAnd, Nat.reduceBneDiff]
              refine ⟨_, OpS1_ok (ok_ref24_Want _ _ _ h45) rfl (by simp only [CLO]), ?_⟩
              by_cases h46 : v12.impure = v44
              · have e47 : (v12.impure = v44) = True := eq_true h46
                rw [if_pos h46] at hm1
                try simp only [Option.bind_some] at hm1
                simp only [kk0, e11, e16, e17, e19, e30, e32, e43, e47, Y_ref24_Findings, EV, ↓EVd, isCall, Nat.reduceAdd, Nat.reduceSub, Nat.reduceMul, Nat.reduceEqDiff, Nat.reduceBEq, Nat.reduceLT, Nat.reduceLeDiff, ↓reduceIte, reduceCtorEq, Nat.reduceShiftRight, Nat.reduceAnd, Nat.reduceBneDiff]
                rw [hI0]
                refine TI.here ⟨v5, (wr (v6 + 1)), l4, ?_, ?_, ?_, ?_, ?_, ?_, ?_, ?_, ?_, hm1⟩
                all_goals first | omega | (simp only [kk0, e11, e16, e17, e19, e30, e32, e43, e47, Y_ref24_Findings, EV, ↓EVd, isCall, Nat.reduceAdd, Nat.reduceSub, Nat.reduceMul, Nat.reduceEqDiff, Nat.reduceBEq, Nat.reduceLT, Nat.reduceLeDiff, ↓reduceIte, reduceCtorEq, Nat.reduceShiftRight, Nat.reduceAnd, Nat.reduceBneDiff]; done) | (simp only [kk0, e11, e16, e17, e19, e30, e32, e43, e47, Y_ref24_Findings, EV, ↓EVd, isCall, Nat.reduceAdd, Nat.reduceSub, Nat.reduceMul, Nat.reduceEqDiff, Nat.reduceBEq, Nat.reduceLT, Nat.reduceLeDiff, ↓reduceIte, reduceCtorEq, Nat.reduceShiftRight, Nat.reduceAnd, Nat.reduceBneDiff]; omega) | (simp only [kk0, e11, e16, e17, e19, e30, e32, e43, e47, Y_ref24_Findings, EV, ↓EVd, isCall, Nat.reduceAdd, Nat.reduceSub, Nat.reduceMul, Nat.reduceEqDiff, Nat.reduceBEq, Nat.reduceLT, Nat.reduceLeDiff, ↓reduceIte, reduceCtorEq, Nat.reduceShiftRight, Nat.reduceAnd, Nat.reduceBneDiff]; congr 1; omega)
              · have e47 : (v12.impure = v44) = False := eq_false h46
                rw [if_neg h46] at hm1
                have e48 : (.agg [int 18, int 0, int v6, int (-1)] : AV) = encFinding (⟨18, 0, v6, (-1)⟩ : Finding) := _root_.id rfl
                rcases h50 : ap 32 v5 ([(⟨18, 0, v6, (-1)⟩ : Finding)] : List Finding) with _ | h50u
                · rw [h50] at hm1; simp only [Option.bind_none, reduceCtorEq] at hm1
                rw [h50] at hm1; simp only [Option.bind_some] at hm1
                have e51 := eq_true (ap_some h50).2.1
                have e52 := eq_true (ap_some h50).2.2
                try simp only [ZL] at e51 e52
                try simp only [Option.bind_some] at hm1
                simp only [kk0, e11, e16, e17, e19, e30, e32, e43, e47, e48, e51, e52, Y_ref24_Findings, EV, ↓EVd, isCall, Nat.reduceAdd, Nat.reduceSub, Nat.reduceMul, Nat.reduceEqDiff, Nat.reduceBEq, Nat.reduceLT, Nat.reduceLeDiff, ↓reduceIte, reduceCtorEq, Nat.reduceShiftRight, Nat.reduceAnd, Nat.reduceBneDiff]
                rw [hI0]
                refine TI.here ⟨(v5 ++ ([(⟨18, 0, v6, (-1)⟩ : Finding)] : List Finding)), (wr (v6 + 1)), (x3 + 42), ?_, ?_, ?_, ?_, ?_, ?_, ?_, ?_, ?_, hm1⟩
                all_goals first | omega | (simp only [kk0, e11, e16, e17, e19, e30, e32, e43, e47, e48, e51, e52, Y_ref24_Findings, EV, ↓EVd, isCall, Nat.reduceAdd, Nat.reduceSub, Nat.reduceMul, Nat.reduceEqDiff, Nat.reduceBEq, Nat.reduceLT, Nat.reduceLeDiff, ↓reduceIte, reduceCtorEq, Nat.reduceShiftRight, Nat.reduceAnd, Nat.reduceBneDiff]; done) | (simp only [kk0, e11, e16, e17, e19, e30, e32, e43, e47, e48, e51, e52, Y_ref24_Findings, EV, ↓EVd, isCall, Nat.reduceAdd, Nat.reduceSub, Nat.reduceMul, Nat.reduceEqDiff, Nat.reduceBEq, Nat.reduceLT, Nat.reduceLeDiff, ↓reduceIte, reduceCtorEq, Nat.reduceShiftRight, Nat.reduceAnd, Nat.reduceBneDiff]; omega) | (simp only [kk0, e11, e16, e17, e19, e30, e32, e43, e47, e48, e51, e52, Y_ref24_Findings, EV, ↓EVd, isCall, Nat.reduceAdd, Nat.reduceSub, Nat.reduceMul, Nat.reduceEqDiff, Nat.reduceBEq, Nat.reduceLT, Nat.reduceLeDiff, ↓reduceIte, reduceCtorEq, Nat.reduceShiftRight, Nat.reduceAnd, Nat.reduceBneDiff]; congr 1; omega)
            · have e43 : (v6 = 3) = False := eq_false h42
              rw [if_neg h42] at hm1
              try simp only [Option.bind_some] at hm1
              simp only [kk0, e11, e16, e17, e19, e30, e32, e43, Y_ref24_Findings, EV, ↓EVd, isCall, Nat.reduceAdd, Nat.reduceSub, Nat.reduceMul, Nat.reduceEqDiff, Nat.reduceBEq, Nat.reduceLT, Nat.reduceLeDiff, ↓reduceIte, reduceCtorEq, Nat.reduceShiftRight, Nat.reduceAnd, Nat.reduceBneDiff]
              rw [hI0]
              refine TI.here ⟨v5, (wr (v6 + 1)), l4, ?_, ?_, ?_, ?_, ?_, ?_, ?_, ?_, ?_, hm1⟩
              all_goals first | omega | (simp only [kk0, e11, e16, e17, e19, e30, e32, e43, Y_ref24_Findings, EV, ↓EVd, isCall, Nat.reduceAdd, Nat.reduceSub, Nat.reduceMul, Nat.reduceEqDiff, Nat.reduceBEq, Nat.reduceLT, Nat.reduceLeDiff, ↓reduceIte, reduceCtorEq, Nat.reduceShiftRight, Nat.reduceAnd, Nat.reduceBneDiff]; done) | (simp only [kk0, e11, e16, e17, e19, e30, e32, e43, Y_ref24_Findings, EV, ↓EVd, isCall, Nat.reduceAdd, Nat.reduceSub, Nat.reduceMul, Nat.reduceEqDiff, Nat.reduceBEq, Nat.reduceLT, Nat.reduceLeDiff, ↓reduceIte, reduceCtorEq, Nat.reduceShiftRight, Nat.reduceAnd, Nat.reduceBneDiff]; omega) | (simp only [kk0, e11, e16, e17, e19, e30, e32, e43, Y_ref24_Findings, EV, ↓EVd, isCall, Nat.reduceAdd, Nat.reduceSub, Nat.reduceMul, Nat.reduceEqDiff, Nat.reduceBEq, Nat.reduceLT, Nat.reduceLeDiff, ↓reduceIte, reduceCtorEq, Nat.reduceShiftRight, Nat.reduceAnd, Nat.reduceBneDiff]; congr 1; omega)
        · have e30 : (v12.kind = 1) = False := eq_false h29
          rw [if_neg h29] at hm1
          try simp only [Option.bind_some] at hm1
          simp only [kk0, e11, e16, e17, e19, e30, Y_ref24_Findings, EV, ↓EVd, isCall, Nat.reduceAdd, Nat.reduceSub, Nat.reduceMul, Nat.reduceEqDiff, Nat.reduceBEq, Nat.reduceLT, Nat.reduceLeDiff, ↓reduceIte, reduceCtorEq, Nat.reduceShiftRight, Nat.reduceAnd, Nat.reduceBneDiff]
          rw [hI0]
          refine TI.here ⟨v5, (wr (v6 + 1)), l4, ?_, ?_, ?_, ?_, ?_, ?_, ?_, ?_, ?_, hm1⟩
          all_goals first | omega | (simp only [kk0, e11, e16, e17, e19, e30, Y_ref24_Findings, EV, ↓EVd, isCall, Nat.reduceAdd, Nat.reduceSub, Nat.reduceMul, Nat.reduceEqDiff, Nat.reduceBEq, Nat.reduceLT, Nat.reduceLeDiff, ↓reduceIte, reduceCtorEq, Nat.reduceShiftRight, Nat.reduceAnd, Nat.reduceBneDiff]; done) | (simp only [kk0, e11, e16, e17, e19, e30, Y_ref24_Findings, EV, ↓EVd, isCall, Nat.reduceAdd, Nat.reduceSub, Nat.reduceMul, Nat.reduceEqDiff, Nat.reduceBEq, Nat.reduceLT, Nat.reduceLeDiff, ↓reduceIte, reduceCtorEq, Nat.reduceShiftRight, Nat.reduceAnd, Nat.reduceBneDiff]; omega) | (simp only [kk0, e11, e16, e17, e19, e30, Y_ref24_Findings, EV, ↓EVd, isCall, Nat.reduceAdd, Nat.reduceSub, Nat.reduceMul, Nat.reduceEqDiff, Nat.reduceBEq, Nat.reduceLT, Nat.reduceLeDiff, ↓reduceIte, reduceCtorEq, Nat.reduceShiftRight, Nat.reduceAnd, Nat.reduceBneDiff]; congr 1; omega)
    · have e11 : (v6 ≤ (v1.length : Int)) = False := eq_false h10
      rw [if_neg h10] at hm1
      try simp only [Option.bind_some, Option.some.injEq] at hm1
      simp only [kk0, e11, Y_ref24_Findings, EV, ↓EVd, isCall, Nat.reduceAdd, Nat.reduceSub, Nat.reduceMul, Nat.reduceEqDiff, Nat.reduceBEq, Nat.reduceLT, Nat.reduceLeDiff, ↓reduceIte, reduceCtorEq, Nat.reduceShiftRight, Nat.reduceAnd, Nat.reduceBneDiff]
      rw [hJ0_0]
      refine TI.here ⟨v5, l4, ?_, ?_, ?_, hm1⟩
      all_goals first | omega | (simp only [kk0, e11, Y_ref24_Findings, EV, ↓EVd, isCall, Nat.reduceAdd, Nat.reduceSub, Nat.reduceMul, Nat.reduceEqDiff, Nat.reduceBEq, Nat.reduceLT, Nat.reduceLeDiff, ↓reduceIte, reduceCtorEq, Nat.reduceShiftRight, Nat.reduceAnd, Nat.reduceBneDiff]; done) | (simp only [kk0, e11, Y_ref24_Findings, EV, ↓EVd, isCall, Nat.reduceAdd, Nat.reduceSub, Nat.reduceMul, Nat.reduceEqDiff, Nat.reduceBEq, Nat.reduceLT, Nat.reduceLeDiff, ↓reduceIte, reduceCtorEq, Nat.reduceShiftRight, Nat.reduceAnd, Nat.reduceBneDiff]; omega) | (simp only [kk0, e11, Y_ref24_Findings, EV, ↓EVd, isCall, Nat.reduceAdd, Nat.reduceSub, Nat.reduceMul, Nat.reduceEqDiff, Nat.reduceBEq, Nat.reduceLT, Nat.reduceLeDiff, ↓reduceIte, reduceCtorEq, Nat.reduceShiftRight, Nat.reduceAnd, Nat.reduceBneDiff]; congr 1; omega)
def m_impure_copied (a0 : Branch) (a1 : Int) : Option (Bool) := if 1 ≤ a1 then if a1 ≤ (a0.nodes.length : Int) then (ix a0.nodes (wr (a1 - 1))).bind fun v5 => if 0 ≤ v5.attr.has then if (bAnd .i64 v5.attr.has 4) = 0 then some false
 else some true
 else some false
 else some false
 else some false
def Y_impure_copied := And.intro (And.intro (And.intro ((@R3)) ((@R24))) (And.intro ((@R26)) (And.intro ((@R44)) ((@R46))))) (And.intro (And.intro ((@DBranch)) ((@DOrigin))) (And.intro ((@DAttr)) (And.intro ((@DNode)) ((@DEntry)))))
set_option maxHeartbeats 2000000 in
theorem ok_impure_copied (a0 : Branch) (a1 : Int) (r : Bool) (hm0 : m_impure_copied a0 a1 = some r) : Ok Try.prog 88 [encBranch a0, int a1] (bool r) := by
  unfold m_impure_copied at hm0
  refine okF fc_impure_copied (by simp) ?_
  unfold c_impure_copied
  by_cases h1 : 1 ≤ a1
  · have e2 : (1 ≤ a1) = True := eq_true h1
    rw [if_pos h1] at hm0
    by_cases h3 : a1 ≤ (a0.nodes.length : Int)
    · have e4 : (a1 ≤ (a0.nodes.length : Int)) = True := eq_true h3
      rw [if_pos h3] at hm0
      rcases h6 : ix a0.nodes (wr (a1 - 1)) with _ | v5
      · rw [h6] at hm0; simp only [Option.bind_none, reduceCtorEq] at hm0
      rw [h6] at hm0; simp only [Option.bind_some] at hm0
      have e7 := eq_true (ix_nonneg h6)
      have e8 := ix_enc encNode h6
      by_cases h9 : 0 ≤ v5.attr.has
      · have e10 : (0 ≤ v5.attr.has) = True := eq_true h9
        rw [if_pos h9] at hm0
        by_cases h11 : (bAnd .i64 v5.attr.has 4) = 0
        · have e12 : ((bAnd .i64 v5.attr.has 4) = 0) = True := eq_true h11
          rw [if_pos h11] at hm0
          simp only [Option.some.injEq] at hm0
          subst hm0
          simp only [e2, e4, e7, e8, e10, e12, Y_impure_copied, EV, ↓EVd, isCall, Nat.reduceAdd, Nat.reduceSub, Nat.reduceMul, Nat.reduceEqDiff, Nat.reduceBEq, Nat.reduceLT, Nat.reduceLeDiff, ↓reduceIte, reduceCtorEq, Nat.reduceShiftRight, Nat.reduceAnd, Nat.reduceBneDiff]
          all_goals first | done | rfl
        · have e12 : ((bAnd .i64 v5.attr.has 4) = 0) = False := eq_false h11
          rw [if_neg h11] at hm0
          simp only [Option.some.injEq] at hm0
          subst hm0
          simp only [e2, e4, e7, e8, e10, e12, Y_impure_copied, EV, ↓EVd, isCall, Nat.reduceAdd, Nat.reduceSub, Nat.reduceMul, Nat.reduceEqDiff, Nat.reduceBEq, Nat.reduceLT, Nat.reduceLeDiff, ↓reduceIte, reduceCtorEq, Nat.reduceShiftRight, Nat.reduceAnd, Nat.reduceBneDiff]
          all_goals first | done | rfl
      · have e10 : (0 ≤ v5.attr.has) = False := eq_false h9
        rw [if_neg h9] at hm0
        simp only [Option.some.injEq] at hm0
        subst hm0
        simp only [e2, e4, e7, e8, e10, Y_impure_copied, EV, ↓EVd, isCall, Nat.reduceAdd, Nat.reduceSub, Nat.reduceMul, Nat.reduceEqDiff, Nat.reduceBEq, Nat.reduceLT, Nat.reduceLeDiff, ↓reduceIte, reduceCtorEq, Nat.reduceShiftRight, Nat.reduceAnd, Nat.reduceBneDiff]
        all_goals first | done | rfl
    · have e4 : (a1 ≤ (a0.nodes.length : Int)) = False := eq_false h3
      rw [if_neg h3] at hm0
      simp only [Option.some.injEq] at hm0
      subst hm0
      simp only [e2, e4, Y_impure_copied, EV, ↓EVd, isCall, Nat.reduceAdd, Nat.reduceSub, Nat.reduceMul, Nat.reduceEqDiff, Nat.reduceBEq, Nat.reduceLT, Nat.reduceLeDiff, ↓reduceIte, reduceCtorEq, Nat.reduceShiftRight, Nat.reduceAnd, Nat.reduceBneDiff]
      all_goals first | done | rfl
  · have e2 : (1 ≤ a1) = False := eq_false h1
    rw [if_neg h1] at hm0
    simp only [Option.some.injEq] at hm0
    subst hm0
    simp only [e2, Y_impure_copied, EV, ↓EVd, isCall, Nat.reduceAdd, Nat.reduceSub, Nat.reduceMul, Nat.reduceEqDiff, Nat.reduceBEq, Nat.reduceLT, Nat.reduceLeDiff, ↓reduceIte, reduceCtorEq, Nat.reduceShiftRight, Nat.reduceAnd, Nat.reduceBneDiff]
    all_goals first | done | rfl
def m_impure_want_1 (a0 : Entry) (a1 : Branch) : Option (Bool) := (m_impure_copied a1 a0.ino).bind fun v1 => some v1
def Y_impure_want_1 := And.intro (And.intro (And.intro ((@R3)) ((@R26))) (And.intro ((@R54)) ((@DBranch)))) (And.intro (And.intro ((@DOrigin)) ((@DAttr))) (And.intro ((@DNode)) ((@DEntry))))
set_option maxHeartbeats 2000000 in
theorem ok_impure_want_1 (a0 : Entry) (a1 : Branch) (r : Bool) (hm0 : m_impure_want_1 a0 a1 = some r) : Ok Try.prog 87 [encEntry a0, .ptr (encBranch a1) 0] (bool r) := by
  unfold m_impure_want_1 at hm0
  refine okF fc_impure_want_1 (by simp) ?_
  unfold c_impure_want_1
  rcases h2 : m_impure_copied a1 a0.ino with _ | v1
  · rw [h2] at hm0; simp only [Option.bind_none, reduceCtorEq] at hm0
  rw [h2] at hm0; simp only [Option.bind_some] at hm0
  simp only [Y_impure_want_1, EV, ↓EVd, isCall, Nat.reduceAdd, Nat.reduceSub, Nat.reduceMul, Nat.reduceEqDiff, Nat.reduceBEq, Nat.reduceLT, Nat.reduceLeDiff, ↓reduceIte, reduceCtorEq, Nat.reduceShiftRight, Nat.reduceAnd, Nat.reduceBneDiff]
  refine S1_ok (ok_impure_copied _ _ _ h2) rfl (by simp only [CLO]) ?_
  simp only [Option.some.injEq] at hm0
  subst hm0
  simp only [Y_impure_want_1, EV, ↓EVd, isCall, Nat.reduceAdd, Nat.reduceSub, Nat.reduceMul, Nat.reduceEqDiff, Nat.reduceBEq, Nat.reduceLT, Nat.reduceLeDiff, ↓reduceIte, reduceCtorEq, Nat.reduceShiftRight, Nat.reduceAnd, Nat.reduceBneDiff]
  all_goals first | done | rfl
def m_impure_want (a0 : Branch) (a1 : Node) : Option (Int) := if a1.kind = 1 then (containsM (fun z => m_impure_want_1 z a0) a1.entries).bind fun v3 => if v3 = true then some 121
 else some 0
 else some 0
def Y_impure_want := And.intro (And.intro (And.intro ((@R3)) ((@R26))) (And.intro ((@R40)) (And.intro ((@R46)) ((@R54))))) (And.intro (And.intro ((@R100)) (And.intro ((@DBranch)) ((@DOrigin)))) (And.intro ((@DAttr)) (And.intro ((@DNode)) ((@DEntry)))))
set_option maxHeartbeats 2000000 in
theorem ok_impure_want (a0 : Branch) (a1 : Node) (r : Int) (hm0 : m_impure_want a0 a1 = some r) : Ok Try.prog 56 [encBranch a0, encNode a1] (int r) := by
  unfold m_impure_want at hm0
  refine okF fc_impure_want (by simp) ?_
  unfold c_impure_want
  by_cases h1 : a1.kind = 1
  · have e2 : (a1.kind = 1) = True := eq_true h1
    rw [if_pos h1] at hm0
    rcases h4 : containsM (fun z => m_impure_want_1 z a0) a1.entries with _ | v3
    · rw [h4] at hm0; simp only [Option.bind_none, reduceCtorEq] at hm0
    rw [h4] at hm0; simp only [Option.bind_some] at hm0
    simp only [e2, Y_impure_want, EV, ↓EVd, isCall, Nat.reduceAdd, Nat.reduceSub, Nat.reduceMul, Nat.reduceEqDiff, Nat.reduceBEq, Nat.reduceLT, Nat.reduceLeDiff, ↓reduceIte, reduceCtorEq, Nat.reduceShiftRight, Nat.reduceAnd, Nat.reduceBneDiff]
    refine S1_okb 9 (containsM_ok fc_slices_ContainsFunc_api_Entry_api_Entry fc_slices_IndexFunc_api_Entry_api_Entry elemOfT_40 aggN_54 (fi := []) (ca := [.ptr (encBranch a0) 0]) encEntry a1.entries (fun z => m_impure_want_1 z a0) _ h4 (fun z b hz => ok_impure_want_1 z a0 b hz) (fun z => by simp only [CLO]) rfl (by simp only [CLO]) (fun z => by simp only [Y_impure_want, EV, ↓EVd, isCall, Nat.reduceAdd, Nat.reduceSub, Nat.reduceMul, Nat.reduceEqDiff, Nat.reduceBEq, Nat.reduceLT, Nat.reduceLeDiff, ↓reduceIte, reduceCtorEq, Nat.reduceShiftRight, Nat.reduceAnd, Nat.reduceBneDiff])) rfl (frzs_cons (frz_closed (x := .sl 3 (a1.entries.map encEntry)) (by simp only [CLO]) _ _) (frzs_cons (frz_fn (frzs_nil) (frzs_cons (frz_loc (T := 26) (xs := [encBranch a0]) (by first | rfl | simp only [e2, Y_impure_want, EV, ↓EVd, isCall, Nat.reduceAdd, Nat.reduceSub, Nat.reduceMul, Nat.reduceEqDiff, Nat.reduceBEq, Nat.reduceLT, Nat.reduceLeDiff, ↓reduceIte, reduceCtorEq, Nat.reduceShiftRight, Nat.reduceAnd, Nat.reduceBneDiff]) rfl (frz_closed (x := encBranch a0) (by simp only [CLO]) _ _)) (frzs_nil))) (frzs_nil))) rfl ?_
    by_cases h5 : v3 = true
    · have e6 : v3 = true := h5
      rw [if_pos h5] at hm0
      simp only [Option.some.injEq] at hm0
      subst hm0
      simp only [e2, e6, Y_impure_want, EV, ↓EVd, isCall, Nat.reduceAdd, Nat.reduceSub, Nat.reduceMul, Nat.reduceEqDiff, Nat.reduceBEq, Nat.reduceLT, Nat.reduceLeDiff, ↓reduceIte, reduceCtorEq, Nat.reduceShiftRight, Nat.reduceAnd, Nat.reduceBneDiff]
      all_goals first | done | rfl
    · have e6 : v3 = false := Bool.eq_false_iff.2 h5
      rw [if_neg h5] at hm0
      simp only [Option.some.injEq] at hm0
      subst hm0
      simp only [e2, e6, Y_impure_want, EV, ↓EVd, isCall, Nat.reduceAdd, Nat.reduceSub, Nat.reduceMul, Nat.reduceEqDiff, Nat.reduceBEq, Nat.reduceLT, Nat.reduceLeDiff, ↓reduceIte, reduceCtorEq, Nat.reduceShiftRight, Nat.reduceAnd, Nat.reduceBneDiff]
      all_goals first | done | rfl
  · have e2 : (a1.kind = 1) = False := eq_false h1
    rw [if_neg h1] at hm0
    simp only [Option.some.injEq] at hm0
    subst hm0
    simp only [e2, Y_impure_want, EV, ↓EVd, isCall, Nat.reduceAdd, Nat.reduceSub, Nat.reduceMul, Nat.reduceEqDiff, Nat.reduceBEq, Nat.reduceLT, Nat.reduceLeDiff, ↓reduceIte, reduceCtorEq, Nat.reduceShiftRight, Nat.reduceAnd, Nat.reduceBneDiff]
    all_goals first | done | rfl
def m_slices_Equal_api_Finding_api_Finding_b0 (a0 : List Finding) (a1 : List Finding) : Int → Option (St (Int) ((Unit) ⊕ (Bool)))
 | v4 => if v4 < (a0.length : Int) then (ix a0 v4).bind fun v8 => (ix a1 v4).bind fun v12 => if (decide (v8 = v12)) = true then some (.nx (wr (v4 + 1)))
 else some (.out (.inr false))
 else some (.out (.inl ()))
def m_slices_Equal_api_Finding_api_Finding (a0 : List Finding) (a1 : List Finding) : Option (Bool) := if (a0.length : Int) = (a1.length : Int) then (iter (m_slices_Equal_api_Finding_api_Finding_b0 a0 a1) big 0).bind fun o => (match o with
 | (.inl _) => some true
 | (.inr r) => some r)
 else some false
def Y_slices_Equal_api_Finding_api_Finding := And.intro (And.intro ((@R3)) (And.intro ((@R33)) ((@R35)))) (And.intro ((@DFinding)) (And.intro ((@eq35)) ((@mixed))))
set_option maxHeartbeats 2000000 in
theorem ok_slices_Equal_api_Finding_api_Finding (a0 : List Finding) (a1 : List Finding) (r : Bool) (hm0 : m_slices_Equal_api_Finding_api_Finding a0 a1 = some r) : Ok Try.prog 14 [.sl 4 (a0.map encFinding), .sl 4 (a1.map encFinding)] (bool r) := by
  unfold m_slices_Equal_api_Finding_api_Finding at hm0
  refine okF fc_slices_Equal_api_Finding_api_Finding (by simp) ?_
  unfold c_slices_Equal_api_Finding_api_Finding
  by_cases h1 : (a0.length : Int) = (a1.length : Int)
  · have e2 : ((a0.length : Int) = (a1.length : Int)) = True := eq_true h1
    rw [if_pos h1] at hm0
    rcases ho0 : iter (m_slices_Equal_api_Finding_api_Finding_b0 a0 a1) big 0 with _ | o0
    · rw [ho0] at hm0; simp only [Option.bind_none, reduceCtorEq] at hm0
    rw [ho0] at hm0; simp only [Option.bind_some] at hm0
    simp only [e2, Y_slices_Equal_api_Finding_api_Finding, EV, ↓EVd, isCall, Nat.reduceAdd, Nat.reduceSub, Nat.reduceMul, Nat.reduceEqDiff, Nat.reduceBEq, Nat.reduceLT, Nat.reduceLeDiff, ↓reduceIte, reduceCtorEq, Nat.reduceShiftRight, Nat.reduceAnd, Nat.reduceBneDiff]
    obtain ⟨J0_0, hJ0_0⟩ : ∃ J : AS → Prop, J = fun s => (.inl ()) = o0 := ⟨_, rfl⟩
    refine cwp_cut 0 J0_0 ?_ ?_
    rotate_left
    · clear ho0
      rintro ⟨T0, H0, x5⟩ hs
      rw [hJ0_0] at hs
      have hq := hs
      subst hq
      try dsimp only at hm0
      simp only [Option.some.injEq] at hm0
      subst hm0
      simp only [e2, Y_slices_Equal_api_Finding_api_Finding, EV, ↓EVd, isCall, Nat.reduceAdd, Nat.reduceSub, Nat.reduceMul, Nat.reduceEqDiff, Nat.reduceBEq, Nat.reduceLT, Nat.reduceLeDiff, ↓reduceIte, reduceCtorEq, Nat.reduceShiftRight, Nat.reduceAnd, Nat.reduceBneDiff]
      all_goals first | done | rfl
    obtain ⟨I0, hI0⟩ : ∃ I : Nat → AS → Prop, I = fun k s => ∃ v4 : Int, s.T 0 = .sl 4 (a0.map encFinding) ∧ s.T 1 = .sl 4 (a1.map encFinding) ∧ s.T 12 = int (a0.length : Int) ∧ s.T 13 = int v4 ∧ iter (m_slices_Equal_api_Finding_api_Finding_b0 a0 a1) k v4 = some o0 := ⟨_, rfl⟩
    refine cwp_iter I0 big ?_ ?_ ?_
    · rw [hI0]
      refine TI.here ⟨0, ?_, ?_, ?_, ?_, ho0⟩
      all_goals first | omega | (simp only [e2, Y_slices_Equal_api_Finding_api_Finding, EV, ↓EVd, isCall, Nat.reduceAdd, Nat.reduceSub, Nat.reduceMul, Nat.reduceEqDiff, Nat.reduceBEq, Nat.reduceLT, Nat.reduceLeDiff, ↓reduceIte, reduceCtorEq, Nat.reduceShiftRight, Nat.reduceAnd, Nat.reduceBneDiff]; done) | (simp only [e2, Y_slices_Equal_api_Finding_api_Finding, EV, ↓EVd, isCall, Nat.reduceAdd, Nat.reduceSub, Nat.reduceMul, Nat.reduceEqDiff, Nat.reduceBEq, Nat.reduceLT, Nat.reduceLeDiff, ↓reduceIte, reduceCtorEq, Nat.reduceShiftRight, Nat.reduceAnd, Nat.reduceBneDiff]; omega) | (simp only [e2, Y_slices_Equal_api_Finding_api_Finding, EV, ↓EVd, isCall, Nat.reduceAdd, Nat.reduceSub, Nat.reduceMul, Nat.reduceEqDiff, Nat.reduceBEq, Nat.reduceLT, Nat.reduceLeDiff, ↓reduceIte, reduceCtorEq, Nat.reduceShiftRight, Nat.reduceAnd, Nat.reduceBneDiff]; congr 1; omega)
    · rintro s hs
      rw [hI0] at hs
      obtain ⟨_, _, _, _, _, hz⟩ := hs
      simp only [iter_zero, reduceCtorEq] at hz
    · clear ho0
      rintro k ⟨T0, H0, x3⟩ hs
      rw [hI0] at hs
      obtain ⟨v4, k0_0, k0_1, k0_2, k0_3, hm1⟩ := hs
      try simp only at k0_0 k0_1 k0_2 k0_3
      apply cw_cwp
      rw [iter_succ] at hm1; simp only [m_slices_Equal_api_Finding_api_Finding_b0] at hm1
      have kk0 := And.intro (And.intro ((k0_0)) ((k0_1))) (And.intro ((k0_2)) ((k0_3)))
      by_cases h6 : v4 < (a0.length : Int)
      · have e7 : (v4 < (a0.length : Int)) = True := eq_true h6
        rw [if_pos h6] at hm1
        rcases h9 : ix a0 v4 with _ | v8
        · rw [h9] at hm1; simp only [Option.bind_none, reduceCtorEq] at hm1
        rw [h9] at hm1; simp only [Option.bind_some] at hm1
        have e10 := eq_true (ix_nonneg h9)
        have e11 := ix_enc encFinding h9
        rcases h13 : ix a1 v4 with _ | v12
        · rw [h13] at hm1; simp only [Option.bind_none, reduceCtorEq] at hm1
        rw [h13] at hm1; simp only [Option.bind_some] at hm1
        have e14 := eq_true (ix_nonneg h13)
        have e15 := ix_enc encFinding h13
        by_cases h16 : (decide (v8 = v12)) = true
        · have e17 : (decide (v8 = v12)) = true := h16
          rw [if_pos h16] at hm1
          try simp only [Option.bind_some] at hm1
          simp only [kk0, e2, e7, e10, e11, e14, e15, e17, Y_slices_Equal_api_Finding_api_Finding, EV, ↓EVd, isCall, Nat.reduceAdd, Nat.reduceSub, Nat.reduceMul, Nat.reduceEqDiff, Nat.reduceBEq, Nat.reduceLT, Nat.reduceLeDiff, ↓reduceIte, reduceCtorEq, Nat.reduceShiftRight, Nat.reduceAnd, Nat.reduceBneDiff]
          rw [hI0]
          refine TI.here ⟨(wr (v4 + 1)), ?_, ?_, ?_, ?_, hm1⟩
          all_goals first | omega | (simp only [kk0, e2, e7, e10, e11, e14, e15, e17, Y_slices_Equal_api_Finding_api_Finding, EV, ↓EVd, isCall, Nat.reduceAdd, Nat.reduceSub, Nat.reduceMul, Nat.reduceEqDiff, Nat.reduceBEq, Nat.reduceLT, Nat.reduceLeDiff, ↓reduceIte, reduceCtorEq, Nat.reduceShiftRight, Nat.reduceAnd, Nat.reduceBneDiff]; done) | (simp only [kk0, e2, e7, e10, e11, e14, e15, e17, Y_slices_Equal_api_Finding_api_Finding, EV, ↓EVd, isCall, Nat.reduceAdd, Nat.reduceSub, Nat.reduceMul, Nat.reduceEqDiff, Nat.reduceBEq, Nat.reduceLT, Nat.reduceLeDiff, ↓reduceIte, reduceCtorEq, Nat.reduceShiftRight, Nat.reduceAnd, Nat.reduceBneDiff]; omega) | (simp only [kk0, e2, e7, e10, e11, e14, e15, e17, Y_slices_Equal_api_Finding_api_Finding, EV, ↓EVd, isCall, Nat.reduceAdd, Nat.reduceSub, Nat.reduceMul, Nat.reduceEqDiff, Nat.reduceBEq, Nat.reduceLT, Nat.reduceLeDiff, ↓reduceIte, reduceCtorEq, Nat.reduceShiftRight, Nat.reduceAnd, Nat.reduceBneDiff]; congr 1; omega)
        · have e17 : (decide (v8 = v12)) = false := Bool.eq_false_iff.2 h16
          rw [if_neg h16] at hm1
          try simp only [Option.bind_some, Option.some.injEq] at hm1
          subst hm1
          try simp only [Option.bind_some, Option.some.injEq] at hm0
          subst hm0
          simp only [kk0, e2, e7, e10, e11, e14, e15, e17, Y_slices_Equal_api_Finding_api_Finding, EV, ↓EVd, isCall, Nat.reduceAdd, Nat.reduceSub, Nat.reduceMul, Nat.reduceEqDiff, Nat.reduceBEq, Nat.reduceLT, Nat.reduceLeDiff, ↓reduceIte, reduceCtorEq, Nat.reduceShiftRight, Nat.reduceAnd, Nat.reduceBneDiff]
          all_goals first | done | rfl
      · have e7 : (v4 < (a0.length : Int)) = False := eq_false h6
        rw [if_neg h6] at hm1
        try simp only [Option.bind_some, Option.some.injEq] at hm1
        simp only [kk0, e2, e7, Y_slices_Equal_api_Finding_api_Finding, EV, ↓EVd, isCall, Nat.reduceAdd, Nat.reduceSub, Nat.reduceMul, Nat.reduceEqDiff, Nat.reduceBEq, Nat.reduceLT, Nat.reduceLeDiff, ↓reduceIte, reduceCtorEq, Nat.reduceShiftRight, Nat.reduceAnd, Nat.reduceBneDiff]
        rw [hJ0_0]
        exact TI.here hm1
  · have e2 : ((a0.length : Int) = (a1.length : Int)) = False := eq_false h1
    rw [if_neg h1] at hm0
    simp only [Option.some.injEq] at hm0
    subst hm0
    simp only [e2, Y_slices_Equal_api_Finding_api_Finding, EV, ↓EVd, isCall, Nat.reduceAdd, Nat.reduceSub, Nat.reduceMul, Nat.reduceEqDiff, Nat.reduceBEq, Nat.reduceLT, Nat.reduceLeDiff, ↓reduceIte, reduceCtorEq, Nat.reduceShiftRight, Nat.reduceAnd, Nat.reduceBneDiff]
    all_goals first | done | rfl
def m_impure_Want (a0 : Stack) (a1 : Int) : Option (Int) := (m_walk_Reach a0.upper ([1] : List Int)).bind fun v1 => if a1 < 1 then some 0
 else if (v1.length : Int) < a1 then some 0
 else (ix v1 (wr (a1 - 1))).bind fun v7 => if (!v7) = true then some 0
 else (ix a0.upper.nodes (wr (a1 - 1))).bind fun v13 => (m_impure_want a0.upper v13).bind fun v17 => some v17
def Y_impure_Want := And.intro (And.intro (And.intro (And.intro ((@R3)) ((@R4))) (And.intro ((@R24)) ((@R26)))) (And.intro (And.intro ((@R29)) ((@R46))) (And.intro ((@R63)) ((@R72))))) (And.intro (And.intro (And.intro ((@DGeo)) ((@DBranch))) (And.intro ((@DStack)) ((@DOrigin)))) (And.intro (And.intro ((@DAttr)) ((@DNode))) (And.intro ((@DEntry)) ((@mixed)))))
set_option maxHeartbeats 2000000 in
theorem ok_impure_Want (a0 : Stack) (a1 : Int) (r : Int) (hm0 : m_impure_Want a0 a1 = some r) : Ok Try.prog 17 [encStack a0, int a1] (int r) := by
  unfold m_impure_Want at hm0
  refine okF fc_impure_Want (by simp) ?_
  unfold c_impure_Want
  rcases h2 : m_walk_Reach a0.upper ([1] : List Int) with _ | v1
  · rw [h2] at hm0; simp only [Option.bind_none, reduceCtorEq] at hm0
  rw [h2] at hm0; simp only [Option.bind_some] at hm0
  simp only [Y_impure_Want, EV, ↓EVd, isCall, Nat.reduceAdd, Nat.reduceSub, Nat.reduceMul, Nat.reduceEqDiff, Nat.reduceBEq, Nat.reduceLT, Nat.reduceLeDiff, ↓reduceIte, reduceCtorEq, Nat.reduceShiftRight, Nat.reduceAnd, Nat.reduceBneDiff]
  refine S1_okk (ok_walk_Reach _ _ _ h2) rfl (by simp only [fk_nil, fk_clo, fkK_row, fk_msl, CLO, fkO_some, Y_impure_Want, EV, ↓EVd, isCall, Nat.reduceAdd, Nat.reduceSub, Nat.reduceMul, Nat.reduceEqDiff, Nat.reduceBEq, Nat.reduceLT, Nat.reduceLeDiff, ↓reduceIte, reduceCtorEq, Nat.reduceShiftRight, Nat.reduceAnd, Nat.reduceBneDiff]; first | done | rfl) ?_
  by_cases h3 : a1 < 1
  · have e4 : (a1 < 1) = True := eq_true h3
    rw [if_pos h3] at hm0
    simp only [Option.some.injEq] at hm0
    subst hm0
    simp only [e4, Y_impure_Want, EV, ↓EVd, isCall, Nat.reduceAdd, Nat.reduceSub, Nat.reduceMul, Nat.reduceEqDiff, Nat.reduceBEq, Nat.reduceLT, Nat.reduceLeDiff, ↓reduceIte, reduceCtorEq, Nat.reduceShiftRight, Nat.reduceAnd, Nat.reduceBneDiff]
    all_goals first | done | rfl
  · have e4 : (a1 < 1) = False := eq_false h3
    rw [if_neg h3] at hm0
    by_cases h5 : (v1.length : Int) < a1
    · have e6 : ((v1.length : Int) < a1) = True := eq_true h5
      rw [if_pos h5] at hm0
      simp only [Option.some.injEq] at hm0
      subst hm0
      simp only [e4, e6, Y_impure_Want, EV, ↓EVd, isCall, Nat.reduceAdd, Nat.reduceSub, Nat.reduceMul, Nat.reduceEqDiff, Nat.reduceBEq, Nat.reduceLT, Nat.reduceLeDiff, ↓reduceIte, reduceCtorEq, Nat.reduceShiftRight, Nat.reduceAnd, Nat.reduceBneDiff]
      all_goals first | done | rfl
    · have e6 : ((v1.length : Int) < a1) = False := eq_false h5
      rw [if_neg h5] at hm0
      rcases h8 : ix v1 (wr (a1 - 1)) with _ | v7
      · rw [h8] at hm0; simp only [Option.bind_none, reduceCtorEq] at hm0
      rw [h8] at hm0; simp only [Option.bind_some] at hm0
      have e9 := eq_true (ix_nonneg h8)
      have e10 := ix_enc bool h8
      by_cases h11 : (!v7) = true
      · have e12 : (!v7) = true := h11
        rw [if_pos h11] at hm0
        simp only [Option.some.injEq] at hm0
        subst hm0
        simp only [e4, e6, e9, e10, e12, Y_impure_Want, EV, ↓EVd, isCall, Nat.reduceAdd, Nat.reduceSub, Nat.reduceMul, Nat.reduceEqDiff, Nat.reduceBEq, Nat.reduceLT, Nat.reduceLeDiff, ↓reduceIte, reduceCtorEq, Nat.reduceShiftRight, Nat.reduceAnd, Nat.reduceBneDiff]
        all_goals first | done | rfl
      · have e12 : (!v7) = false := Bool.eq_false_iff.2 h11
        rw [if_neg h11] at hm0
        rcases h14 : ix a0.upper.nodes (wr (a1 - 1)) with _ | v13
        · rw [h14] at hm0; simp only [Option.bind_none, reduceCtorEq] at hm0
        rw [h14] at hm0; simp only [Option.bind_some] at hm0
        have e15 := eq_true (ix_nonneg h14)
        have e16 := ix_enc encNode h14
        rcases h18 : m_impure_want a0.upper v13 with _ | v17
        · rw [h18] at hm0; simp only [Option.bind_none, reduceCtorEq] at hm0
        rw [h18] at hm0; simp only [Option.bind_some] at hm0
        simp only [e4, e6, e9, e10, e12, e15, e16, Y_impure_Want, EV, ↓EVd, isCall, Nat.reduceAdd, Nat.reduceSub, Nat.reduceMul, Nat.reduceEqDiff, Nat.reduceBEq, Nat.reduceLT, Nat.reduceLeDiff, ↓reduceIte, reduceCtorEq, Nat.reduceShiftRight, Nat.reduceAnd, Nat.reduceBneDiff]
        refine ⟨_, OpS1_ok (ok_impure_want _ _ _ h18) rfl (by simp only [CLO]), ?_⟩
        simp only [Option.some.injEq] at hm0
        subst hm0
        simp only [e4, e6, e9, e10, e12, e15, e16, Y_impure_Want, EV, ↓EVd, isCall, Nat.reduceAdd, Nat.reduceSub, Nat.reduceMul, Nat.reduceEqDiff, Nat.reduceBEq, Nat.reduceLT, Nat.reduceLeDiff, ↓reduceIte, reduceCtorEq, Nat.reduceShiftRight, Nat.reduceAnd, Nat.reduceBneDiff]
        all_goals first | done | rfl
def m_impure_Findings_b0 (a0 : Stack) (v1 : List Bool) : (List Finding × Int) → Option (St (List Finding × Int) (List Finding))
 | (v5, v6) => if v6 < (v1.length : Int) then (ix v1 v6).bind fun v12 => (ix a0.upper.nodes v6).bind fun v16 => if v12 = true then (m_impure_want a0.upper v16).bind fun v22 => if v16.impure = v22 then some (.nx (v5, (wr (v6 + 1))))
 else (ap 32 v5 ([(⟨18, 0, (wr (v6 + 1)), (-1)⟩ : Finding)] : List Finding)).bind fun _ => some (.nx ((v5 ++ ([(⟨18, 0, (wr (v6 + 1)), (-1)⟩ : Finding)] : List Finding)), (wr (v6 + 1))))
 else if v16.kind = 1 then if (wr (v6 + 1)) = 2 then if v16.impure = 0 then some (.nx (v5, (wr (v6 + 1))))
 else (ap 32 v5 ([(⟨18, 0, (wr (v6 + 1)), (-1)⟩ : Finding)] : List Finding)).bind fun _ => some (.nx ((v5 ++ ([(⟨18, 0, (wr (v6 + 1)), (-1)⟩ : Finding)] : List Finding)), (wr (v6 + 1))))
 else if (wr (v6 + 1)) = 3 then if v16.impure = 0 then some (.nx (v5, (wr (v6 + 1))))
 else (ap 32 v5 ([(⟨18, 0, (wr (v6 + 1)), (-1)⟩ : Finding)] : List Finding)).bind fun _ => some (.nx ((v5 ++ ([(⟨18, 0, (wr (v6 + 1)), (-1)⟩ : Finding)] : List Finding)), (wr (v6 + 1))))
 else some (.nx (v5, (wr (v6 + 1))))
 else some (.nx (v5, (wr (v6 + 1))))
 else some (.out v5)
def m_impure_Findings (a0 : Stack) : Option (List Finding) := (m_walk_Reach a0.upper ([1] : List Int)).bind fun v1 => (iter (m_impure_Findings_b0 a0 v1) big ([], 0)).bind fun o => (match o with | v9 => some v9)
def Y_impure_Findings := And.intro (And.intro (And.intro (And.intro ((@R3)) ((@R4))) (And.intro ((@R24)) ((@R26)))) (And.intro (And.intro ((@R29)) ((@R33))) (And.intro ((@R35)) (And.intro ((@R46)) ((@R63)))))) (And.intro (And.intro (And.intro ((@R72)) ((@DGeo))) (And.intro ((@DBranch)) ((@DStack)))) (And.intro (And.intro ((@DFinding)) ((@DOrigin))) (And.intro ((@DAttr)) (And.intro ((@DNode)) ((@DEntry))))))
set_option maxHeartbeats 2000000 in
theorem ok_impure_Findings (a0 : Stack) (r : List Finding) (hm0 : m_impure_Findings a0 = some r) : Ok Try.prog 15 [encStack a0] (.sl 4 (r.map encFinding)) := by
  unfold m_impure_Findings at hm0
  refine okF fc_impure_Findings (by simp) ?_
  unfold c_impure_Findings
  rcases h2 : m_walk_Reach a0.upper ([1] : List Int) with _ | v1
  · rw [h2] at hm0; simp only [Option.bind_none, reduceCtorEq] at hm0
  rw [h2] at hm0; simp only [Option.bind_some] at hm0
  simp only [Y_impure_Findings, EV, ↓EVd, isCall, Nat.reduceAdd, Nat.reduceSub, Nat.reduceMul, Nat.reduceEqDiff, Nat.reduceBEq, Nat.reduceLT, Nat.reduceLeDiff, ↓reduceIte, reduceCtorEq, Nat.reduceShiftRight, Nat.reduceAnd, Nat.reduceBneDiff]
  refine S1_okk (ok_walk_Reach _ _ _ h2) rfl (by simp only [fk_nil, fk_clo, fkK_row, fk_msl, CLO, fkO_some, Y_impure_Findings, EV, ↓EVd, isCall, Nat.reduceAdd, Nat.reduceSub, Nat.reduceMul, Nat.reduceEqDiff, Nat.reduceBEq, Nat.reduceLT, Nat.reduceLeDiff, ↓reduceIte, reduceCtorEq, Nat.reduceShiftRight, Nat.reduceAnd, Nat.reduceBneDiff]; first | done | rfl) ?_
  rcases ho0 : iter (m_impure_Findings_b0 a0 v1) big ([], 0) with _ | o0
  · rw [ho0] at hm0; simp only [Option.bind_none, reduceCtorEq] at hm0
  rw [ho0] at hm0; simp only [Option.bind_some] at hm0
  simp only [Y_impure_Findings, EV, ↓EVd, isCall, Nat.reduceAdd, Nat.reduceSub, Nat.reduceMul, Nat.reduceEqDiff, Nat.reduceBEq, Nat.reduceLT, Nat.reduceLeDiff, ↓reduceIte, reduceCtorEq, Nat.reduceShiftRight, Nat.reduceAnd, Nat.reduceBneDiff]
  obtain ⟨J0_0, hJ0_0⟩ : ∃ J : AS → Prop, J = fun s => ∃ v9 : List Finding, ∃ l8 : Nat, s.T 3 = .msl l8 v9.length ∧ s.H l8 = some (.row 35 4 (v9.map encFinding)) ∧ l8 < s.nx ∧ v9 = o0 := ⟨_, rfl⟩
  refine cwp_cut 0 J0_0 ?_ ?_
  rotate_left
  · clear ho0
    rintro ⟨T0, H0, x7⟩ hs
    rw [hJ0_0] at hs
    obtain ⟨v9, l8, k0_0_0, k0_0_1, k0_0_2, hq⟩ := hs
    subst hq
    try simp only at k0_0_0 k0_0_1 k0_0_2
    try dsimp only at hm0
    have kk0_0 := And.intro (And.intro ((k0_0_0)) (And.intro ((k0_0_1)) ((k0_0_2)))) (And.intro ((ne2 k0_0_2)) (And.intro ((ne2' k0_0_2)) ((lt2 k0_0_2))))
    simp only [Option.some.injEq] at hm0
    subst hm0
    simp only [kk0_0, Y_impure_Findings, EV, ↓EVd, isCall, Nat.reduceAdd, Nat.reduceSub, Nat.reduceMul, Nat.reduceEqDiff, Nat.reduceBEq, Nat.reduceLT, Nat.reduceLeDiff, ↓reduceIte, reduceCtorEq, Nat.reduceShiftRight, Nat.reduceAnd, Nat.reduceBneDiff]
    all_goals first | done | rfl | exact frzR_msl (T := 35) (by simp only [kk0_0, Y_impure_Findings, EV, ↓EVd, isCall, Nat.reduceAdd, Nat.reduceSub, Nat.reduceMul, Nat.reduceEqDiff, Nat.reduceBEq, Nat.reduceLT, Nat.reduceLeDiff, ↓reduceIte, reduceCtorEq, Nat.reduceShiftRight, Nat.reduceAnd, Nat.reduceBneDiff]) (by simp only [kk0_0, Y_impure_Findings, EV, ↓EVd, isCall, Nat.reduceAdd, Nat.reduceSub, Nat.reduceMul, Nat.reduceEqDiff, Nat.reduceBEq, Nat.reduceLT, Nat.reduceLeDiff, ↓reduceIte, reduceCtorEq, Nat.reduceShiftRight, Nat.reduceAnd, Nat.reduceBneDiff]) (by simp only [CLO])
  obtain ⟨I0, hI0⟩ : ∃ I : Nat → AS → Prop, I = fun k s => ∃ v5 : List Finding, ∃ v6 : Int, ∃ l4 : Nat, s.T 1 = .loc 0 6 0 0 ∧ s.T 3 = .msl l4 v5.length ∧ s.T 11 = .sl 1 (v1.map bool) ∧ s.T 12 = int (v1.length : Int) ∧ s.T 13 = int v6 ∧ s.H 0 = some (.row 29 6 [encStack a0]) ∧ s.H l4 = some (.row 35 4 (v5.map encFinding)) ∧ 0 < s.nx ∧ l4 < s.nx ∧ 0 ≠ l4 ∧ iter (m_impure_Findings_b0 a0 v1) k (v5, v6) = some o0 := ⟨_, rfl⟩
  refine cwp_iter I0 big ?_ ?_ ?_
  · rw [hI0]
    refine TI.by (Tn.adopt 3 35 4 (by simp only [Y_impure_Findings, EV, ↓EVd, isCall, Nat.reduceAdd, Nat.reduceSub, Nat.reduceMul, Nat.reduceEqDiff, Nat.reduceBEq, Nat.reduceLT, Nat.reduceLeDiff, ↓reduceIte, reduceCtorEq, Nat.reduceShiftRight, Nat.reduceAnd, Nat.reduceBneDiff])) ?_
    refine TI.here ⟨([] : List Finding), 0, 9, ?_, ?_, ?_, ?_, ?_, ?_, ?_, ?_, ?_, ?_, ho0⟩
    all_goals first | omega | (simp only [Y_impure_Findings, EV, ↓EVd, isCall, Nat.reduceAdd, Nat.reduceSub, Nat.reduceMul, Nat.reduceEqDiff, Nat.reduceBEq, Nat.reduceLT, Nat.reduceLeDiff, ↓reduceIte, reduceCtorEq, Nat.reduceShiftRight, Nat.reduceAnd, Nat.reduceBneDiff]; done) | (simp only [Y_impure_Findings, EV, ↓EVd, isCall, Nat.reduceAdd, Nat.reduceSub, Nat.reduceMul, Nat.reduceEqDiff, Nat.reduceBEq, Nat.reduceLT, Nat.reduceLeDiff, ↓reduceIte, reduceCtorEq, Nat.reduceShiftRight, Nat.reduceAnd, Nat.reduceBneDiff]; omega) | (simp only [Y_impure_Findings, EV, ↓EVd, isCall, Nat.reduceAdd, Nat.reduceSub, Nat.reduceMul, Nat.reduceEqDiff, Nat.reduceBEq, Nat.reduceLT, Nat.reduceLeDiff, ↓reduceIte, reduceCtorEq, Nat.reduceShiftRight, Nat.reduceAnd, Nat.reduceBneDiff]; congr 1; omega)
  · rintro s hs
    rw [hI0] at hs
    obtain ⟨_, _, _, _, _, _, _, _, _, _, _, _, _, hz⟩ := hs
    simp only [iter_zero, reduceCtorEq] at hz
  · clear ho0
    rintro k ⟨T0, H0, x3⟩ hs
    rw [hI0] at hs
    obtain ⟨v5, v6, l4, k0_0, k0_1, k0_2, k0_3, k0_4, k0_5, k0_6, k0_7, k0_8, k0_9, hm1⟩ := hs
    try simp only at k0_0 k0_1 k0_2 k0_3 k0_4 k0_5 k0_6 k0_7 k0_8 k0_9
    apply cw_cwp
    rw [iter_succ] at hm1; simp only [m_impure_Findings_b0] at hm1
    have kk0 := And.intro (And.intro (And.intro (And.intro ((k0_0)) ((k0_1))) (And.intro ((k0_2)) ((k0_3)))) (And.intro (And.intro ((k0_4)) ((k0_5))) (And.intro ((k0_6)) ((k0_7))))) (And.intro (And.intro (And.intro ((ne2 k0_7)) ((ne2' k0_7))) (And.intro ((lt2 k0_7)) ((k0_8)))) (And.intro (And.intro ((ne2 k0_8)) ((ne2' k0_8))) (And.intro ((lt2 k0_8)) (And.intro ((k0_9)) ((k0_9.symm))))))
    by_cases h10 : v6 < (v1.length : Int)
    · have e11 : (v6 < (v1.length : Int)) = True := eq_true h10
      rw [if_pos h10] at hm1
      rcases h13 : ix v1 v6 with _ | v12
      · rw [h13] at hm1; simp only [Option.bind_none, reduceCtorEq] at hm1
      rw [h13] at hm1; simp only [Option.bind_some] at hm1
      have e14 := eq_true (ix_nonneg h13)
      have e15 := ix_enc bool h13
      rcases h17 : ix a0.upper.nodes v6 with _ | v16
      · rw [h17] at hm1; simp only [Option.bind_none, reduceCtorEq] at hm1
      rw [h17] at hm1; simp only [Option.bind_some] at hm1
      have e18 := eq_true (ix_nonneg h17)
      have e19 := ix_enc encNode h17
      by_cases h20 : v12 = true
      · have e21 : v12 = true := h20
        rw [if_pos h20] at hm1
        rcases h23 : m_impure_want a0.upper v16 with _ | v22
        · rw [h23] at hm1; simp only [Option.bind_none, reduceCtorEq] at hm1
        rw [h23] at hm1; simp only [Option.bind_some] at hm1
        simp only [kk0, e11, e14, e15, e18, e19, e21, Y_impure_Findings, EV, ↓EVd, isCall, Nat.reduceAdd, Nat.reduceSub, Nat.reduceMul, Nat.reduceEqDiff, Nat.reduceBEq, Nat.reduceLT, Nat.reduceLeDiff, ↓reduceIte, reduceCtorEq, Nat.reduceShiftRight, Nat.reduceAnd, Nat.reduceBneDiff]
        refine S1_ok (ok_impure_want _ _ _ h23) rfl (by simp only [CLO]) ?_
        by_cases h24 : v16.impure = v22
        · have e25 : (v16.impure = v22) = True := eq_true h24
          rw [if_pos h24] at hm1
          try simp only [Option.bind_some] at hm1
          simp only [kk0, e11, e14, e15, e18, e19, e21, e25, Y_impure_Findings, EV, ↓EVd, isCall, Nat.reduceAdd, Nat.reduceSub, Nat.reduceMul, Nat.reduceEqDiff, Nat.reduceBEq, Nat.reduceLT, Nat.reduceLeDiff, ↓reduceIte, reduceCtorEq, Nat.reduceShiftRight, Nat.reduceAnd, Nat.reduceBneDiff]
          rw [hI0]
          refine TI.here ⟨v5, (wr (v6 + 1)), l4, ?_, ?_, ?_, ?_, ?_, ?_, ?_, ?_, ?_, ?_, hm1⟩
          all_goals first | omega | (simp only [kk0, e11, e14, e15, e18, e19, e21, e25, Y_impure_Findings, EV, ↓EVd, isCall, Nat.reduceAdd, Nat.reduceSub, Nat.reduceMul, Nat.reduceEqDiff, Nat.reduceBEq, Nat.reduceLT, Nat.reduceLeDiff, ↓reduceIte, reduceCtorEq, Nat.reduceShiftRight, Nat.reduceAnd, Nat.reduceBneDiff]; done) | (simp only [kk0, e11, e14, e15, e18, e19, e21, e25, Y_impure_Findings, EV, ↓EVd, isCall, Nat.reduceAdd, Nat.reduceSub, Nat.reduceMul, Nat.reduceEqDiff, Nat.reduceBEq, Nat.reduceLT, Nat.reduceLeDiff, ↓reduceIte, reduceCtorEq, Nat.reduceShiftRight, Nat.reduceAnd, Nat.reduceBneDiff]; omega) | (simp only [kk0, e11, e14, e15, e18, e19, e21, e25, Y_impure_Findings, EV, ↓EVd, isCall, Nat.reduceAdd, Nat.reduceSub, Nat.reduceMul, Nat.reduceEqDiff, Nat.reduceBEq, Nat.reduceLT, Nat.reduceLeDiff, ↓reduceIte, reduceCtorEq, Nat.reduceShiftRight, Nat.reduceAnd, Nat.reduceBneDiff]; congr 1; omega)
        · have e25 : (v16.impure = v22) = False := eq_false h24
          rw [if_neg h24] at hm1
          have e26 : (.agg [int 18, int 0, int (wr (v6 + 1)), int (-1)] : AV) = encFinding (⟨18, 0, (wr (v6 + 1)), (-1)⟩ : Finding) := _root_.id rfl
          rcases h28 : ap 32 v5 ([(⟨18, 0, (wr (v6 + 1)), (-1)⟩ : Finding)] : List Finding) with _ | h28u
          · rw [h28] at hm1; simp only [Option.bind_none, reduceCtorEq] at hm1
          rw [h28] at hm1; simp only [Option.bind_some] at hm1
          have e29 := eq_true (ap_some h28).2.1
          have e30 := eq_true (ap_some h28).2.2
          try simp only [ZL] at e29 e30
          try simp only [Option.bind_some] at hm1
          simp only [kk0, e11, e14, e15, e18, e19, e21, e25, e26, e29, e30, Y_impure_Findings, EV, ↓EVd, isCall, Nat.reduceAdd, Nat.reduceSub, Nat.reduceMul, Nat.reduceEqDiff, Nat.reduceBEq, Nat.reduceLT, Nat.reduceLeDiff, ↓reduceIte, reduceCtorEq, Nat.reduceShiftRight, Nat.reduceAnd, Nat.reduceBneDiff]
          rw [hI0]
          refine TI.here ⟨(v5 ++ ([(⟨18, 0, (wr (v6 + 1)), (-1)⟩ : Finding)] : List Finding)), (wr (v6 + 1)), (x3 + 31), ?_, ?_, ?_, ?_, ?_, ?_, ?_, ?_, ?_, ?_, hm1⟩
          all_goals first | omega | (simp only [kk0, e11, e14, e15, e18, e19, e21, e25, e26, e29, e30, Y_impure_Findings, EV, ↓EVd, isCall, Nat.reduceAdd, Nat.reduceSub, Nat.reduceMul, Nat.reduceEqDiff, Nat.reduceBEq, Nat.reduceLT, Nat.reduceLeDiff, ↓reduceIte, reduceCtorEq, Nat.reduceShiftRight, Nat.reduceAnd, Nat.reduceBneDiff]; done) | (simp only [kk0, e11, e14, e15, e18, e19, e21, e25, e26, e29, e30, Y_impure_Findings, EV, ↓EVd, isCall, Nat.reduceAdd, Nat.reduceSub, Nat.reduceMul, Nat.reduceEqDiff, Nat.reduceBEq, Nat.reduceLT, Nat.reduceLeDiff, ↓reduceIte, reduceCtorEq, Nat.reduceShiftRight, Nat.reduceAnd, Nat.reduceBneDiff]; omega) | (simp only [kk0, e11, e14, e15, e18, e19, e21, e25, e26, e29, e30, Y_impure_Findings, EV, ↓EVd, isCall, Nat.reduceAdd, Nat.reduceSub, Nat.reduceMul, Nat.reduceEqDiff, Nat.reduceBEq, Nat.reduceLT, Nat.reduceLeDiff, ↓reduceIte, reduceCtorEq, Nat.reduceShiftRight, Nat.reduceAnd, Nat.reduceBneDiff]; congr 1; omega)
      · have e21 : v12 = false := Bool.eq_false_iff.2 h20
        rw [if_neg h20] at hm1
        by_cases h31 : v16.kind = 1
        · have e32 : (v16.kind = 1) = True := eq_true h31
          rw [if_pos h31] at hm1
          by_cases h33 : (wr (v6 + 1)) = 2
          · have e34 : ((wr (v6 + 1)) = 2) = True := eq_true h33
            rw [if_pos h33] at hm1
            by_cases h35 : v16.impure = 0
            · have e36 : (v16.impure = 0) = True := eq_true h35
              rw [if_pos h35] at hm1
              try simp only [Option.bind_some] at hm1
              simp only [kk0, e11, e14, e15, e18, e19, e21, e32, e34, e36, Y_impure_Findings, EV, ↓EVd, isCall, Nat.reduceAdd, Nat.reduceSub, Nat.reduceMul, Nat.reduceEqDiff, Nat.reduceBEq, Nat.reduceLT, Nat.reduceLeDiff, ↓reduceIte, reduceCtorEq, Nat.reduceShiftRight, Nat.reduceAnd, Nat.reduceBneDiff]
              rw [hI0]
              refine TI.here ⟨v5, (wr (v6 + 1)), l4, ?_, ?_, ?_, ?_, ?_, ?_, ?_, ?_, ?_, ?_, hm1⟩
              all_goals first | omega | (simp only [kk0, e11, e14, e15, e18, e19, e21, e32, e34, e36, Y_impure_Findings, EV, ↓EVd, isCall, Nat.reduceAdd, Nat.reduceSub, Nat.reduceMul, Nat.reduceEqDiff, Nat.reduceBEq, Nat.reduceLT, Nat.reduceLeDiff, ↓reduceIte, reduceCtorEq, Nat.reduceShiftRight, Nat.reduceAnd, Nat.reduceBneDiff]; done) | (simp only [kk0, e11, e14, e15, e18, e19, e21, e32, e34, e36, Y_impure_Findings, EV, ↓EVd, isCall, Nat.reduceAdd, Nat.reduceSub, Nat.reduceMul, Nat.reduceEqDiff, Nat.reduceBEq, Nat.reduceLT, Nat.reduceLeDiff, ↓reduceIte, reduceCtorEq, Nat.reduceShiftRight, Nat.reduceAnd, Nat.reduceBneDiff]; omega) | (simp only [kk0, e11, e14, e15, e18, e19, e21, e32, e34, e36, Y_impure_Findings, EV, ↓EVd, isCall, Nat.reduceAdd, Nat.reduceSub, Nat.reduceMul, Nat.reduceEqDiff, Nat.reduceBEq, Nat.reduceLT, Nat.reduceLeDiff, ↓reduceIte, reduceCtorEq, Nat.reduceShiftRight, Nat.reduceAnd, Nat.reduceBneDiff]; congr 1; omega)
            · have e36 : (v16.impure = 0) = False := eq_false h35
              rw [if_neg h35] at hm1
              have e37 : (.agg [int 18, int 0, int (wr (v6 + 1)), int (-1)] : AV) = encFinding (⟨18, 0, (wr (v6 + 1)), (-1)⟩ : Finding) := _root_.id rfl
              rcases h39 : ap 32 v5 ([(⟨18, 0, (wr (v6 + 1)), (-1)⟩ : Finding)] : List Finding) with _ | h39u
              · rw [h39] at hm1; simp only [Option.bind_none, reduceCtorEq] at hm1
              rw [h39] at hm1; simp only [Option.bind_some] at hm1
              have e40 := eq_true (ap_some h39).2.1
              have e41 := eq_true (ap_some h39).2.2
              try simp only [ZL] at e40 e41
              try simp only [Option.bind_some] at hm1
              simp only [kk0, e11, e14, e15, e18, e19, e21, e32, e34, e36, e37, e40, e41, Y_impure_Findings, EV, ↓EVd, isCall, Nat.reduceAdd, Nat.reduceSub, Nat.reduceMul, Nat.reduceEqDiff, Nat.reduceBEq, Nat.reduceLT, Nat.reduceLeDiff, ↓reduceIte, reduceCtorEq, Nat.reduceShiftRight, Nat.reduceAnd, Nat.reduceBneDiff]
              rw [hI0]
              refine TI.here ⟨(v5 ++ ([(⟨18, 0, (wr (v6 + 1)), (-1)⟩ : Finding)] : List Finding)), (wr (v6 + 1)), (x3 + 40), ?_, ?_, ?_, ?_, ?_, ?_, ?_, ?_, ?_, ?_, hm1⟩
              all_goals first | omega | (simp only [kk0, e11, e14, e15, e18, e19, e21, e32, e34, e36, e37, e40, e41, Y_impure_Findings, EV, ↓EVd, isCall, Nat.reduceAdd, Nat.reduceSub, Nat.reduceMul, Nat.reduceEqDiff, Nat.reduceBEq, Nat.reduceLT, Nat.reduceLeDiff, ↓reduceIte, reduceCtorEq, Nat.reduceShiftRight, Nat.reduceAnd, Nat.reduceBneDiff]; done) | (simp only [kk0, e11, e14, e15, e18, e19, e21, e32, e34, e36, e37, e40, e41, Y_impure_Findings, EV, ↓EVd, isCall, Nat.reduceAdd, Nat.reduceSub, Nat.reduceMul, Nat.reduceEqDiff, Nat.reduceBEq, Nat.reduceLT, Nat.reduceLeDiff, ↓reduceIte, reduceCtorEq, Nat.reduceShiftRight, Nat.reduceAnd, Nat.reduceBneDiff]; omega) | (simp only [kk0, e11, e14, e15, e18, e19, e21, e32, e34, e36, e37, e40, e41, Y_impure_Findings, EV, ↓EVd, isCall, Nat.reduceAdd, Nat.reduceSub, Nat.reduceMul, Nat.reduceEqDiff, Nat.reduceBEq, Nat.reduceLT, Nat.reduceLeDiff, ↓reduceIte, reduceCtorEq, Nat.reduceShiftRight, Nat.reduceAnd, Nat.reduceBneDiff]; congr 1; omega)
          · have e34 : ((wr (v6 + 1)) = 2) = False := eq_false h33
            rw [if_neg h33] at hm1
            by_cases h42 : (wr (v6 + 1)) = 3
            · have e43 : ((wr (v6 + 1)) = 3) = True := eq_true h42
              rw [if_pos h42] at hm1
              by_cases h44 : v16.impure = 0
              · have e45 : (v16.impure = 0) = True := eq_true h44
                rw [if_pos h44] at hm1
                try simp only [Option.bind_some] at hm1
                simp only [kk0, e11, e14, e15, e18, e19, e21, e32, e34, e43, e45, Y_impure_Findings, EV, ↓EVd, isCall, Nat.reduceAdd, Nat.reduceSub, Nat.reduceMul, Nat.reduceEqDiff, Nat.reduceBEq, Nat.reduceLT, Nat.reduceLeDiff, ↓reduceIte, reduceCtorEq, Nat.reduceShiftRight, Nat.reduceAnd, Nat.reduceBneDiff]
                rw [hI0]
                refine TI.here ⟨v5, (wr (v6 + 1)), l4, ?_, ?_, ?_, ?_, ?_, ?_, ?_, ?_, ?_, ?_, hm1⟩
                all_goals first | omega | (simp only [kk0, e11, e14, e15, e18, e19, e21, e32, e34, e43, e45, Y_impure_Findings, EV, ↓EVd, isCall, Nat.reduceAdd, Nat.reduceSub, Nat.reduceMul, Nat.reduceEqDiff, Nat.reduceBEq, Nat.reduceLT, Nat.reduceLeDiff, ↓reduceIte, reduceCtorEq, Nat.reduceShiftRight, Nat.reduceAnd, Nat.reduceBneDiff]; done) | (simp only [kk0, e11, e14, e15, e18, e19, e21, e32, e34, e43, e45, Y_impure_Findings, EV, ↓EVd, isCall, Nat.reduceAdd, Nat.reduceSub, Nat.reduceMul, Nat.reduceEqDiff, Nat.reduceBEq, Nat.reduceLT, Nat.reduceLeDiff, ↓reduceIte, reduceCtorEq, Nat.reduceShiftRight, Nat.reduceAnd, Nat.reduceBneDiff]; omega) | (simp only [kk0, e11, e14, e15, e18, e19, e21, e32, e34, e43, e45, Y_impure_Findings, EV, ↓EVd, isCall, Nat.reduceAdd, Nat.reduceSub, Nat.reduceMul, Nat.reduceEqDiff, Nat.reduceBEq, Nat.reduceLT, Nat.reduceLeDiff, ↓reduceIte, reduceCtorEq, Nat.reduceShiftRight, Nat.reduceAnd, Nat.reduceBneDiff]; congr 1; omega)
              · have e45 : (v16.impure = 0) = False := eq_false h44
                rw [if_neg h44] at hm1
                have e46 : (.agg [int 18, int 0, int (wr (v6 + 1)), int (-1)] : AV) = encFinding (⟨18, 0, (wr (v6 + 1)), (-1)⟩ : Finding) := _root_.id rfl
                rcases h48 : ap 32 v5 ([(⟨18, 0, (wr (v6 + 1)), (-1)⟩ : Finding)] : List Finding) with _ | h48u
                · rw [h48] at hm1; simp only [Option.bind_none, reduceCtorEq] at hm1
                rw [h48] at hm1; simp only [Option.bind_some] at hm1
                have e49 := eq_true (ap_some h48).2.1
                have e50 := eq_true (ap_some h48).2.2
                try simp only [ZL] at e49 e50
                try simp only [Option.bind_some] at hm1
                simp only [kk0, e11, e14, e15, e18, e19, e21, e32, e34, e43, e45, e46, e49, e50, Y_impure_Findings, EV, ↓EVd, isCall, Nat.reduceAdd, Nat.reduceSub, Nat.reduceMul, Nat.reduceEqDiff, Nat.reduceBEq, Nat.reduceLT, Nat.reduceLeDiff, ↓reduceIte, reduceCtorEq, Nat.reduceShiftRight, Nat.reduceAnd, Nat.reduceBneDiff]
                rw [hI0]
                refine TI.here ⟨(v5 ++ ([(⟨18, 0, (wr (v6 + 1)), (-1)⟩ : Finding)] : List Finding)), (wr (v6 + 1)), (x3 + 40), ?_, ?_, ?_, ?_, ?_, ?_, ?_, ?_, ?_, ?_, hm1⟩
                all_goals first | omega | (simp only [kk0, e11, e14, e15, e18, e19, e21, e32, e34, e43, e45, e46, e49, e50, Y_impure_Findings, EV, ↓EVd, isCall, Nat.reduceAdd, Nat.reduceSub, Nat.reduceMul, Nat.reduceEqDiff, Nat.reduceBEq, Nat.reduceLT, Nat.reduceLeDiff, ↓reduceIte, reduceCtorEq, Nat.reduceShiftRight, Nat.reduceAnd, Nat.reduceBneDiff]; done) | (simp only [kk0, e11, e14, e15, e18, e19, e21, e32, e34, e43, e45, e46, e49, e50, Y_impure_Findings, EV, ↓EVd, isCall, Nat.reduceAdd, Nat.reduceSub, Nat.reduceMul, Nat.reduceEqDiff, Nat.reduceBEq, Nat.reduceLT, Nat.reduceLeDiff, ↓reduceIte, reduceCtorEq, Nat.reduceShiftRight, Nat.reduceAnd, Nat.reduceBneDiff]; omega) | (simp only [kk0, e11, e14, e15, e18, e19, e21, e32, e34, e43, e45, e46, e49, e50, Y_impure_Findings, EV, ↓EVd, isCall, Nat.reduceAdd, Nat.reduceSub, Nat.reduceMul, Nat.reduceEqDiff, Nat.reduceBEq, Nat.reduceLT, Nat.reduceLeDiff, ↓reduceIte, reduceCtorEq, Nat.reduceShiftRight, Nat.reduceAnd, Nat.reduceBneDiff]; congr 1; omega)
            · have e43 : ((wr (v6 + 1)) = 3) = False := eq_false h42
              rw [if_neg h42] at hm1
              try simp only [Option.bind_some] at hm1
              simp only [kk0, e11, e14, e15, e18, e19, e21, e32, e34, e43, Y_impure_Findings, EV, ↓EVd, isCall, Nat.reduceAdd, Nat.reduceSub, Nat.reduceMul, Nat.reduceEqDiff, Nat.reduceBEq, Nat.reduceLT, Nat.reduceLeDiff, ↓reduceIte, reduceCtorEq, Nat.reduceShiftRight, Nat.reduceAnd, Nat.reduceBneDiff]
              rw [hI0]
              refine TI.here ⟨v5, (wr (v6 + 1)), l4, ?_, ?_, ?_, ?_, ?_, ?_, ?_, ?_, ?_, ?_, hm1⟩
              all_goals first | omega | (simp only [kk0, e11, e14, e15, e18, e19, e21, e32, e34, e43, Y_impure_Findings, EV, ↓EVd, isCall, Nat.reduceAdd, Nat.reduceSub, Nat.reduceMul, Nat.reduceEqDiff, Nat.reduceBEq, Nat.reduceLT, Nat.reduceLeDiff, ↓reduceIte, reduceCtorEq, Nat.reduceShiftRight, Nat.reduceAnd, Nat.reduceBneDiff]; done) | (simp only [kk0, e11, e14, e15, e18, e19, e21, e32, e34, e43, Y_impure_Findings, EV, ↓EVd, isCall, Nat.reduceAdd, Nat.reduceSub, Nat.reduceMul, Nat.reduceEqDiff, Nat.reduceBEq, Nat.reduceLT, Nat.reduceLeDiff, ↓reduceIte, reduceCtorEq, Nat.reduceShiftRight, Nat.reduceAnd, Nat.reduceBneDiff]; omega) | (simp only [kk0, e11, e14, e15, e18, e19, e21, e32, e34, e43, Y_impure_Findings, EV, ↓EVd, isCall, Nat.reduceAdd, Nat.reduceSub, Nat.reduceMul, Nat.reduceEqDiff, Nat.reduceBEq, Nat.reduceLT, Nat.reduceLeDiff, ↓reduceIte, reduceCtorEq, Nat.reduceShiftRight, Nat.reduceAnd, Nat.reduceBneDiff]; congr 1; omega)
        · have e32 : (v16.kind = 1) = False := eq_false h31
          rw [if_neg h31] at hm1
          try simp only [Option.bind_some] at hm1
          simp only [kk0, e11, e14, e15, e18, e19, e21, e32, Y_impure_Findings, EV, ↓EVd, isCall, Nat.reduceAdd, Nat.reduceSub, Nat.reduceMul, Nat.reduceEqDiff, Nat.reduceBEq, Nat.reduceLT, Nat.reduceLeDiff, ↓reduceIte, reduceCtorEq, Nat.reduceShiftRight, Nat.reduceAnd, Nat.reduceBneDiff]
          rw [hI0]
          refine TI.here ⟨v5, (wr (v6 + 1)), l4, ?_, ?_, ?_, ?_, ?_, ?_, ?_, ?_, ?_, ?_, hm1⟩
          all_goals first | omega | (simp only [kk0, e11, e14, e15, e18, e19, e21, e32, Y_impure_Findings, EV, ↓EVd, isCall, Nat.reduceAdd, Nat.reduceSub, Nat.reduceMul, Nat.reduceEqDiff, Nat.reduceBEq, Nat.reduceLT, Nat.reduceLeDiff, ↓reduceIte, reduceCtorEq, Nat.reduceShiftRight, Nat.reduceAnd, Nat.reduceBneDiff]; done) | (simp only [kk0, e11, e14, e15, e18, e19, e21, e32, Y_impure_Findings, EV, ↓EVd, isCall, Nat.reduceAdd, Nat.reduceSub, Nat.reduceMul, Nat.reduceEqDiff, Nat.reduceBEq, Nat.reduceLT, Nat.reduceLeDiff, ↓reduceIte, reduceCtorEq, Nat.reduceShiftRight, Nat.reduceAnd, Nat.reduceBneDiff]; omega) | (simp only [kk0, e11, e14, e15, e18, e19, e21, e32, Y_impure_Findings, EV, ↓EVd, isCall, Nat.reduceAdd, Nat.reduceSub, Nat.reduceMul, Nat.reduceEqDiff, Nat.reduceBEq, Nat.reduceLT, Nat.reduceLeDiff, ↓reduceIte, reduceCtorEq, Nat.reduceShiftRight, Nat.reduceAnd, Nat.reduceBneDiff]; congr 1; omega)
    · have e11 : (v6 < (v1.length : Int)) = False := eq_false h10
      rw [if_neg h10] at hm1
      try simp only [Option.bind_some, Option.some.injEq] at hm1
      simp only [kk0, e11, Y_impure_Findings, EV, ↓EVd, isCall, Nat.reduceAdd, Nat.reduceSub, Nat.reduceMul, Nat.reduceEqDiff, Nat.reduceBEq, Nat.reduceLT, Nat.reduceLeDiff, ↓reduceIte, reduceCtorEq, Nat.reduceShiftRight, Nat.reduceAnd, Nat.reduceBneDiff]
      rw [hJ0_0]
      refine TI.here ⟨v5, l4, ?_, ?_, ?_, hm1⟩
      all_goals first | omega | (simp only [kk0, e11, Y_impure_Findings, EV, ↓EVd, isCall, Nat.reduceAdd, Nat.reduceSub, Nat.reduceMul, Nat.reduceEqDiff, Nat.reduceBEq, Nat.reduceLT, Nat.reduceLeDiff, ↓reduceIte, reduceCtorEq, Nat.reduceShiftRight, Nat.reduceAnd, Nat.reduceBneDiff]; done) | (simp only [kk0, e11, Y_impure_Findings, EV, ↓EVd, isCall, Nat.reduceAdd, Nat.reduceSub, Nat.reduceMul, Nat.reduceEqDiff, Nat.reduceBEq, Nat.reduceLT, Nat.reduceLeDiff, ↓reduceIte, reduceCtorEq, Nat.reduceShiftRight, Nat.reduceAnd, Nat.reduceBneDiff]; omega) | (simp only [kk0, e11, Y_impure_Findings, EV, ↓EVd, isCall, Nat.reduceAdd, Nat.reduceSub, Nat.reduceMul, Nat.reduceEqDiff, Nat.reduceBEq, Nat.reduceLT, Nat.reduceLeDiff, ↓reduceIte, reduceCtorEq, Nat.reduceShiftRight, Nat.reduceAnd, Nat.reduceBneDiff]; congr 1; omega)
end Go.Proofs.Ytnmljicimdhpmaa.AL

