/- What of the attributes of any stack, and of any node, may not be, is what the document says: part 46 of 53. -/
import Derived.Test.YtnmljicimdhpmaaB45
set_option linter.all false
/- Models of functions, and that the functions are as their models: written by gen.py. -/
set_option linter.all false
set_option maxRecDepth 100000
namespace Go.Proofs.Ytnmljicimdhpmaa.AL
open Go Go.Proofs
def m_origin_Findings_b1 (a0 : Stack) (v1 : List Bool) (v13 : Int) : (List Finding × Int) → Option (St (List Finding × Int) (List Finding))
 | (v19, v20) => if v20 < (v1.length : Int) then (ix v1 v20).bind fun v26 => if (!v26) = true then some (.nx (v19, (wr (v20 + 1))))
 else (ix a0.upper.nodes v20).bind fun v32 => (m_origin_wrong a0 v13 v32).bind fun v36 => if (!v36) = true then some (.nx (v19, (wr (v20 + 1))))
 else (ap 32 v19 ([(⟨v13, 0, (wr (v20 + 1)), (-1)⟩ : Finding)] : List Finding)).bind fun _ => some (.nx ((v19 ++ ([(⟨v13, 0, (wr (v20 + 1)), (-1)⟩ : Finding)] : List Finding)), (wr (v20 + 1))))
 else some (.out v19)
def m_origin_Findings_b0 (a0 : Stack) (v1 : List Bool) : (List Finding × Int) → Option (St (List Finding × Int) (List Finding))
 | (v6, v7) => if v7 < 3 then (ix ([8, 13, 14] : List Int) v7).bind fun v13 => (iter (m_origin_Findings_b1 a0 v1 v13) big (v6, 0)).bind fun o => (match o with | v23 => some (.nx (v23, (wr (v7 + 1)))))
 else some (.out v6)
def m_origin_Findings (a0 : Stack) : Option (List Finding) := (m_walk_Reach a0.upper ([1] : List Int)).bind fun v1 => (iter (m_origin_Findings_b0 a0 v1) big ([], 0)).bind fun o => (match o with | v10 => some v10)
def Y_origin_Findings := And.intro (And.intro (And.intro (And.intro ((@R3)) ((@R4))) (And.intro ((@R24)) (And.intro ((@R26)) ((@R29))))) (And.intro (And.intro ((@R33)) ((@R35))) (And.intro ((@R46)) (And.intro ((@R63)) ((@R72)))))) (And.intro (And.intro (And.intro ((@R102)) ((@DGeo))) (And.intro ((@DBranch)) (And.intro ((@DStack)) ((@DFinding))))) (And.intro (And.intro ((@DOrigin)) (And.intro ((@DAttr)) ((@DNode)))) (And.intro ((@DEntry)) (And.intro ((@DAr3_Int)) ((@mixed))))))
set_option maxHeartbeats 2000000 in
theorem ok_origin_Findings (a0 : Stack) (r : List Finding) (hm0 : m_origin_Findings a0 = some r) : Ok Try.prog 26 [encStack a0] (.sl 4 (r.map encFinding)) := by
  unfold m_origin_Findings at hm0
  refine okF fc_origin_Findings (by simp) ?_
  unfold c_origin_Findings
  rcases h2 : m_walk_Reach a0.upper ([1] : List Int) with _ | v1
  · rw [h2] at hm0; simp only [Option.bind_none, reduceCtorEq] at hm0
  rw [h2] at hm0; simp only [Option.bind_some] at hm0
  simp only [Y_origin_Findings, EV, ↓EVd, isCall, Nat.reduceAdd, Nat.reduceSub, Nat.reduceMul, Nat.reduceEqDiff, Nat.reduceBEq, Nat.reduceLT, Nat.reduceLeDiff, ↓reduceIte, reduceCtorEq, Nat.reduceShiftRight, Nat.reduceAnd, Nat.reduceBneDiff]
  refine S1_okk (ok_walk_Reach _ _ _ h2) rfl (by simp only [fk_nil, fk_clo, fkK_row, fk_msl, CLO, fkO_some, Y_origin_Findings, EV, ↓EVd, isCall, Nat.reduceAdd, Nat.reduceSub, Nat.reduceMul, Nat.reduceEqDiff, Nat.reduceBEq, Nat.reduceLT, Nat.reduceLeDiff, ↓reduceIte, reduceCtorEq, Nat.reduceShiftRight, Nat.reduceAnd, Nat.reduceBneDiff]; first | done | rfl) ?_
  have e3 : (.agg [int 8, int 13, int 14] : AV) = encAr3_Int (⟨8, 13, 14⟩ : Ar3_Int) := _root_.id rfl
  rcases ho0 : iter (m_origin_Findings_b0 a0 v1) big ([], 0) with _ | o0
  · rw [ho0] at hm0; simp only [Option.bind_none, reduceCtorEq] at hm0
  rw [ho0] at hm0; simp only [Option.bind_some] at hm0
  simp only [e3, Y_origin_Findings, EV, ↓EVd, isCall, Nat.reduceAdd, Nat.reduceSub, Nat.reduceMul, Nat.reduceEqDiff, Nat.reduceBEq, Nat.reduceLT, Nat.reduceLeDiff, ↓reduceIte, reduceCtorEq, Nat.reduceShiftRight, Nat.reduceAnd, Nat.reduceBneDiff]
  obtain ⟨J0_0, hJ0_0⟩ : ∃ J : AS → Prop, J = fun s => ∃ v10 : List Finding, ∃ l9 : Nat, s.T 4 = .msl l9 v10.length ∧ s.H l9 = some (.row 35 4 (v10.map encFinding)) ∧ l9 < s.nx ∧ v10 = o0 := ⟨_, rfl⟩
  refine cwp_cut 0 J0_0 ?_ ?_
  rotate_left
  · clear ho0
    rintro ⟨T0, H0, x8⟩ hs
    rw [hJ0_0] at hs
    obtain ⟨v10, l9, k0_0_0, k0_0_1, k0_0_2, hq⟩ := hs
    subst hq
    try simp only at k0_0_0 k0_0_1 k0_0_2
    try dsimp only at hm0
    have kk0_0 := And.intro (And.intro ((k0_0_0)) (And.intro ((k0_0_1)) ((k0_0_2)))) (And.intro ((ne2 k0_0_2)) (And.intro ((ne2' k0_0_2)) ((lt2 k0_0_2))))
    simp only [Option.some.injEq] at hm0
    subst hm0
    simp only [kk0_0, e3, Y_origin_Findings, EV, ↓EVd, isCall, Nat.reduceAdd, Nat.reduceSub, Nat.reduceMul, Nat.reduceEqDiff, Nat.reduceBEq, Nat.reduceLT, Nat.reduceLeDiff, ↓reduceIte, reduceCtorEq, Nat.reduceShiftRight, Nat.reduceAnd, Nat.reduceBneDiff]
    all_goals first | done | rfl | exact frzR_msl (T := 35) (by simp only [kk0_0, e3, Y_origin_Findings, EV, ↓EVd, isCall, Nat.reduceAdd, Nat.reduceSub, Nat.reduceMul, Nat.reduceEqDiff, Nat.reduceBEq, Nat.reduceLT, Nat.reduceLeDiff, ↓reduceIte, reduceCtorEq, Nat.reduceShiftRight, Nat.reduceAnd, Nat.reduceBneDiff]) (by simp only [kk0_0, e3, Y_origin_Findings, EV, ↓EVd, isCall, Nat.reduceAdd, Nat.reduceSub, Nat.reduceMul, Nat.reduceEqDiff, Nat.reduceBEq, Nat.reduceLT, Nat.reduceLeDiff, ↓reduceIte, reduceCtorEq, Nat.reduceShiftRight, Nat.reduceAnd, Nat.reduceBneDiff]) (by simp only [CLO])
  obtain ⟨I0, hI0⟩ : ∃ I : Nat → AS → Prop, I = fun k s => ∃ v6 : List Finding, ∃ v7 : Int, ∃ l5 : Nat, s.T 1 = .loc 0 6 0 0 ∧ s.T 3 = .sl 1 (v1.map bool) ∧ s.T 4 = .msl l5 v6.length ∧ s.T 13 = encAr3_Int (⟨8, 13, 14⟩ : Ar3_Int) ∧ s.T 14 = int v7 ∧ s.H 0 = some (.row 29 6 [encStack a0]) ∧ s.H l5 = some (.row 35 4 (v6.map encFinding)) ∧ 0 < s.nx ∧ l5 < s.nx ∧ 0 ≠ l5 ∧ iter (m_origin_Findings_b0 a0 v1) k (v6, v7) = some o0 := ⟨_, rfl⟩
  refine cwp_iter I0 big ?_ ?_ ?_
  · rw [hI0]
    refine TI.by (Tn.adopt 4 35 4 (by simp only [e3, Y_origin_Findings, EV, ↓EVd, isCall, Nat.reduceAdd, Nat.reduceSub, Nat.reduceMul, Nat.reduceEqDiff, Nat.reduceBEq, Nat.reduceLT, Nat.reduceLeDiff, ↓reduceIte, reduceCtorEq, Nat.reduceShiftRight, Nat.reduceAnd, Nat.reduceBneDiff])) ?_
    refine TI.here ⟨([] : List Finding), 0, 10, ?_, ?_, ?_, ?_, ?_, ?_, ?_, ?_, ?_, ?_, ho0⟩
    all_goals first | omega | (simp only [e3, Y_origin_Findings, EV, ↓EVd, isCall, Nat.reduceAdd, Nat.reduceSub, Nat.reduceMul, Nat.reduceEqDiff, Nat.reduceBEq, Nat.reduceLT, Nat.reduceLeDiff, ↓reduceIte, reduceCtorEq, Nat.reduceShiftRight, Nat.reduceAnd, Nat.reduceBneDiff]; done) | (simp only [e3, Y_origin_Findings, EV, ↓EVd, isCall, Nat.reduceAdd, Nat.reduceSub, Nat.reduceMul, Nat.reduceEqDiff, Nat.reduceBEq, Nat.reduceLT, Nat.reduceLeDiff, ↓reduceIte, reduceCtorEq, Nat.reduceShiftRight, Nat.reduceAnd, Nat.reduceBneDiff]; omega) | (simp only [e3, Y_origin_Findings, EV, ↓EVd, isCall, Nat.reduceAdd, Nat.reduceSub, Nat.reduceMul, Nat.reduceEqDiff, Nat.reduceBEq, Nat.reduceLT, Nat.reduceLeDiff, ↓reduceIte, reduceCtorEq, Nat.reduceShiftRight, Nat.reduceAnd, Nat.reduceBneDiff]; congr 1; omega)
  · rintro s hs
    rw [hI0] at hs
    obtain ⟨_, _, _, _, _, _, _, _, _, _, _, _, _, hz⟩ := hs
    simp only [iter_zero, reduceCtorEq] at hz
  · clear ho0
    rintro k ⟨T0, H0, x4⟩ hs
    rw [hI0] at hs
    obtain ⟨v6, v7, l5, k0_0, k0_1, k0_2, k0_3, k0_4, k0_5, k0_6, k0_7, k0_8, k0_9, hm1⟩ := hs
    try simp only at k0_0 k0_1 k0_2 k0_3 k0_4 k0_5 k0_6 k0_7 k0_8 k0_9
    apply cw_cwp
    rw [iter_succ] at hm1; simp only [m_origin_Findings_b0] at hm1
    have kk0 := And.intro (And.intro (And.intro (And.intro ((k0_0)) ((k0_1))) (And.intro ((k0_2)) ((k0_3)))) (And.intro (And.intro ((k0_4)) ((k0_5))) (And.intro ((k0_6)) ((k0_7))))) (And.intro (And.intro (And.intro ((ne2 k0_7)) ((ne2' k0_7))) (And.intro ((lt2 k0_7)) ((k0_8)))) (And.intro (And.intro ((ne2 k0_8)) ((ne2' k0_8))) (And.intro ((lt2 k0_8)) (And.intro ((k0_9)) ((k0_9.symm))))))
    by_cases h11 : v7 < 3
    · have e12 : (v7 < 3) = True := eq_true h11
      rw [if_pos h11] at hm1
      rcases h14 : ix ([8, 13, 14] : List Int) v7 with _ | v13
      · rw [h14] at hm1; simp only [Option.bind_none, reduceCtorEq] at hm1
      rw [h14] at hm1; simp only [Option.bind_some] at hm1
      have e15 := (show evalIndex Try.prog 102 (encAr3_Int (⟨8, 13, 14⟩ : Ar3_Int)) (int v7) = some (int v13) from index_arrM arrOfT_102 aggN_3 (xs := [8, 13, 14]) rfl h14)
      have e16 := (show evalIndex Try.prog 102 (.agg [int 8, int 13, int 14]) (int v7) = some (int v13) from index_arrM arrOfT_102 aggN_3 (xs := [8, 13, 14]) rfl h14)
      simp only [kk0, e3, e12, e15, e16, Y_origin_Findings, EV, ↓EVd, isCall, Nat.reduceAdd, Nat.reduceSub, Nat.reduceMul, Nat.reduceEqDiff, Nat.reduceBEq, Nat.reduceLT, Nat.reduceLeDiff, ↓reduceIte, reduceCtorEq, Nat.reduceShiftRight, Nat.reduceAnd, Nat.reduceBneDiff]
      refine cwp_scope0 ?_
      rcases ho1 : iter (m_origin_Findings_b1 a0 v1 v13) big (v6, 0) with _ | o1
      · rw [ho1] at hm1; simp only [Option.bind_none, reduceCtorEq] at hm1
      rw [ho1] at hm1; simp only [Option.bind_some] at hm1
      simp only [kk0, e3, e12, e15, e16, Y_origin_Findings, EV, ↓EVd, isCall, Nat.reduceAdd, Nat.reduceSub, Nat.reduceMul, Nat.reduceEqDiff, Nat.reduceBEq, Nat.reduceLT, Nat.reduceLeDiff, ↓reduceIte, reduceCtorEq, Nat.reduceShiftRight, Nat.reduceAnd, Nat.reduceBneDiff]
      obtain ⟨J1_0, hJ1_0⟩ : ∃ J : AS → Prop, J = fun s => ∃ v23 : List Finding, ∃ l22 : Nat, s.T 1 = .loc 0 6 0 0 ∧ s.T 3 = .sl 1 (v1.map bool) ∧ s.T 4 = .msl l22 v23.length ∧ s.T 13 = encAr3_Int (⟨8, 13, 14⟩ : Ar3_Int) ∧ s.T 14 = int v7 ∧ s.H 0 = some (.row 29 6 [encStack a0]) ∧ s.H l22 = some (.row 35 4 (v23.map encFinding)) ∧ 0 < s.nx ∧ l22 < s.nx ∧ 0 ≠ l22 ∧ v23 = o1 := ⟨_, rfl⟩
      refine cwp_cut 2 J1_0 ?_ ?_
      rotate_left
      · clear ho1
        rintro ⟨T1, H1, x21⟩ hs
        rw [hJ1_0] at hs
        obtain ⟨v23, l22, k1_0_0, k1_0_1, k1_0_2, k1_0_3, k1_0_4, k1_0_5, k1_0_6, k1_0_7, k1_0_8, k1_0_9, hq⟩ := hs
        subst hq
        try simp only at k1_0_0 k1_0_1 k1_0_2 k1_0_3 k1_0_4 k1_0_5 k1_0_6 k1_0_7 k1_0_8 k1_0_9
        try dsimp only at hm1
        have kk1_0 := And.intro (And.intro (And.intro (And.intro ((k1_0_0)) ((k1_0_1))) (And.intro ((k1_0_2)) ((k1_0_3)))) (And.intro (And.intro ((k1_0_4)) ((k1_0_5))) (And.intro ((k1_0_6)) ((k1_0_7))))) (And.intro (And.intro (And.intro ((ne2 k1_0_7)) ((ne2' k1_0_7))) (And.intro ((lt2 k1_0_7)) ((k1_0_8)))) (And.intro (And.intro ((ne2 k1_0_8)) ((ne2' k1_0_8))) (And.intro ((lt2 k1_0_8)) (And.intro ((k1_0_9)) ((k1_0_9.symm))))))
        try simp only [Option.bind_some] at hm1
        simp only [kk1_0, e3, e12, e15, e16, Y_origin_Findings, EV, ↓EVd, isCall, Nat.reduceAdd, Nat.reduceSub, Nat.reduceMul, Nat.reduceEqDiff, Nat.reduceBEq, Nat.reduceLT, Nat.reduceLeDiff, ↓reduceIte, reduceCtorEq, Nat.reduceShiftRight, Nat.reduceAnd, Nat.reduceBneDiff]
        rw [hI0]
        refine TI.here ⟨v23, (wr (v7 + 1)), l22, ?_, ?_, ?_, ?_, ?_, ?_, ?_, ?_, ?_, ?_, hm1⟩
        all_goals first | omega | (simp only [kk1_0, e3, e12, e15, e16, Y_origin_Findings, EV, ↓EVd, isCall, Nat.reduceAdd, Nat.reduceSub, Nat.reduceMul, Nat.reduceEqDiff, Nat.reduceBEq, Nat.reduceLT, Nat.reduceLeDiff, ↓reduceIte, reduceCtorEq, Nat.reduceShiftRight, Nat.reduceAnd, Nat.reduceBneDiff]; done) | (simp only [kk1_0, e3, e12, e15, e16, Y_origin_Findings, EV, ↓EVd, isCall, Nat.reduceAdd, Nat.reduceSub, Nat.reduceMul, Nat.reduceEqDiff, Nat.reduceBEq, Nat.reduceLT, Nat.reduceLeDiff, ↓reduceIte, reduceCtorEq, Nat.reduceShiftRight, Nat.reduceAnd, Nat.reduceBneDiff]; omega) | (simp only [kk1_0, e3, e12, e15, e16, Y_origin_Findings, EV, ↓EVd, isCall, Nat.reduceAdd, Nat.reduceSub, Nat.reduceMul, Nat.reduceEqDiff, Nat.reduceBEq, Nat.reduceLT, Nat.reduceLeDiff, ↓reduceIte, reduceCtorEq, Nat.reduceShiftRight, Nat.reduceAnd, Nat.reduceBneDiff]; congr 1; omega)
      obtain ⟨I1, hI1⟩ : ∃ I : Nat → AS → Prop, I = fun k s => ∃ v19 : List Finding, ∃ v20 : Int, ∃ l18 : Nat, s.T 1 = .loc 0 6 0 0 ∧ s.T 3 = .sl 1 (v1.map bool) ∧ s.T 4 = .msl l18 v19.length ∧ s.T 6 = int v13 ∧ s.T 13 = encAr3_Int (⟨8, 13, 14⟩ : Ar3_Int) ∧ s.T 14 = int v7 ∧ s.T 17 = .sl 1 (v1.map bool) ∧ s.T 18 = int (v1.length : Int) ∧ s.T 19 = int v20 ∧ s.H 0 = some (.row 29 6 [encStack a0]) ∧ s.H l18 = some (.row 35 4 (v19.map encFinding)) ∧ 0 < s.nx ∧ l18 < s.nx ∧ 0 ≠ l18 ∧ iter (m_origin_Findings_b1 a0 v1 v13) k (v19, v20) = some o1 := ⟨_, rfl⟩
      refine cwp_iter I1 big ?_ ?_ ?_
      · rw [hI1]
        refine TI.here ⟨v6, 0, l5, ?_, ?_, ?_, ?_, ?_, ?_, ?_, ?_, ?_, ?_, ?_, ?_, ?_, ?_, ho1⟩
        all_goals first | omega | (simp only [kk0, e3, e12, e15, e16, Y_origin_Findings, EV, ↓EVd, isCall, Nat.reduceAdd, Nat.reduceSub, Nat.reduceMul, Nat.reduceEqDiff, Nat.reduceBEq, Nat.reduceLT, Nat.reduceLeDiff, ↓reduceIte, reduceCtorEq, Nat.reduceShiftRight, Nat.reduceAnd, Nat.reduceBneDiff]; done) | (simp only [kk0, e3, e12, e15, e16, Y_origin_Findings, EV, ↓EVd, isCall, Nat.reduceAdd, Nat.reduceSub, Nat.reduceMul, Nat.reduceEqDiff, Nat.reduceBEq, Nat.reduceLT, Nat.reduceLeDiff, ↓reduceIte, reduceCtorEq, Nat.reduceShiftRight, Nat.reduceAnd, Nat.reduceBneDiff]; omega) | (simp only [kk0, e3, e12, e15, e16, Y_origin_Findings, EV, ↓EVd, isCall, Nat.reduceAdd, Nat.reduceSub, Nat.reduceMul, Nat.reduceEqDiff, Nat.reduceBEq, Nat.reduceLT, Nat.reduceLeDiff, ↓reduceIte, reduceCtorEq, Nat.reduceShiftRight, Nat.reduceAnd, Nat.reduceBneDiff]; congr 1; omega)
      · rintro s hs
        rw [hI1] at hs
        obtain ⟨_, _, _, _, _, _, _, _, _, _, _, _, _, _, _, _, _, hz⟩ := hs
        simp only [iter_zero, reduceCtorEq] at hz
      · clear ho1
        rintro k ⟨T1, H1, x17⟩ hs
        rw [hI1] at hs
        obtain ⟨v19, v20, l18, k1_0, k1_1, k1_2, k1_3, k1_4, k1_5, k1_6, k1_7, k1_8, k1_9, k1_10, k1_11, k1_12, k1_13, hm2⟩ := hs
        try simp only at k1_0 k1_1 k1_2 k1_3 k1_4 k1_5 k1_6 k1_7 k1_8 k1_9 k1_10 k1_11 k1_12 k1_13
        apply cw_cwp
        rw [iter_succ] at hm2; simp only [m_origin_Findings_b1] at hm2
        have kk1 := And.intro (And.intro (And.intro (And.intro ((k1_0)) ((k1_1))) (And.intro ((k1_2)) (And.intro ((k1_3)) ((k1_4))))) (And.intro (And.intro ((k1_5)) ((k1_6))) (And.intro ((k1_7)) (And.intro ((k1_8)) ((k1_9)))))) (And.intro (And.intro (And.intro ((k1_10)) ((k1_11))) (And.intro ((ne2 k1_11)) (And.intro ((ne2' k1_11)) ((lt2 k1_11))))) (And.intro (And.intro ((k1_12)) (And.intro ((ne2 k1_12)) ((ne2' k1_12)))) (And.intro ((lt2 k1_12)) (And.intro ((k1_13)) ((k1_13.symm))))))
        by_cases h24 : v20 < (v1.length : Int)
        · have e25 : (v20 < (v1.length : Int)) = True := eq_true h24
          rw [if_pos h24] at hm2
          rcases h27 : ix v1 v20 with _ | v26
          · rw [h27] at hm2; simp only [Option.bind_none, reduceCtorEq] at hm2
          rw [h27] at hm2; simp only [Option.bind_some] at hm2
          have e28 := eq_true (ix_nonneg h27)
          have e29 := ix_enc bool h27
          by_cases h30 : (!v26) = true
          · have e31 : (!v26) = true := h30
            rw [if_pos h30] at hm2
            try simp only [Option.bind_some] at hm2
            simp only [kk1, e3, e12, e15, e16, e25, e28, e29, e31, Y_origin_Findings, EV, ↓EVd, isCall, Nat.reduceAdd, Nat.reduceSub, Nat.reduceMul, Nat.reduceEqDiff, Nat.reduceBEq, Nat.reduceLT, Nat.reduceLeDiff, ↓reduceIte, reduceCtorEq, Nat.reduceShiftRight, Nat.reduceAnd, Nat.reduceBneDiff]
            rw [hI1]
            refine TI.here ⟨v19, (wr (v20 + 1)), l18, ?_, ?_, ?_, ?_, ?_, ?_, ?_, ?_, ?_, ?_, ?_, ?_, ?_, ?_, hm2⟩
            all_goals first | omega | (simp only [kk1, e3, e12, e15, e16, e25, e28, e29, e31, Y_origin_Findings, EV, ↓EVd, isCall, Nat.reduceAdd, Nat.reduceSub, Nat.reduceMul, Nat.reduceEqDiff, Nat.reduceBEq, Nat.reduceLT, Nat.reduceLeDiff, ↓reduceIte, reduceCtorEq, Nat.reduceShiftRight, Nat.reduceAnd, Nat.reduceBneDiff]; done) | (simp only [kk1, e3, e12, e15, e16, e25, e28, e29, e31, Y_origin_Findings, EV, ↓EVd, isCall, Nat.reduceAdd, Nat.reduceSub, Nat.reduceMul, Nat.reduceEqDiff, Nat.reduceBEq, Nat.reduceLT, Nat.reduceLeDiff, ↓reduceIte, reduceCtorEq, Nat.reduceShiftRight, Nat.reduceAnd, Nat.reduceBneDiff]; omega) | (simp only [kk1, e3, e12, e15, e16, e25, e28, e29, e31, Y_origin_Findings, EV, ↓EVd, isCall, Nat.reduceAdd, Nat.reduceSub, Nat.reduceMul, Nat.reduceEqDiff, Nat.reduceBEq, Nat.reduceLT, Nat.reduceLeDiff, ↓reduceIte, reduceCtorEq, Nat.reduceShiftRight, Nat.reduceAnd, Nat.reduceBneDiff]; congr 1; omega)
          · have e31 : (!v26) = false := Bool.eq_false_iff.2 h30
            rw [if_neg h30] at hm2
            rcases h33 : ix a0.upper.nodes v20 with _ | v32
            · rw [h33] at hm2; simp only [Option.bind_none, reduceCtorEq] at hm2
            rw [h33] at hm2; simp only [Option.bind_some] at hm2
            have e34 := eq_true (ix_nonneg h33)
            have e35 := ix_enc encNode h33
            rcases h37 : m_origin_wrong a0 v13 v32 with _ | v36
            · rw [h37] at hm2; simp only [Option.bind_none, reduceCtorEq] at hm2
            rw [h37] at hm2; simp only [Option.bind_some] at hm2
            simp only [kk1, e3, e12, e15, e16, e25, e28, e29, e31, e34, e35, Y_origin_Findings, EV, ↓EVd, isCall, Nat.reduceAdd, Nat.reduceSub, Nat.reduceMul, Nat.reduceEqDiff, Nat.reduceBEq, Nat.reduceLT, Nat.reduceLeDiff, ↓reduceIte, reduceCtorEq, Nat.reduceShiftRight, Nat.reduceAnd, Nat.reduceBneDiff]
            refine ⟨_, OpS1_ok (ok_origin_wrong _ _ _ _ h37) rfl (by simp only [CLO]), ?_⟩
            by_cases h38 : (!v36) = true
            · have e39 : (!v36) = true := h38
              rw [if_pos h38] at hm2
              try simp only [Option.bind_some] at hm2
              simp only [kk1, e3, e12, e15, e16, e25, e28, e29, e31, e34, e35, e39, Y_origin_Findings, EV, ↓EVd, isCall, Nat.reduceAdd, Nat.reduceSub, Nat.reduceMul, Nat.reduceEqDiff, Nat.reduceBEq, Nat.reduceLT, Nat.reduceLeDiff, ↓reduceIte, reduceCtorEq, Nat.reduceShiftRight, Nat.reduceAnd, Nat.reduceBneDiff]
              rw [hI1]
              refine TI.here ⟨v19, (wr (v20 + 1)), l18, ?_, ?_, ?_, ?_, ?_, ?_, ?_, ?_, ?_, ?_, ?_, ?_, ?_, ?_, hm2⟩
              all_goals first | omega | (simp only [kk1, e3, e12, e15, e16, e25, e28, e29, e31, e34, e35, e39, Y_origin_Findings, EV, ↓EVd, isCall, Nat.reduceAdd, Nat.reduceSub, Nat.reduceMul, Nat.reduceEqDiff, Nat.reduceBEq, Nat.reduceLT, Nat.reduceLeDiff, ↓reduceIte, reduceCtorEq, Nat.reduceShiftRight, Nat.reduceAnd, Nat.reduceBneDiff]; done) | (simp only [kk1, e3, e12, e15, e16, e25, e28, e29, e31, e34, e35, e39, Y_origin_Findings, EV, ↓EVd, isCall, Nat.reduceAdd, Nat.reduceSub, Nat.reduceMul, Nat.reduceEqDiff, Nat.reduceBEq, Nat.reduceLT, Nat.reduceLeDiff, ↓reduceIte, reduceCtorEq, Nat.reduceShiftRight, Nat.reduceAnd, Nat.reduceBneDiff]; omega) | (simp only [kk1, e3, e12, e15, e16, e25, e28, e29, e31, e34, e35, e39, Y_origin_Findings, EV, ↓EVd, isCall, Nat.reduceAdd, Nat.reduceSub, Nat.reduceMul, Nat.reduceEqDiff, Nat.reduceBEq, Nat.reduceLT, Nat.reduceLeDiff, ↓reduceIte, reduceCtorEq, Nat.reduceShiftRight, Nat.reduceAnd, Nat.reduceBneDiff]; congr 1; omega)
            · have e39 : (!v36) = false := Bool.eq_false_iff.2 h38
              rw [if_neg h38] at hm2
              have e40 : (.agg [int v13, int 0, int (wr (v20 + 1)), int (-1)] : AV) = encFinding (⟨v13, 0, (wr (v20 + 1)), (-1)⟩ : Finding) := _root_.id rfl
              rcases h42 : ap 32 v19 ([(⟨v13, 0, (wr (v20 + 1)), (-1)⟩ : Finding)] : List Finding) with _ | h42u
              · rw [h42] at hm2; simp only [Option.bind_none, reduceCtorEq] at hm2
              rw [h42] at hm2; simp only [Option.bind_some] at hm2
              have e43 := eq_true (ap_some h42).2.1
              have e44 := eq_true (ap_some h42).2.2
              try simp only [ZL] at e43 e44
              try simp only [Option.bind_some] at hm2
              simp only [kk1, e3, e12, e15, e16, e25, e28, e29, e31, e34, e35, e39, e40, e43, e44, Y_origin_Findings, EV, ↓EVd, isCall, Nat.reduceAdd, Nat.reduceSub, Nat.reduceMul, Nat.reduceEqDiff, Nat.reduceBEq, Nat.reduceLT, Nat.reduceLeDiff, ↓reduceIte, reduceCtorEq, Nat.reduceShiftRight, Nat.reduceAnd, Nat.reduceBneDiff]
              rw [hI1]
              refine TI.here ⟨(v19 ++ ([(⟨v13, 0, (wr (v20 + 1)), (-1)⟩ : Finding)] : List Finding)), (wr (v20 + 1)), (x17 + 26), ?_, ?_, ?_, ?_, ?_, ?_, ?_, ?_, ?_, ?_, ?_, ?_, ?_, ?_, hm2⟩
              all_goals first | omega | (simp only [kk1, e3, e12, e15, e16, e25, e28, e29, e31, e34, e35, e39, e40, e43, e44, Y_origin_Findings, EV, ↓EVd, isCall, Nat.reduceAdd, Nat.reduceSub, Nat.reduceMul, Nat.reduceEqDiff, Nat.reduceBEq, Nat.reduceLT, Nat.reduceLeDiff, ↓reduceIte, reduceCtorEq, Nat.reduceShiftRight, Nat.reduceAnd, Nat.reduceBneDiff]; done) | (simp only [kk1, e3, e12, e15, e16, e25, e28, e29, e31, e34, e35, e39, e40, e43, e44, Y_origin_Findings, EV, ↓EVd, isCall, Nat.reduceAdd, Nat.reduceSub, Nat.reduceMul, Nat.reduceEqDiff, Nat.reduceBEq, Nat.reduceLT, Nat.reduceLeDiff, ↓reduceIte, reduceCtorEq, Nat.reduceShiftRight, Nat.reduceAnd, Nat.reduceBneDiff]; omega) | (simp only [kk1, e3, e12, e15, e16, e25, e28, e29, e31, e34, e35, e39, e40, e43, e44, Y_origin_Findings, EV, ↓EVd, isCall, Nat.reduceAdd, Nat.reduceSub, Nat.reduceMul, Nat.reduceEqDiff, Nat.reduceBEq, Nat.reduceLT, Nat.reduceLeDiff, ↓reduceIte, reduceCtorEq, Nat.reduceShiftRight, Nat.reduceAnd, Nat.reduceBneDiff]; congr 1; omega)
        · have e25 : (v20 < (v1.length : Int)) = False := eq_false h24
          rw [if_neg h24] at hm2
          try simp only [Option.bind_some, Option.some.injEq] at hm2
          simp only [kk1, e3, e12, e15, e16, e25, Y_origin_Findings, EV, ↓EVd, isCall, Nat.reduceAdd, Nat.reduceSub, Nat.reduceMul, Nat.reduceEqDiff, Nat.reduceBEq, Nat.reduceLT, Nat.reduceLeDiff, ↓reduceIte, reduceCtorEq, Nat.reduceShiftRight, Nat.reduceAnd, Nat.reduceBneDiff]
          rw [hJ1_0]
          refine TI.here ⟨v19, l18, ?_, ?_, ?_, ?_, ?_, ?_, ?_, ?_, ?_, ?_, hm2⟩
          all_goals first | omega | (simp only [kk1, e3, e12, e15, e16, e25, Y_origin_Findings, EV, ↓EVd, isCall, Nat.reduceAdd, Nat.reduceSub, Nat.reduceMul, Nat.reduceEqDiff, Nat.reduceBEq, Nat.reduceLT, Nat.reduceLeDiff, ↓reduceIte, reduceCtorEq, Nat.reduceShiftRight, Nat.reduceAnd, Nat.reduceBneDiff]; done) | (simp only [kk1, e3, e12, e15, e16, e25, Y_origin_Findings, EV, ↓EVd, isCall, Nat.reduceAdd, Nat.reduceSub, Nat.reduceMul, Nat.reduceEqDiff, Nat.reduceBEq, Nat.reduceLT, Nat.reduceLeDiff, ↓reduceIte, reduceCtorEq, Nat.reduceShiftRight, Nat.reduceAnd, Nat.reduceBneDiff]; omega) | (simp only [kk1, e3, e12, e15, e16, e25, Y_origin_Findings, EV, ↓EVd, isCall, Nat.reduceAdd, Nat.reduceSub, Nat.reduceMul, Nat.reduceEqDiff, Nat.reduceBEq, Nat.reduceLT, Nat.reduceLeDiff, ↓reduceIte, reduceCtorEq, Nat.reduceShiftRight, Nat.reduceAnd, Nat.reduceBneDiff]; congr 1; omega)
    · have e12 : (v7 < 3) = False := eq_false h11
      rw [if_neg h11] at hm1
      try simp only [Option.bind_some, Option.some.injEq] at hm1
      simp only [kk0, e3, e12, Y_origin_Findings, EV, ↓EVd, isCall, Nat.reduceAdd, Nat.reduceSub, Nat.reduceMul, Nat.reduceEqDiff, Nat.reduceBEq, Nat.reduceLT, Nat.reduceLeDiff, ↓reduceIte, reduceCtorEq, Nat.reduceShiftRight, Nat.reduceAnd, Nat.reduceBneDiff]
      rw [hJ0_0]
      refine TI.here ⟨v6, l5, ?_, ?_, ?_, hm1⟩
      all_goals first | omega | (simp only [kk0, e3, e12, Y_origin_Findings, EV, ↓EVd, isCall, Nat.reduceAdd, Nat.reduceSub, Nat.reduceMul, Nat.reduceEqDiff, Nat.reduceBEq, Nat.reduceLT, Nat.reduceLeDiff, ↓reduceIte, reduceCtorEq, Nat.reduceShiftRight, Nat.reduceAnd, Nat.reduceBneDiff]; done) | (simp only [kk0, e3, e12, Y_origin_Findings, EV, ↓EVd, isCall, Nat.reduceAdd, Nat.reduceSub, Nat.reduceMul, Nat.reduceEqDiff, Nat.reduceBEq, Nat.reduceLT, Nat.reduceLeDiff, ↓reduceIte, reduceCtorEq, Nat.reduceShiftRight, Nat.reduceAnd, Nat.reduceBneDiff]; omega) | (simp only [kk0, e3, e12, Y_origin_Findings, EV, ↓EVd, isCall, Nat.reduceAdd, Nat.reduceSub, Nat.reduceMul, Nat.reduceEqDiff, Nat.reduceBEq, Nat.reduceLT, Nat.reduceLeDiff, ↓reduceIte, reduceCtorEq, Nat.reduceShiftRight, Nat.reduceAnd, Nat.reduceBneDiff]; congr 1; omega)
end Go.Proofs.Ytnmljicimdhpmaa.AL

