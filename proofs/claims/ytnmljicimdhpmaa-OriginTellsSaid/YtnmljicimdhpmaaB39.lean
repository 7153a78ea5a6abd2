/- What of the attributes of any stack, and of any node, may not be, is what the document says: part 39 of 53. -/
import Derived.Test.YtnmljicimdhpmaaB38
set_option linter.all false
/- Models of functions, and that the functions are as their models: written by gen.py. -/
set_option linter.all false
set_option maxRecDepth 100000
namespace Go.Proofs.Ytnmljicimdhpmaa.AL
open Go Go.Proofs
def m_walk_Reach_p1 (a0 : Branch) (v5 : List Way) (v8 : List (Int × Int)) (v17 : Int) : Option (List Way × List (Int × Int)) := if v17 < 1 then some (v5, v8)
 else if (a0.nodes.length : Int) < v17 then some (v5, v8)
 else (ix a0.nodes (wr (v17 - 1))).bind fun v109 => if v109.kind = 1 then if 0 < (mget v8 v17) then some (v5, v8)
 else (ap 32 v5 ([(⟨v17, (-1), noBytes⟩ : Way)] : List Way)).bind fun _ => some ((v5 ++ ([(⟨v17, (-1), noBytes⟩ : Way)] : List Way)), (mset v8 v17 (wr ((mget v8 v17) + 1))))
 else some (v5, v8)
def m_walk_Reach_b3  : Unit → Option (St (Unit) (Unit))
 | _ => some (.out ())
def m_walk_Reach_b4  : Unit → Option (St (Unit) (Unit))
 | _ => some (.out ())
def m_walk_Reach_b5 (a0 : Branch) (v26 : Int) (v41 : Way) (v56 : Node) : (Int × List Way × List Ar2_Int × List (Int × Int)) → Option (St (Int × List Way × List Ar2_Int × List (Int × Int)) (List Way × List (Int × Int) × List Ar2_Int))
 | (v61, v63, v65, v66) => if v61 < (v56.entries.length : Int) then (ix v56.entries v61).bind fun v75 => if v75.ino < 1 then some (.nx ((wr (v61 + 1)), v63, v65, v66))
 else if (a0.nodes.length : Int) < v75.ino then some (.nx ((wr (v61 + 1)), v63, v65, v66))
 else (ix a0.nodes (wr (v75.ino - 1))).bind fun v85 => if v85.kind = 1 then if 0 < (mget v66 v75.ino) then (ap 16 v65 ([(⟨v41.ino, v75.slot⟩ : Ar2_Int)] : List Ar2_Int)).bind fun _ => some (.nx ((wr (v61 + 1)), v63, (v65 ++ ([(⟨v41.ino, v75.slot⟩ : Ar2_Int)] : List Ar2_Int)), v66))
 else (ap 32 v63 ([(⟨v75.ino, v26, v75.name⟩ : Way)] : List Way)).bind fun _ => some (.nx ((wr (v61 + 1)), (v63 ++ ([(⟨v75.ino, v26, v75.name⟩ : Way)] : List Way)), v65, (mset v66 v75.ino (wr ((mget v66 v75.ino) + 1)))))
 else some (.nx ((wr (v61 + 1)), v63, v65, v66))
 else some (.out (v63, v66, v65))
def m_walk_Reach_b2 (a0 : Branch) : (Int × List Way × List Ar2_Int × List (Int × Int)) → Option (St (Int × List Way × List Ar2_Int × List (Int × Int)) (List Way × List (Int × Int) × List Ar2_Int × Int))
 | (v26, v28, v30, v31) => if v26 < (v28.length : Int) then (ix v28 v26).bind fun v41 => if v41.ino < 1 then (iter (m_walk_Reach_b3) big ()).bind fun o => (match o with | _ => some (.nx ((wr (v26 + 1)), v28, v30, v31)))
 else if (a0.nodes.length : Int) < v41.ino then (iter (m_walk_Reach_b4) big ()).bind fun o => (match o with | _ => some (.nx ((wr (v26 + 1)), v28, v30, v31)))
 else (ix a0.nodes (wr (v41.ino - 1))).bind fun v56 => (iter (m_walk_Reach_b5 a0 v26 v41 v56) big (0, v28, v30, v31)).bind fun o => (match o with | (v69, v70, v72) => some (.nx ((wr (v26 + 1)), v69, v72, v70)))
 else some (.out (v28, v31, v30, v26))
def m_walk_Reach_b0 (a0 : Branch) (a1 : List Int) : (Int × Int × List Way × List Ar2_Int × List (Int × Int)) → Option (St (Int × Int × List Way × List Ar2_Int × List (Int × Int)) (List Way × List (Int × Int) × List Ar2_Int))
 | (v2, v3, v5, v7, v8) => if v3 < (a1.length : Int) then (ix a1 v3).bind fun v17 => (m_walk_Reach_p1 a0 v5 v8 v17).bind fun o => (match o with | (v23, v24) => (iter (m_walk_Reach_b2 a0) (big + 1) (v2, v23, v7, v24)).bind fun o => (match o with | (v34, v35, v37, v38) => some (.nx (v38, (wr (v3 + 1)), v34, v37, v35))))
 else some (.out (v5, v8, v7))
def m_walk_Reach (a0 : Branch) (a1 : List Int) : Option (List Bool) := (iter (m_walk_Reach_b0 a0 a1) big (0, 0, [], [], ([] : List (Int × Int)))).bind fun o => (match o with | (v11, v12, v14) => (m_walk_trail_reach a0 v11).bind fun v122 => some v122)
def Y_walk_Reach := And.intro (And.intro (And.intro (And.intro ((@R3)) (And.intro ((@R4)) ((@R9)))) (And.intro ((@R24)) (And.intro ((@R26)) ((@R40))))) (And.intro (And.intro ((@R46)) (And.intro ((@R49)) ((@R52)))) (And.intro ((@R54)) (And.intro ((@R63)) ((@R67)))))) (And.intro (And.intro (And.intro ((@R68)) (And.intro ((@R72)) ((@R94)))) (And.intro ((@R96)) (And.intro ((@R97)) ((@DBranch))))) (And.intro (And.intro ((@DOrigin)) (And.intro ((@DAttr)) ((@DNode)))) (And.intro (And.intro ((@DWay)) ((@DEntry))) (And.intro ((@DAr2_Int)) ((@mixed))))))
set_option maxHeartbeats 2000000 in
theorem ok_walk_Reach (a0 : Branch) (a1 : List Int) (r : List Bool) (hm0 : m_walk_Reach a0 a1 = some r) : Ok Try.prog 44 [encBranch a0, .sl 1 (a1.map int)] (.sl 1 (r.map bool)) := by
  unfold m_walk_Reach at hm0
  refine okF fc_walk_Reach (by simp) ?_
  unfold c_walk_Reach
  simp only [Y_walk_Reach, EV, ↓EVd, isCall, Nat.reduceAdd, Nat.reduceSub, Nat.reduceMul, Nat.reduceEqDiff, Nat.reduceBEq, Nat.reduceLT, Nat.reduceLeDiff, ↓reduceIte, reduceCtorEq, Nat.reduceShiftRight, Nat.reduceAnd, Nat.reduceBneDiff]
  refine S1_call (acallF fc_walk_walk (by simp) ?_) rfl
  unfold c_walk_walk
  rcases ho0 : iter (m_walk_Reach_b0 a0 a1) big (0, 0, [], [], ([] : List (Int × Int))) with _ | o0
  · rw [ho0] at hm0; simp only [Option.bind_none, reduceCtorEq] at hm0
  rw [ho0] at hm0; simp only [Option.bind_some] at hm0
  simp only [Y_walk_Reach, EV, ↓EVd, isCall, Nat.reduceAdd, Nat.reduceSub, Nat.reduceMul, Nat.reduceEqDiff, Nat.reduceBEq, Nat.reduceLT, Nat.reduceLeDiff, ↓reduceIte, reduceCtorEq, Nat.reduceShiftRight, Nat.reduceAnd, Nat.reduceBneDiff]
  obtain ⟨J0_0, hJ0_0⟩ : ∃ J : AS → Prop, J = fun s => ∃ v11 : List Way, ∃ v12 : List (Int × Int), ∃ v14 : List Ar2_Int, ∃ l10 : Nat, ∃ l13 : Nat, s.T 5 = .loc 12 4 0 0 ∧ s.H 0 = some (.row 26 1 [encBranch a0]) ∧ s.H 12 = some (.row 96 4 [.agg [.sl 13 (a0.nodes.map encNode), .msl l10 v11.length, .mp 10, .msl l13 v14.length]]) ∧ s.H l10 = some (.row 52 3 (v11.map encWay)) ∧ s.H 10 = some (.map (v12.map (kI .i64)) (v12.map fun p => .val (.int .i64 p.2))) ∧ s.H l13 = some (.row 68 2 (v14.map encAr2_Int)) ∧ 0 < s.nx ∧ 12 < s.nx ∧ l10 < s.nx ∧ 10 < s.nx ∧ l13 < s.nx ∧ 0 ≠ l10 ∧ 0 ≠ l13 ∧ 12 ≠ l10 ∧ 12 ≠ l13 ∧ l10 ≠ 10 ∧ l10 ≠ l13 ∧ 10 ≠ l13 ∧ (v11, v12, v14) = o0 := ⟨_, rfl⟩
  refine cwp_cut 0 J0_0 ?_ ?_
  rotate_left
  · clear ho0
    rintro ⟨T0, H0, x9⟩ hs
    rw [hJ0_0] at hs
    obtain ⟨v11, v12, v14, l10, l13, k0_0_0, k0_0_1, k0_0_2, k0_0_3, k0_0_4, k0_0_5, k0_0_6, k0_0_7, k0_0_8, k0_0_9, k0_0_10, k0_0_11, k0_0_12, k0_0_13, k0_0_14, k0_0_15, k0_0_16, k0_0_17, hq⟩ := hs
    subst hq
    try simp only at k0_0_0 k0_0_1 k0_0_2 k0_0_3 k0_0_4 k0_0_5 k0_0_6 k0_0_7 k0_0_8 k0_0_9 k0_0_10 k0_0_11 k0_0_12 k0_0_13 k0_0_14 k0_0_15 k0_0_16 k0_0_17
    try dsimp only at hm0
    have kk0_0 := And.intro (And.intro (And.intro (And.intro (And.intro ((k0_0_0)) ((k0_0_1))) (And.intro ((k0_0_2)) (And.intro ((k0_0_3)) ((k0_0_4))))) (And.intro (And.intro ((k0_0_5)) ((k0_0_6))) (And.intro ((ne2 k0_0_6)) (And.intro ((ne2' k0_0_6)) ((lt2 k0_0_6)))))) (And.intro (And.intro (And.intro ((k0_0_7)) ((ne2 k0_0_7))) (And.intro ((ne2' k0_0_7)) (And.intro ((lt2 k0_0_7)) ((k0_0_8))))) (And.intro (And.intro ((ne2 k0_0_8)) ((ne2' k0_0_8))) (And.intro ((lt2 k0_0_8)) (And.intro ((k0_0_9)) ((ne2 k0_0_9))))))) (And.intro (And.intro (And.intro (And.intro ((ne2' k0_0_9)) ((lt2 k0_0_9))) (And.intro ((k0_0_10)) (And.intro ((ne2 k0_0_10)) ((ne2' k0_0_10))))) (And.intro (And.intro ((lt2 k0_0_10)) ((k0_0_11))) (And.intro ((k0_0_11.symm)) (And.intro ((k0_0_12)) ((k0_0_12.symm)))))) (And.intro (And.intro (And.intro ((k0_0_13)) ((k0_0_13.symm))) (And.intro ((k0_0_14)) (And.intro ((k0_0_14.symm)) ((k0_0_15))))) (And.intro (And.intro ((k0_0_15.symm)) ((k0_0_16))) (And.intro ((k0_0_16.symm)) (And.intro ((k0_0_17)) ((k0_0_17.symm)))))))
    rcases h123 : m_walk_trail_reach a0 v11 with _ | v122
    · rw [h123] at hm0; simp only [Option.bind_none, reduceCtorEq] at hm0
    rw [h123] at hm0; simp only [Option.bind_some] at hm0
    simp only [kk0_0, Y_walk_Reach, EV, ↓EVd, isCall, Nat.reduceAdd, Nat.reduceSub, Nat.reduceMul, Nat.reduceEqDiff, Nat.reduceBEq, Nat.reduceLT, Nat.reduceLeDiff, ↓reduceIte, reduceCtorEq, Nat.reduceShiftRight, Nat.reduceAnd, Nat.reduceBneDiff]
    refine S1_okn 9 (okn_walk_trail_reach a0 v11 _ _ h123) rfl (frzs_cons (frz_loc (T := 96) (xs := [.agg [.sl 13 (a0.nodes.map encNode), .msl l10 v11.length, .mp 10, .msl l13 v14.length]]) (by first | rfl | simp only [kk0_0, Y_walk_Reach, EV, ↓EVd, isCall, Nat.reduceAdd, Nat.reduceSub, Nat.reduceMul, Nat.reduceEqDiff, Nat.reduceBEq, Nat.reduceLT, Nat.reduceLeDiff, ↓reduceIte, reduceCtorEq, Nat.reduceShiftRight, Nat.reduceAnd, Nat.reduceBneDiff]) rfl (frz_agg (frzs_cons (frz_closed (x := .sl 13 (a0.nodes.map encNode)) (by simp only [CLO]) _ _) (frzs_cons (frz_msl (T := 52) (sz := 3) (xs := (v11).map encWay) (by first | rfl | simp only [kk0_0, Y_walk_Reach, EV, ↓EVd, isCall, Nat.reduceAdd, Nat.reduceSub, Nat.reduceMul, Nat.reduceEqDiff, Nat.reduceBEq, Nat.reduceLT, Nat.reduceLeDiff, ↓reduceIte, reduceCtorEq, Nat.reduceShiftRight, Nat.reduceAnd, Nat.reduceBneDiff]) (by first | rfl | simp only [kk0_0, Y_walk_Reach, EV, ↓EVd, isCall, Nat.reduceAdd, Nat.reduceSub, Nat.reduceMul, Nat.reduceEqDiff, Nat.reduceBEq, Nat.reduceLT, Nat.reduceLeDiff, ↓reduceIte, reduceCtorEq, Nat.reduceShiftRight, Nat.reduceAnd, Nat.reduceBneDiff]) (frzs_closed (xs := (v11).map encWay) (by simp only [CLO]) _ _)) (frzs_cons (frz_mp _ _ _) (frzs_cons (frz_msl (T := 68) (sz := 2) (xs := (v14).map encAr2_Int) (by first | rfl | simp only [kk0_0, Y_walk_Reach, EV, ↓EVd, isCall, Nat.reduceAdd, Nat.reduceSub, Nat.reduceMul, Nat.reduceEqDiff, Nat.reduceBEq, Nat.reduceLT, Nat.reduceLeDiff, ↓reduceIte, reduceCtorEq, Nat.reduceShiftRight, Nat.reduceAnd, Nat.reduceBneDiff]) (by first | rfl | simp only [kk0_0, Y_walk_Reach, EV, ↓EVd, isCall, Nat.reduceAdd, Nat.reduceSub, Nat.reduceMul, Nat.reduceEqDiff, Nat.reduceBEq, Nat.reduceLT, Nat.reduceLeDiff, ↓reduceIte, reduceCtorEq, Nat.reduceShiftRight, Nat.reduceAnd, Nat.reduceBneDiff]) (frzs_closed (xs := (v14).map encAr2_Int) (by simp only [CLO]) _ _)) (frzs_nil))))))) (frzs_nil)) ?_
    simp only [Option.some.injEq] at hm0
    subst hm0
    simp only [kk0_0, Y_walk_Reach, EV, ↓EVd, isCall, Nat.reduceAdd, Nat.reduceSub, Nat.reduceMul, Nat.reduceEqDiff, Nat.reduceBEq, Nat.reduceLT, Nat.reduceLeDiff, ↓reduceIte, reduceCtorEq, Nat.reduceShiftRight, Nat.reduceAnd, Nat.reduceBneDiff]
    all_goals first | done | rfl | exact frzR_closed (by simp only [CLO])
  obtain ⟨I0, hI0⟩ : ∃ I : Nat → AS → Prop, I = fun k s => ∃ v2 : Int, ∃ v3 : Int, ∃ v5 : List Way, ∃ v7 : List Ar2_Int, ∃ v8 : List (Int × Int), ∃ l4 : Nat, ∃ l6 : Nat, s.T 5 = .loc 12 4 0 0 ∧ s.T 6 = int v2 ∧ s.T 13 = .sl 1 (a1.map int) ∧ s.T 14 = int (a1.length : Int) ∧ s.T 15 = int v3 ∧ s.H 0 = some (.row 26 1 [encBranch a0]) ∧ s.H 10 = some (.map (v8.map (kI .i64)) (v8.map fun p => .val (.int .i64 p.2))) ∧ s.H 12 = some (.row 96 4 [.agg [.sl 13 (a0.nodes.map encNode), .msl l4 v5.length, .mp 10, .msl l6 v7.length]]) ∧ s.H l4 = some (.row 52 3 (v5.map encWay)) ∧ s.H l6 = some (.row 68 2 (v7.map encAr2_Int)) ∧ 0 < s.nx ∧ 10 < s.nx ∧ 12 < s.nx ∧ l4 < s.nx ∧ l6 < s.nx ∧ 0 ≠ l4 ∧ 0 ≠ l6 ∧ 10 ≠ l4 ∧ 10 ≠ l6 ∧ 12 ≠ l4 ∧ 12 ≠ l6 ∧ l4 ≠ l6 ∧ iter (m_walk_Reach_b0 a0 a1) k (v2, v3, v5, v7, v8) = some o0 := ⟨_, rfl⟩
  refine cwp_iter I0 big ?_ ?_ ?_
  · rw [hI0]
    refine TI.by (Tn.adoptC 12 1 96 4 52 3 [.sl 13 (a0.nodes.map encNode), nilS, .mp 10, nilS] (by simp only [Y_walk_Reach, EV, ↓EVd, isCall, Nat.reduceAdd, Nat.reduceSub, Nat.reduceMul, Nat.reduceEqDiff, Nat.reduceBEq, Nat.reduceLT, Nat.reduceLeDiff, ↓reduceIte, reduceCtorEq, Nat.reduceShiftRight, Nat.reduceAnd, Nat.reduceBneDiff]) rfl) ?_
    refine TI.by (Tn.adoptC 12 3 96 4 68 2 [.sl 13 (a0.nodes.map encNode), .msl 18 ([] : List Way).length, .mp 10, nilS] (by simp only [Y_walk_Reach, EV, ↓EVd, isCall, Nat.reduceAdd, Nat.reduceSub, Nat.reduceMul, Nat.reduceEqDiff, Nat.reduceBEq, Nat.reduceLT, Nat.reduceLeDiff, ↓reduceIte, reduceCtorEq, Nat.reduceShiftRight, Nat.reduceAnd, Nat.reduceBneDiff]) rfl) ?_
    refine TI.here ⟨0, 0, ([] : List Way), ([] : List Ar2_Int), ([] : List (Int × Int)), 18, 19, ?_, ?_, ?_, ?_, ?_, ?_, ?_, ?_, ?_, ?_, ?_, ?_, ?_, ?_, ?_, ?_, ?_, ?_, ?_, ?_, ?_, ?_, ho0⟩
    all_goals first | omega | (simp only [Y_walk_Reach, EV, ↓EVd, isCall, Nat.reduceAdd, Nat.reduceSub, Nat.reduceMul, Nat.reduceEqDiff, Nat.reduceBEq, Nat.reduceLT, Nat.reduceLeDiff, ↓reduceIte, reduceCtorEq, Nat.reduceShiftRight, Nat.reduceAnd, Nat.reduceBneDiff]; done) | (simp only [Y_walk_Reach, EV, ↓EVd, isCall, Nat.reduceAdd, Nat.reduceSub, Nat.reduceMul, Nat.reduceEqDiff, Nat.reduceBEq, Nat.reduceLT, Nat.reduceLeDiff, ↓reduceIte, reduceCtorEq, Nat.reduceShiftRight, Nat.reduceAnd, Nat.reduceBneDiff]; omega) | (simp only [Y_walk_Reach, EV, ↓EVd, isCall, Nat.reduceAdd, Nat.reduceSub, Nat.reduceMul, Nat.reduceEqDiff, Nat.reduceBEq, Nat.reduceLT, Nat.reduceLeDiff, ↓reduceIte, reduceCtorEq, Nat.reduceShiftRight, Nat.reduceAnd, Nat.reduceBneDiff]; congr 1; omega)
  · rintro s hs
    rw [hI0] at hs
    obtain ⟨_, _, _, _, _, _, _, _, _, _, _, _, _, _, _, _, _, _, _, _, _, _, _, _, _, _, _, _, _, hz⟩ := hs
    simp only [iter_zero, reduceCtorEq] at hz
  · clear ho0
    rintro k ⟨T0, H0, x1⟩ hs
    rw [hI0] at hs
    obtain ⟨v2, v3, v5, v7, v8, l4, l6, k0_0, k0_1, k0_2, k0_3, k0_4, k0_5, k0_6, k0_7, k0_8, k0_9, k0_10, k0_11, k0_12, k0_13, k0_14, k0_15, k0_16, k0_17, k0_18, k0_19, k0_20, k0_21, hm1⟩ := hs
    try simp only at k0_0 k0_1 k0_2 k0_3 k0_4 k0_5 k0_6 k0_7 k0_8 k0_9 k0_10 k0_11 k0_12 k0_13 k0_14 k0_15 k0_16 k0_17 k0_18 k0_19 k0_20 k0_21
    apply cw_cwp
    rw [iter_succ] at hm1; simp only [m_walk_Reach_b0] at hm1
    have kk0 := And.intro (And.intro (And.intro (And.intro (And.intro ((k0_0)) ((k0_1))) (And.intro ((k0_2)) (And.intro ((k0_3)) ((k0_4))))) (And.intro (And.intro ((k0_5)) (And.intro ((k0_6)) ((k0_7)))) (And.intro ((k0_8)) (And.intro ((k0_9)) ((k0_10)))))) (And.intro (And.intro (And.intro ((ne2 k0_10)) ((ne2' k0_10))) (And.intro ((lt2 k0_10)) (And.intro ((k0_11)) ((ne2 k0_11))))) (And.intro (And.intro ((ne2' k0_11)) (And.intro ((lt2 k0_11)) ((k0_12)))) (And.intro ((ne2 k0_12)) (And.intro ((ne2' k0_12)) ((lt2 k0_12))))))) (And.intro (And.intro (And.intro (And.intro ((k0_13)) ((ne2 k0_13))) (And.intro ((ne2' k0_13)) (And.intro ((lt2 k0_13)) ((k0_14))))) (And.intro (And.intro ((ne2 k0_14)) (And.intro ((ne2' k0_14)) ((lt2 k0_14)))) (And.intro ((k0_15)) (And.intro ((k0_15.symm)) ((k0_16)))))) (And.intro (And.intro (And.intro ((k0_16.symm)) ((k0_17))) (And.intro ((k0_17.symm)) (And.intro ((k0_18)) ((k0_18.symm))))) (And.intro (And.intro ((k0_19)) (And.intro ((k0_19.symm)) ((k0_20)))) (And.intro ((k0_20.symm)) (And.intro ((k0_21)) ((k0_21.symm)))))))
    by_cases h15 : v3 < (a1.length : Int)
    · have e16 : (v3 < (a1.length : Int)) = True := eq_true h15
      rw [if_pos h15] at hm1
      rcases h18 : ix a1 v3 with _ | v17
      · rw [h18] at hm1; simp only [Option.bind_none, reduceCtorEq] at hm1
      rw [h18] at hm1; simp only [Option.bind_some] at hm1
      have e19 := eq_true (ix_nonneg h18)
      have e20 := ix_enc int h18
      rcases hp2 : m_walk_Reach_p1 a0 v5 v8 v17 with _ | ⟨v23, v24⟩
      · rw [hp2] at hm1; simp only [Option.bind_none, reduceCtorEq] at hm1
      rw [hp2] at hm1; simp only [Option.bind_some] at hm1
      rcases ho2 : iter (m_walk_Reach_b2 a0) (big + 1) (v2, v23, v7, v24) with _ | o2
      · rw [ho2] at hm1; simp only [Option.bind_none, reduceCtorEq] at hm1
      rw [ho2] at hm1; simp only [Option.bind_some] at hm1
      simp only [kk0, e16, e19, e20, Y_walk_Reach, EV, ↓EVd, isCall, Nat.reduceAdd, Nat.reduceSub, Nat.reduceMul, Nat.reduceEqDiff, Nat.reduceBEq, Nat.reduceLT, Nat.reduceLeDiff, ↓reduceIte, reduceCtorEq, Nat.reduceShiftRight, Nat.reduceAnd, Nat.reduceBneDiff]
      obtain ⟨J2_0, hJ2_0⟩ : ∃ J : AS → Prop, J = fun s => ∃ v34 : List Way, ∃ v35 : List (Int × Int), ∃ v37 : List Ar2_Int, ∃ v38 : Int, ∃ l33 : Nat, ∃ l36 : Nat, s.T 5 = .loc 12 4 0 0 ∧ s.T 6 = int v38 ∧ s.T 13 = .sl 1 (a1.map int) ∧ s.T 14 = int (a1.length : Int) ∧ s.T 15 = int v3 ∧ s.H 0 = some (.row 26 1 [encBranch a0]) ∧ s.H 12 = some (.row 96 4 [.agg [.sl 13 (a0.nodes.map encNode), .msl l33 v34.length, .mp 10, .msl l36 v37.length]]) ∧ s.H l33 = some (.row 52 3 (v34.map encWay)) ∧ s.H 10 = some (.map (v35.map (kI .i64)) (v35.map fun p => .val (.int .i64 p.2))) ∧ s.H l36 = some (.row 68 2 (v37.map encAr2_Int)) ∧ 0 < s.nx ∧ 12 < s.nx ∧ l33 < s.nx ∧ 10 < s.nx ∧ l36 < s.nx ∧ 0 ≠ l33 ∧ 0 ≠ l36 ∧ 12 ≠ l33 ∧ 12 ≠ l36 ∧ l33 ≠ 10 ∧ l33 ≠ l36 ∧ 10 ≠ l36 ∧ (v34, v35, v37, v38) = o2 := ⟨_, rfl⟩
      refine cwp_cutN J2_0 ?_ ?_
      rotate_left
      · clear ho2
        rintro ⟨T2, H2, x32⟩ hs
        rw [hJ2_0] at hs
        obtain ⟨v34, v35, v37, v38, l33, l36, k2_0_0, k2_0_1, k2_0_2, k2_0_3, k2_0_4, k2_0_5, k2_0_6, k2_0_7, k2_0_8, k2_0_9, k2_0_10, k2_0_11, k2_0_12, k2_0_13, k2_0_14, k2_0_15, k2_0_16, k2_0_17, k2_0_18, k2_0_19, k2_0_20, k2_0_21, hq⟩ := hs
        subst hq
        try simp only at k2_0_0 k2_0_1 k2_0_2 k2_0_3 k2_0_4 k2_0_5 k2_0_6 k2_0_7 k2_0_8 k2_0_9 k2_0_10 k2_0_11 k2_0_12 k2_0_13 k2_0_14 k2_0_15 k2_0_16 k2_0_17 k2_0_18 k2_0_19 k2_0_20 k2_0_21
        try dsimp only at hm1
        have kk2_0 := And.intro (And.intro (And.intro (And.intro (And.intro ((k2_0_0)) ((k2_0_1))) (And.intro ((k2_0_2)) (And.intro ((k2_0_3)) ((k2_0_4))))) (And.intro (And.intro ((k2_0_5)) (And.intro ((k2_0_6)) ((k2_0_7)))) (And.intro ((k2_0_8)) (And.intro ((k2_0_9)) ((k2_0_10)))))) (And.intro (And.intro (And.intro ((ne2 k2_0_10)) ((ne2' k2_0_10))) (And.intro ((lt2 k2_0_10)) (And.intro ((k2_0_11)) ((ne2 k2_0_11))))) (And.intro (And.intro ((ne2' k2_0_11)) (And.intro ((lt2 k2_0_11)) ((k2_0_12)))) (And.intro ((ne2 k2_0_12)) (And.intro ((ne2' k2_0_12)) ((lt2 k2_0_12))))))) (And.intro (And.intro (And.intro (And.intro ((k2_0_13)) ((ne2 k2_0_13))) (And.intro ((ne2' k2_0_13)) (And.intro ((lt2 k2_0_13)) ((k2_0_14))))) (And.intro (And.intro ((ne2 k2_0_14)) (And.intro ((ne2' k2_0_14)) ((lt2 k2_0_14)))) (And.intro ((k2_0_15)) (And.intro ((k2_0_15.symm)) ((k2_0_16)))))) (And.intro (And.intro (And.intro ((k2_0_16.symm)) ((k2_0_17))) (And.intro ((k2_0_17.symm)) (And.intro ((k2_0_18)) ((k2_0_18.symm))))) (And.intro (And.intro ((k2_0_19)) (And.intro ((k2_0_19.symm)) ((k2_0_20)))) (And.intro ((k2_0_20.symm)) (And.intro ((k2_0_21)) ((k2_0_21.symm)))))))
        try simp only [Option.bind_some] at hm1
        simp only [kk2_0, kk0, e16, e19, e20, Y_walk_Reach, EV, ↓EVd, isCall, Nat.reduceAdd, Nat.reduceSub, Nat.reduceMul, Nat.reduceEqDiff, Nat.reduceBEq, Nat.reduceLT, Nat.reduceLeDiff, ↓reduceIte, reduceCtorEq, Nat.reduceShiftRight, Nat.reduceAnd, Nat.reduceBneDiff]
        rw [hI0]
        refine TI.here ⟨v38, (wr (v3 + 1)), v34, v37, v35, l33, l36, ?_, ?_, ?_, ?_, ?_, ?_, ?_, ?_, ?_, ?_, ?_, ?_, ?_, ?_, ?_, ?_, ?_, ?_, ?_, ?_, ?_, ?_, hm1⟩
        all_goals first | omega | (simp only [kk2_0, kk0, e16, e19, e20, Y_walk_Reach, EV, ↓EVd, isCall, Nat.reduceAdd, Nat.reduceSub, Nat.reduceMul, Nat.reduceEqDiff, Nat.reduceBEq, Nat.reduceLT, Nat.reduceLeDiff, ↓reduceIte, reduceCtorEq, Nat.reduceShiftRight, Nat.reduceAnd, Nat.reduceBneDiff]; done) | (simp only [kk2_0, kk0, e16, e19, e20, Y_walk_Reach, EV, ↓EVd, isCall, Nat.reduceAdd, Nat.reduceSub, Nat.reduceMul, Nat.reduceEqDiff, Nat.reduceBEq, Nat.reduceLT, Nat.reduceLeDiff, ↓reduceIte, reduceCtorEq, Nat.reduceShiftRight, Nat.reduceAnd, Nat.reduceBneDiff]; omega) | (simp only [kk2_0, kk0, e16, e19, e20, Y_walk_Reach, EV, ↓EVd, isCall, Nat.reduceAdd, Nat.reduceSub, Nat.reduceMul, Nat.reduceEqDiff, Nat.reduceBEq, Nat.reduceLT, Nat.reduceLeDiff, ↓reduceIte, reduceCtorEq, Nat.reduceShiftRight, Nat.reduceAnd, Nat.reduceBneDiff]; congr 1; omega)
      obtain ⟨I2, hI2⟩ : ∃ I : Nat → AS → Prop, I = fun k s => ∃ v26 : Int, ∃ v28 : List Way, ∃ v30 : List Ar2_Int, ∃ v31 : List (Int × Int), ∃ l27 : Nat, ∃ l29 : Nat, s.T 5 = .loc 12 4 0 0 ∧ s.T 6 = int v26 ∧ s.T 13 = .sl 1 (a1.map int) ∧ s.T 14 = int (a1.length : Int) ∧ s.T 15 = int v3 ∧ s.H 0 = some (.row 26 1 [encBranch a0]) ∧ s.H 12 = some (.row 96 4 [.agg [.sl 13 (a0.nodes.map encNode), .msl l27 v28.length, .mp 10, .msl l29 v30.length]]) ∧ s.H 10 = some (.map (v31.map (kI .i64)) (v31.map fun p => .val (.int .i64 p.2))) ∧ s.H l27 = some (.row 52 3 (v28.map encWay)) ∧ s.H l29 = some (.row 68 2 (v30.map encAr2_Int)) ∧ 0 < s.nx ∧ 12 < s.nx ∧ 10 < s.nx ∧ l27 < s.nx ∧ l29 < s.nx ∧ 0 ≠ l27 ∧ 0 ≠ l29 ∧ 12 ≠ l27 ∧ 12 ≠ l29 ∧ 10 ≠ l27 ∧ 10 ≠ l29 ∧ l27 ≠ l29 ∧ iter (m_walk_Reach_b2 a0) k (v26, v28, v30, v31) = some o2 := ⟨_, rfl⟩
      refine cwp_scopeL 0 I2 big rfl ?_ ?_ ?_
      rotate_left
      · intro K2 hK2
        apply cw_cwp
        have hm2 := hp2
        unfold m_walk_Reach_p1 at hm2
        simp only [kk0, e16, e19, e20, Y_walk_Reach, EV, ↓EVd, isCall, Nat.reduceAdd, Nat.reduceSub, Nat.reduceMul, Nat.reduceEqDiff, Nat.reduceBEq, Nat.reduceLT, Nat.reduceLeDiff, ↓reduceIte, reduceCtorEq, Nat.reduceShiftRight, Nat.reduceAnd, Nat.reduceBneDiff]
        refine S1_call (acallF fc_walk_trail_node (by simp) ?_) rfl
        unfold c_walk_trail_node
        by_cases h103 : v17 < 1
        · have e104 : (v17 < 1) = True := eq_true h103
          rw [if_pos h103] at hm2
          have e105 : ((0 : Int) = 1) = False := by decide
          try simp only [Option.some.injEq, Prod.mk.injEq] at hm2
          obtain ⟨rfl, rfl⟩ := hm2
          simp only [kk0, e16, e19, e20, e104, e105, Y_walk_Reach, EV, ↓EVd, isCall, Nat.reduceAdd, Nat.reduceSub, Nat.reduceMul, Nat.reduceEqDiff, Nat.reduceBEq, Nat.reduceLT, Nat.reduceLeDiff, ↓reduceIte, reduceCtorEq, Nat.reduceShiftRight, Nat.reduceAnd, Nat.reduceBneDiff]
          apply hK2; rw [hI2]
          refine TI.here ⟨v2, v5, v7, v8, l4, l6, ?_, ?_, ?_, ?_, ?_, ?_, ?_, ?_, ?_, ?_, ?_, ?_, ?_, ?_, ?_, ?_, ?_, ?_, ?_, ?_, ?_, ?_, ho2⟩
          all_goals first | omega | (simp only [kk0, e16, e19, e20, e104, e105, Y_walk_Reach, EV, ↓EVd, isCall, Nat.reduceAdd, Nat.reduceSub, Nat.reduceMul, Nat.reduceEqDiff, Nat.reduceBEq, Nat.reduceLT, Nat.reduceLeDiff, ↓reduceIte, reduceCtorEq, Nat.reduceShiftRight, Nat.reduceAnd, Nat.reduceBneDiff]; done) | (simp only [kk0, e16, e19, e20, e104, e105, Y_walk_Reach, EV, ↓EVd, isCall, Nat.reduceAdd, Nat.reduceSub, Nat.reduceMul, Nat.reduceEqDiff, Nat.reduceBEq, Nat.reduceLT, Nat.reduceLeDiff, ↓reduceIte, reduceCtorEq, Nat.reduceShiftRight, Nat.reduceAnd, Nat.reduceBneDiff]; omega) | (simp only [kk0, e16, e19, e20, e104, e105, Y_walk_Reach, EV, ↓EVd, isCall, Nat.reduceAdd, Nat.reduceSub, Nat.reduceMul, Nat.reduceEqDiff, Nat.reduceBEq, Nat.reduceLT, Nat.reduceLeDiff, ↓reduceIte, reduceCtorEq, Nat.reduceShiftRight, Nat.reduceAnd, Nat.reduceBneDiff]; congr 1; omega)
        · have e104 : (v17 < 1) = False := eq_false h103
          rw [if_neg h103] at hm2
          by_cases h106 : (a0.nodes.length : Int) < v17
          · have e107 : ((a0.nodes.length : Int) < v17) = True := eq_true h106
            rw [if_pos h106] at hm2
            have e108 : ((0 : Int) = 1) = False := by decide
            try simp only [Option.some.injEq, Prod.mk.injEq] at hm2
            obtain ⟨rfl, rfl⟩ := hm2
            simp only [kk0, e16, e19, e20, e104, e107, e108, Y_walk_Reach, EV, ↓EVd, isCall, Nat.reduceAdd, Nat.reduceSub, Nat.reduceMul, Nat.reduceEqDiff, Nat.reduceBEq, Nat.reduceLT, Nat.reduceLeDiff, ↓reduceIte, reduceCtorEq, Nat.reduceShiftRight, Nat.reduceAnd, Nat.reduceBneDiff]
            apply hK2; rw [hI2]
            refine TI.here ⟨v2, v5, v7, v8, l4, l6, ?_, ?_, ?_, ?_, ?_, ?_, ?_, ?_, ?_, ?_, ?_, ?_, ?_, ?_, ?_, ?_, ?_, ?_, ?_, ?_, ?_, ?_, ho2⟩
            all_goals first | omega | (simp only [kk0, e16, e19, e20, e104, e107, e108, Y_walk_Reach, EV, ↓EVd, isCall, Nat.reduceAdd, Nat.reduceSub, Nat.reduceMul, Nat.reduceEqDiff, Nat.reduceBEq, Nat.reduceLT, Nat.reduceLeDiff, ↓reduceIte, reduceCtorEq, Nat.reduceShiftRight, Nat.reduceAnd, Nat.reduceBneDiff]; done) | (simp only [kk0, e16, e19, e20, e104, e107, e108, Y_walk_Reach, EV, ↓EVd, isCall, Nat.reduceAdd, Nat.reduceSub, Nat.reduceMul, Nat.reduceEqDiff, Nat.reduceBEq, Nat.reduceLT, Nat.reduceLeDiff, ↓reduceIte, reduceCtorEq, Nat.reduceShiftRight, Nat.reduceAnd, Nat.reduceBneDiff]; omega) | (simp only [kk0, e16, e19, e20, e104, e107, e108, Y_walk_Reach, EV, ↓EVd, isCall, Nat.reduceAdd, Nat.reduceSub, Nat.reduceMul, Nat.reduceEqDiff, Nat.reduceBEq, Nat.reduceLT, Nat.reduceLeDiff, ↓reduceIte, reduceCtorEq, Nat.reduceShiftRight, Nat.reduceAnd, Nat.reduceBneDiff]; congr 1; omega)
          · have e107 : ((a0.nodes.length : Int) < v17) = False := eq_false h106
            rw [if_neg h106] at hm2
            rcases h110 : ix a0.nodes (wr (v17 - 1)) with _ | v109
            · rw [h110] at hm2; simp only [Option.bind_none, reduceCtorEq] at hm2
            rw [h110] at hm2; simp only [Option.bind_some] at hm2
            have e111 := eq_true (ix_nonneg h110)
            have e112 := ix_enc encNode h110
            by_cases h113 : v109.kind = 1
            · have e114 : (v109.kind = 1) = True := eq_true h113
              rw [if_pos h113] at hm2
              have e115 : (.agg [int v17, int (-1), str noBytes] : AV) = encWay (⟨v17, (-1), noBytes⟩ : Way) := _root_.id rfl
              simp only [kk0, e16, e19, e20, e104, e107, e111, e112, e114, e115, Y_walk_Reach, EV, ↓EVd, isCall, Nat.reduceAdd, Nat.reduceSub, Nat.reduceMul, Nat.reduceEqDiff, Nat.reduceBEq, Nat.reduceLT, Nat.reduceLeDiff, ↓reduceIte, reduceCtorEq, Nat.reduceShiftRight, Nat.reduceAnd, Nat.reduceBneDiff]
              refine S1_call (acallF fc_walk_trail_come (by simp) ?_) rfl
              unfold c_walk_trail_come
              by_cases h116 : 0 < (mget v8 v17)
              · have e117 : (0 < (mget v8 v17)) = True := eq_true h116
                rw [if_pos h116] at hm2
                try simp only [Option.some.injEq, Prod.mk.injEq] at hm2
                obtain ⟨rfl, rfl⟩ := hm2
                simp only [kk0, e16, e19, e20, e104, e107, e111, e112, e114, e115, e117, Y_walk_Reach, EV, ↓EVd, isCall, Nat.reduceAdd, Nat.reduceSub, Nat.reduceMul, Nat.reduceEqDiff, Nat.reduceBEq, Nat.reduceLT, Nat.reduceLeDiff, ↓reduceIte, reduceCtorEq, Nat.reduceShiftRight, Nat.reduceAnd, Nat.reduceBneDiff]
                apply hK2; rw [hI2]
                refine TI.here ⟨v2, v5, v7, v8, l4, l6, ?_, ?_, ?_, ?_, ?_, ?_, ?_, ?_, ?_, ?_, ?_, ?_, ?_, ?_, ?_, ?_, ?_, ?_, ?_, ?_, ?_, ?_, ho2⟩
                all_goals first | omega | (simp only [kk0, e16, e19, e20, e104, e107, e111, e112, e114, e115, e117, Y_walk_Reach, EV, ↓EVd, isCall, Nat.reduceAdd, Nat.reduceSub, Nat.reduceMul, Nat.reduceEqDiff, Nat.reduceBEq, Nat.reduceLT, Nat.reduceLeDiff, ↓reduceIte, reduceCtorEq, Nat.reduceShiftRight, Nat.reduceAnd, Nat.reduceBneDiff]; done) | (simp only [kk0, e16, e19, e20, e104, e107, e111, e112, e114, e115, e117, Y_walk_Reach, EV, ↓EVd, isCall, Nat.reduceAdd, Nat.reduceSub, Nat.reduceMul, Nat.reduceEqDiff, Nat.reduceBEq, Nat.reduceLT, Nat.reduceLeDiff, ↓reduceIte, reduceCtorEq, Nat.reduceShiftRight, Nat.reduceAnd, Nat.reduceBneDiff]; omega) | (simp only [kk0, e16, e19, e20, e104, e107, e111, e112, e114, e115, e117, Y_walk_Reach, EV, ↓EVd, isCall, Nat.reduceAdd, Nat.reduceSub, Nat.reduceMul, Nat.reduceEqDiff, Nat.reduceBEq, Nat.reduceLT, Nat.reduceLeDiff, ↓reduceIte, reduceCtorEq, Nat.reduceShiftRight, Nat.reduceAnd, Nat.reduceBneDiff]; congr 1; omega)
              · have e117 : (0 < (mget v8 v17)) = False := eq_false h116
                rw [if_neg h116] at hm2
                rcases h119 : ap 32 v5 ([(⟨v17, (-1), noBytes⟩ : Way)] : List Way) with _ | h119u
                · rw [h119] at hm2; simp only [Option.bind_none, reduceCtorEq] at hm2
                rw [h119] at hm2; simp only [Option.bind_some] at hm2
                have e120 := eq_true (ap_some h119).2.1
                have e121 := eq_true (ap_some h119).2.2
                try simp only [ZL] at e120 e121
                try simp only [Option.some.injEq, Prod.mk.injEq] at hm2
                obtain ⟨rfl, rfl⟩ := hm2
                simp only [kk0, e16, e19, e20, e104, e107, e111, e112, e114, e115, e117, e120, e121, Y_walk_Reach, EV, ↓EVd, isCall, Nat.reduceAdd, Nat.reduceSub, Nat.reduceMul, Nat.reduceEqDiff, Nat.reduceBEq, Nat.reduceLT, Nat.reduceLeDiff, ↓reduceIte, reduceCtorEq, Nat.reduceShiftRight, Nat.reduceAnd, Nat.reduceBneDiff]
                apply hK2; rw [hI2]
                refine TI.here ⟨v2, (v5 ++ ([(⟨v17, (-1), noBytes⟩ : Way)] : List Way)), v7, (mset v8 v17 (wr ((mget v8 v17) + 1))), (x1 + 62), l6, ?_, ?_, ?_, ?_, ?_, ?_, ?_, ?_, ?_, ?_, ?_, ?_, ?_, ?_, ?_, ?_, ?_, ?_, ?_, ?_, ?_, ?_, ho2⟩
                all_goals first | omega | (simp only [kk0, e16, e19, e20, e104, e107, e111, e112, e114, e115, e117, e120, e121, Y_walk_Reach, EV, ↓EVd, isCall, Nat.reduceAdd, Nat.reduceSub, Nat.reduceMul, Nat.reduceEqDiff, Nat.reduceBEq, Nat.reduceLT, Nat.reduceLeDiff, ↓reduceIte, reduceCtorEq, Nat.reduceShiftRight, Nat.reduceAnd, Nat.reduceBneDiff]; done) | (simp only [kk0, e16, e19, e20, e104, e107, e111, e112, e114, e115, e117, e120, e121, Y_walk_Reach, EV, ↓EVd, isCall, Nat.reduceAdd, Nat.reduceSub, Nat.reduceMul, Nat.reduceEqDiff, Nat.reduceBEq, Nat.reduceLT, Nat.reduceLeDiff, ↓reduceIte, reduceCtorEq, Nat.reduceShiftRight, Nat.reduceAnd, Nat.reduceBneDiff]; omega) | (simp only [kk0, e16, e19, e20, e104, e107, e111, e112, e114, e115, e117, e120, e121, Y_walk_Reach, EV, ↓EVd, isCall, Nat.reduceAdd, Nat.reduceSub, Nat.reduceMul, Nat.reduceEqDiff, Nat.reduceBEq, Nat.reduceLT, Nat.reduceLeDiff, ↓reduceIte, reduceCtorEq, Nat.reduceShiftRight, Nat.reduceAnd, Nat.reduceBneDiff]; congr 1; omega)
            · have e114 : (v109.kind = 1) = False := eq_false h113
              rw [if_neg h113] at hm2
              try simp only [Option.some.injEq, Prod.mk.injEq] at hm2
              obtain ⟨rfl, rfl⟩ := hm2
              simp only [kk0, e16, e19, e20, e104, e107, e111, e112, e114, Y_walk_Reach, EV, ↓EVd, isCall, Nat.reduceAdd, Nat.reduceSub, Nat.reduceMul, Nat.reduceEqDiff, Nat.reduceBEq, Nat.reduceLT, Nat.reduceLeDiff, ↓reduceIte, reduceCtorEq, Nat.reduceShiftRight, Nat.reduceAnd, Nat.reduceBneDiff]
              apply hK2; rw [hI2]
              refine TI.here ⟨v2, v5, v7, v8, l4, l6, ?_, ?_, ?_, ?_, ?_, ?_, ?_, ?_, ?_, ?_, ?_, ?_, ?_, ?_, ?_, ?_, ?_, ?_, ?_, ?_, ?_, ?_, ho2⟩
              all_goals first | omega | (simp only [kk0, e16, e19, e20, e104, e107, e111, e112, e114, Y_walk_Reach, EV, ↓EVd, isCall, Nat.reduceAdd, Nat.reduceSub, Nat.reduceMul, Nat.reduceEqDiff, Nat.reduceBEq, Nat.reduceLT, Nat.reduceLeDiff, ↓reduceIte, reduceCtorEq, Nat.reduceShiftRight, Nat.reduceAnd, Nat.reduceBneDiff]; done) | (simp only [kk0, e16, e19, e20, e104, e107, e111, e112, e114, Y_walk_Reach, EV, ↓EVd, isCall, Nat.reduceAdd, Nat.reduceSub, Nat.reduceMul, Nat.reduceEqDiff, Nat.reduceBEq, Nat.reduceLT, Nat.reduceLeDiff, ↓reduceIte, reduceCtorEq, Nat.reduceShiftRight, Nat.reduceAnd, Nat.reduceBneDiff]; omega) | (simp only [kk0, e16, e19, e20, e104, e107, e111, e112, e114, Y_walk_Reach, EV, ↓EVd, isCall, Nat.reduceAdd, Nat.reduceSub, Nat.reduceMul, Nat.reduceEqDiff, Nat.reduceBEq, Nat.reduceLT, Nat.reduceLeDiff, ↓reduceIte, reduceCtorEq, Nat.reduceShiftRight, Nat.reduceAnd, Nat.reduceBneDiff]; congr 1; omega)
      rotate_left
      · rintro s hs
        rw [hI2] at hs
        obtain ⟨_, _, _, _, _, _, _, _, _, _, _, _, _, _, _, _, _, _, _, _, _, _, _, _, _, _, _, _, hz⟩ := hs
        simp only [iter_zero, reduceCtorEq] at hz
      · clear ho2
        rintro k ⟨T2, H2, x25⟩ hs
        rw [hI2] at hs
        obtain ⟨v26, v28, v30, v31, l27, l29, k2_0, k2_1, k2_2, k2_3, k2_4, k2_5, k2_6, k2_7, k2_8, k2_9, k2_10, k2_11, k2_12, k2_13, k2_14, k2_15, k2_16, k2_17, k2_18, k2_19, k2_20, k2_21, hm2⟩ := hs
        try simp only at k2_0 k2_1 k2_2 k2_3 k2_4 k2_5 k2_6 k2_7 k2_8 k2_9 k2_10 k2_11 k2_12 k2_13 k2_14 k2_15 k2_16 k2_17 k2_18 k2_19 k2_20 k2_21
        apply cw_cwp
        rw [iter_succ] at hm2; simp only [m_walk_Reach_b2] at hm2
        have kk2 := And.intro (And.intro (And.intro (And.intro (And.intro ((k2_0)) ((k2_1))) (And.intro ((k2_2)) (And.intro ((k2_3)) ((k2_4))))) (And.intro (And.intro ((k2_5)) (And.intro ((k2_6)) ((k2_7)))) (And.intro ((k2_8)) (And.intro ((k2_9)) ((k2_10)))))) (And.intro (And.intro (And.intro ((ne2 k2_10)) ((ne2' k2_10))) (And.intro ((lt2 k2_10)) (And.intro ((k2_11)) ((ne2 k2_11))))) (And.intro (And.intro ((ne2' k2_11)) (And.intro ((lt2 k2_11)) ((k2_12)))) (And.intro ((ne2 k2_12)) (And.intro ((ne2' k2_12)) ((lt2 k2_12))))))) (And.intro (And.intro (And.intro (And.intro ((k2_13)) ((ne2 k2_13))) (And.intro ((ne2' k2_13)) (And.intro ((lt2 k2_13)) ((k2_14))))) (And.intro (And.intro ((ne2 k2_14)) (And.intro ((ne2' k2_14)) ((lt2 k2_14)))) (And.intro ((k2_15)) (And.intro ((k2_15.symm)) ((k2_16)))))) (And.intro (And.intro (And.intro ((k2_16.symm)) ((k2_17))) (And.intro ((k2_17.symm)) (And.intro ((k2_18)) ((k2_18.symm))))) (And.intro (And.intro ((k2_19)) (And.intro ((k2_19.symm)) ((k2_20)))) (And.intro ((k2_20.symm)) (And.intro ((k2_21)) ((k2_21.symm)))))))
        by_cases h39 : v26 < (v28.length : Int)
        · have e40 : (v26 < (v28.length : Int)) = True := eq_true h39
          rw [if_pos h39] at hm2
          simp only [kk2, kk0, e16, e19, e20, e40, Y_walk_Reach, EV, ↓EVd, isCall, Nat.reduceAdd, Nat.reduceSub, Nat.reduceMul, Nat.reduceEqDiff, Nat.reduceBEq, Nat.reduceLT, Nat.reduceLeDiff, ↓reduceIte, reduceCtorEq, Nat.reduceShiftRight, Nat.reduceAnd, Nat.reduceBneDiff]
          refine S1_call (acallF fc_walk_trail_enter (by simp) ?_) rfl
          unfold c_walk_trail_enter
          rcases h42 : ix v28 v26 with _ | v41
          · rw [h42] at hm2; simp only [Option.bind_none, reduceCtorEq] at hm2
          rw [h42] at hm2; simp only [Option.bind_some] at hm2
          have e43 := eq_true (ix_nonneg h42)
          have e44 := eq_true (ix_lt h42)
          have e45 := ix_enc encWay h42
          simp only [kk2, kk0, e16, e19, e20, e40, e43, e44, e45, Y_walk_Reach, EV, ↓EVd, isCall, Nat.reduceAdd, Nat.reduceSub, Nat.reduceMul, Nat.reduceEqDiff, Nat.reduceBEq, Nat.reduceLT, Nat.reduceLeDiff, ↓reduceIte, reduceCtorEq, Nat.reduceShiftRight, Nat.reduceAnd, Nat.reduceBneDiff]
          refine S1_call (acallF fc_walk_trail_node (by simp) ?_) rfl
          unfold c_walk_trail_node
          by_cases h46 : v41.ino < 1
          · have e47 : (v41.ino < 1) = True := eq_true h46
            rw [if_pos h46] at hm2
            rcases ho3 : iter (m_walk_Reach_b3) big () with _ | o3
            · rw [ho3] at hm2; simp only [Option.bind_none, reduceCtorEq] at hm2
            rw [ho3] at hm2; simp only [Option.bind_some] at hm2
            simp only [kk2, kk0, e16, e19, e20, e40, e43, e44, e45, e47, Y_walk_Reach, EV, ↓EVd, isCall, Nat.reduceAdd, Nat.reduceSub, Nat.reduceMul, Nat.reduceEqDiff, Nat.reduceBEq, Nat.reduceLT, Nat.reduceLeDiff, ↓reduceIte, reduceCtorEq, Nat.reduceShiftRight, Nat.reduceAnd, Nat.reduceBneDiff]
            obtain ⟨J3_0, hJ3_0⟩ : ∃ J : AS → Prop, J = fun s => s.H 0 = some (.row 26 1 [encBranch a0]) ∧ s.H 12 = some (.row 96 4 [.agg [.sl 13 (a0.nodes.map encNode), .msl l27 v28.length, .mp 10, .msl l29 v30.length]]) ∧ s.H l27 = some (.row 52 3 (v28.map encWay)) ∧ s.H 10 = some (.map (v31.map (kI .i64)) (v31.map fun p => .val (.int .i64 p.2))) ∧ s.H l29 = some (.row 68 2 (v30.map encAr2_Int)) ∧ 0 < s.nx ∧ 12 < s.nx ∧ l27 < s.nx ∧ 10 < s.nx ∧ l29 < s.nx ∧ 0 ≠ l27 ∧ 0 ≠ l29 ∧ 12 ≠ l27 ∧ 12 ≠ l29 ∧ l27 ≠ 10 ∧ l27 ≠ l29 ∧ 10 ≠ l29 ∧ () = o3 := ⟨_, rfl⟩
            refine cwp_cut 0 J3_0 ?_ ?_
            rotate_left
            · clear ho3
              rintro ⟨T3, H3, x49⟩ hs
              rw [hJ3_0] at hs
              obtain ⟨k3_0_0, k3_0_1, k3_0_2, k3_0_3, k3_0_4, k3_0_5, k3_0_6, k3_0_7, k3_0_8, k3_0_9, k3_0_10, k3_0_11, k3_0_12, k3_0_13, k3_0_14, k3_0_15, k3_0_16, hq⟩ := hs
              subst hq
              try simp only at k3_0_0 k3_0_1 k3_0_2 k3_0_3 k3_0_4 k3_0_5 k3_0_6 k3_0_7 k3_0_8 k3_0_9 k3_0_10 k3_0_11 k3_0_12 k3_0_13 k3_0_14 k3_0_15 k3_0_16
              try dsimp only at hm2
              have kk3_0 := And.intro (And.intro (And.intro (And.intro (And.intro ((k3_0_0)) ((k3_0_1))) (And.intro ((k3_0_2)) ((k3_0_3)))) (And.intro (And.intro ((k3_0_4)) ((k3_0_5))) (And.intro ((ne2 k3_0_5)) (And.intro ((ne2' k3_0_5)) ((lt2 k3_0_5)))))) (And.intro (And.intro (And.intro ((k3_0_6)) ((ne2 k3_0_6))) (And.intro ((ne2' k3_0_6)) (And.intro ((lt2 k3_0_6)) ((k3_0_7))))) (And.intro (And.intro ((ne2 k3_0_7)) ((ne2' k3_0_7))) (And.intro ((lt2 k3_0_7)) (And.intro ((k3_0_8)) ((ne2 k3_0_8))))))) (And.intro (And.intro (And.intro (And.intro ((ne2' k3_0_8)) ((lt2 k3_0_8))) (And.intro ((k3_0_9)) (And.intro ((ne2 k3_0_9)) ((ne2' k3_0_9))))) (And.intro (And.intro ((lt2 k3_0_9)) ((k3_0_10))) (And.intro ((k3_0_10.symm)) (And.intro ((k3_0_11)) ((k3_0_11.symm)))))) (And.intro (And.intro (And.intro ((k3_0_12)) ((k3_0_12.symm))) (And.intro ((k3_0_13)) (And.intro ((k3_0_13.symm)) ((k3_0_14))))) (And.intro (And.intro ((k3_0_14.symm)) ((k3_0_15))) (And.intro ((k3_0_15.symm)) (And.intro ((k3_0_16)) ((k3_0_16.symm)))))))
              try simp only [Option.bind_some] at hm2
              simp only [kk3_0, kk2, kk0, e16, e19, e20, e40, e43, e44, e45, e47, Y_walk_Reach, EV, ↓EVd, isCall, Nat.reduceAdd, Nat.reduceSub, Nat.reduceMul, Nat.reduceEqDiff, Nat.reduceBEq, Nat.reduceLT, Nat.reduceLeDiff, ↓reduceIte, reduceCtorEq, Nat.reduceShiftRight, Nat.reduceAnd, Nat.reduceBneDiff]
              rw [hI2]
              refine TI.here ⟨(wr (v26 + 1)), v28, v30, v31, l27, l29, ?_, ?_, ?_, ?_, ?_, ?_, ?_, ?_, ?_, ?_, ?_, ?_, ?_, ?_, ?_, ?_, ?_, ?_, ?_, ?_, ?_, ?_, hm2⟩
              all_goals first | omega | (simp only [kk3_0, kk2, kk0, e16, e19, e20, e40, e43, e44, e45, e47, Y_walk_Reach, EV, ↓EVd, isCall, Nat.reduceAdd, Nat.reduceSub, Nat.reduceMul, Nat.reduceEqDiff, Nat.reduceBEq, Nat.reduceLT, Nat.reduceLeDiff, ↓reduceIte, reduceCtorEq, Nat.reduceShiftRight, Nat.reduceAnd, Nat.reduceBneDiff]; done) | (simp only [kk3_0, kk2, kk0, e16, e19, e20, e40, e43, e44, e45, e47, Y_walk_Reach, EV, ↓EVd, isCall, Nat.reduceAdd, Nat.reduceSub, Nat.reduceMul, Nat.reduceEqDiff, Nat.reduceBEq, Nat.reduceLT, Nat.reduceLeDiff, ↓reduceIte, reduceCtorEq, Nat.reduceShiftRight, Nat.reduceAnd, Nat.reduceBneDiff]; omega) | (simp only [kk3_0, kk2, kk0, e16, e19, e20, e40, e43, e44, e45, e47, Y_walk_Reach, EV, ↓EVd, isCall, Nat.reduceAdd, Nat.reduceSub, Nat.reduceMul, Nat.reduceEqDiff, Nat.reduceBEq, Nat.reduceLT, Nat.reduceLeDiff, ↓reduceIte, reduceCtorEq, Nat.reduceShiftRight, Nat.reduceAnd, Nat.reduceBneDiff]; congr 1; omega)
            obtain ⟨I3, hI3⟩ : ∃ I : Nat → AS → Prop, I = fun k s => s.T 0 = .loc 12 4 0 0 ∧ s.T 1 = int v26 ∧ s.T 4 = int v41.ino ∧ s.T 18 = nilS ∧ s.T 19 = int 0 ∧ s.T 20 = int 0 ∧ s.H 0 = some (.row 26 1 [encBranch a0]) ∧ s.H 12 = some (.row 96 4 [.agg [.sl 13 (a0.nodes.map encNode), .msl l27 v28.length, .mp 10, .msl l29 v30.length]]) ∧ s.H 10 = some (.map (v31.map (kI .i64)) (v31.map fun p => .val (.int .i64 p.2))) ∧ s.H l27 = some (.row 52 3 (v28.map encWay)) ∧ s.H l29 = some (.row 68 2 (v30.map encAr2_Int)) ∧ 0 < s.nx ∧ 12 < s.nx ∧ 10 < s.nx ∧ l27 < s.nx ∧ l29 < s.nx ∧ 0 ≠ l27 ∧ 0 ≠ l29 ∧ 12 ≠ l27 ∧ 12 ≠ l29 ∧ 10 ≠ l27 ∧ 10 ≠ l29 ∧ l27 ≠ l29 ∧ iter (m_walk_Reach_b3) k () = some o3 := ⟨_, rfl⟩
            refine cwp_iter I3 big ?_ ?_ ?_
            · rw [hI3]
              refine TI.here ⟨?_, ?_, ?_, ?_, ?_, ?_, ?_, ?_, ?_, ?_, ?_, ?_, ?_, ?_, ?_, ?_, ?_, ?_, ?_, ?_, ?_, ?_, ?_, ho3⟩
              all_goals first | omega | (simp only [kk2, kk0, e16, e19, e20, e40, e43, e44, e45, e47, Y_walk_Reach, EV, ↓EVd, isCall, Nat.reduceAdd, Nat.reduceSub, Nat.reduceMul, Nat.reduceEqDiff, Nat.reduceBEq, Nat.reduceLT, Nat.reduceLeDiff, ↓reduceIte, reduceCtorEq, Nat.reduceShiftRight, Nat.reduceAnd, Nat.reduceBneDiff]; done) | (simp only [kk2, kk0, e16, e19, e20, e40, e43, e44, e45, e47, Y_walk_Reach, EV, ↓EVd, isCall, Nat.reduceAdd, Nat.reduceSub, Nat.reduceMul, Nat.reduceEqDiff, Nat.reduceBEq, Nat.reduceLT, Nat.reduceLeDiff, ↓reduceIte, reduceCtorEq, Nat.reduceShiftRight, Nat.reduceAnd, Nat.reduceBneDiff]; omega) | (simp only [kk2, kk0, e16, e19, e20, e40, e43, e44, e45, e47, Y_walk_Reach, EV, ↓EVd, isCall, Nat.reduceAdd, Nat.reduceSub, Nat.reduceMul, Nat.reduceEqDiff, Nat.reduceBEq, Nat.reduceLT, Nat.reduceLeDiff, ↓reduceIte, reduceCtorEq, Nat.reduceShiftRight, Nat.reduceAnd, Nat.reduceBneDiff]; congr 1; omega)
            · rintro s hs
              rw [hI3] at hs
              obtain ⟨_, _, _, _, _, _, _, _, _, _, _, _, _, _, _, _, _, _, _, _, _, _, _, hz⟩ := hs
              simp only [iter_zero, reduceCtorEq] at hz
            · clear ho3
              rintro k ⟨T3, H3, x48⟩ hs
              rw [hI3] at hs
              obtain ⟨k3_0, k3_1, k3_2, k3_3, k3_4, k3_5, k3_6, k3_7, k3_8, k3_9, k3_10, k3_11, k3_12, k3_13, k3_14, k3_15, k3_16, k3_17, k3_18, k3_19, k3_20, k3_21, k3_22, hm3⟩ := hs
              try simp only at k3_0 k3_1 k3_2 k3_3 k3_4 k3_5 k3_6 k3_7 k3_8 k3_9 k3_10 k3_11 k3_12 k3_13 k3_14 k3_15 k3_16 k3_17 k3_18 k3_19 k3_20 k3_21 k3_22
              apply cw_cwp
              rw [iter_succ] at hm3; simp only [m_walk_Reach_b3] at hm3
              have kk3 := And.intro (And.intro (And.intro (And.intro (And.intro ((k3_0)) ((k3_1))) (And.intro ((k3_2)) (And.intro ((k3_3)) ((k3_4))))) (And.intro (And.intro ((k3_5)) (And.intro ((k3_6)) ((k3_7)))) (And.intro ((k3_8)) (And.intro ((k3_9)) ((k3_10)))))) (And.intro (And.intro (And.intro ((k3_11)) ((ne2 k3_11))) (And.intro ((ne2' k3_11)) (And.intro ((lt2 k3_11)) ((k3_12))))) (And.intro (And.intro ((ne2 k3_12)) (And.intro ((ne2' k3_12)) ((lt2 k3_12)))) (And.intro ((k3_13)) (And.intro ((ne2 k3_13)) ((ne2' k3_13))))))) (And.intro (And.intro (And.intro (And.intro ((lt2 k3_13)) ((k3_14))) (And.intro ((ne2 k3_14)) (And.intro ((ne2' k3_14)) ((lt2 k3_14))))) (And.intro (And.intro ((k3_15)) (And.intro ((ne2 k3_15)) ((ne2' k3_15)))) (And.intro ((lt2 k3_15)) (And.intro ((k3_16)) ((k3_16.symm)))))) (And.intro (And.intro (And.intro ((k3_17)) (And.intro ((k3_17.symm)) ((k3_18)))) (And.intro ((k3_18.symm)) (And.intro ((k3_19)) ((k3_19.symm))))) (And.intro (And.intro ((k3_20)) (And.intro ((k3_20.symm)) ((k3_21)))) (And.intro ((k3_21.symm)) (And.intro ((k3_22)) ((k3_22.symm)))))))
              have e50 : ((0 : Int) < 0) = False := by decide
              try simp only [Option.bind_some, Option.some.injEq] at hm3
              simp only [kk3, kk2, kk0, e16, e19, e20, e40, e43, e44, e45, e47, e50, Y_walk_Reach, EV, ↓EVd, isCall, Nat.reduceAdd, Nat.reduceSub, Nat.reduceMul, Nat.reduceEqDiff, Nat.reduceBEq, Nat.reduceLT, Nat.reduceLeDiff, ↓reduceIte, reduceCtorEq, Nat.reduceShiftRight, Nat.reduceAnd, Nat.reduceBneDiff]
              rw [hJ3_0]
              refine TI.here ⟨?_, ?_, ?_, ?_, ?_, ?_, ?_, ?_, ?_, ?_, ?_, ?_, ?_, ?_, ?_, ?_, ?_, rfl⟩
              all_goals first | omega | (simp only [kk3, kk2, kk0, e16, e19, e20, e40, e43, e44, e45, e47, e50, Y_walk_Reach, EV, ↓EVd, isCall, Nat.reduceAdd, Nat.reduceSub, Nat.reduceMul, Nat.reduceEqDiff, Nat.reduceBEq, Nat.reduceLT, Nat.reduceLeDiff, ↓reduceIte, reduceCtorEq, Nat.reduceShiftRight, Nat.reduceAnd, Nat.reduceBneDiff]; done) | (simp only [kk3, kk2, kk0, e16, e19, e20, e40, e43, e44, e45, e47, e50, Y_walk_Reach, EV, ↓EVd, isCall, Nat.reduceAdd, Nat.reduceSub, Nat.reduceMul, Nat.reduceEqDiff, Nat.reduceBEq, Nat.reduceLT, Nat.reduceLeDiff, ↓reduceIte, reduceCtorEq, Nat.reduceShiftRight, Nat.reduceAnd, Nat.reduceBneDiff]; omega) | (simp only [kk3, kk2, kk0, e16, e19, e20, e40, e43, e44, e45, e47, e50, Y_walk_Reach, EV, ↓EVd, isCall, Nat.reduceAdd, Nat.reduceSub, Nat.reduceMul, Nat.reduceEqDiff, Nat.reduceBEq, Nat.reduceLT, Nat.reduceLeDiff, ↓reduceIte, reduceCtorEq, Nat.reduceShiftRight, Nat.reduceAnd, Nat.reduceBneDiff]; congr 1; omega)
          · have e47 : (v41.ino < 1) = False := eq_false h46
            rw [if_neg h46] at hm2
            by_cases h51 : (a0.nodes.length : Int) < v41.ino
            · have e52 : ((a0.nodes.length : Int) < v41.ino) = True := eq_true h51
              rw [if_pos h51] at hm2
              rcases ho4 : iter (m_walk_Reach_b4) big () with _ | o4
              · rw [ho4] at hm2; simp only [Option.bind_none, reduceCtorEq] at hm2
              rw [ho4] at hm2; simp only [Option.bind_some] at hm2
              simp only [kk2, kk0, e16, e19, e20, e40, e43, e44, e45, e47, e52, Y_walk_Reach, EV, ↓EVd, isCall, Nat.reduceAdd, Nat.reduceSub, Nat.reduceMul, Nat.reduceEqDiff, Nat.reduceBEq, Nat.reduceLT, Nat.reduceLeDiff, ↓reduceIte, reduceCtorEq, Nat.reduceShiftRight, Nat.reduceAnd, Nat.reduceBneDiff]
              obtain ⟨J4_0, hJ4_0⟩ : ∃ J : AS → Prop, J = fun s => s.H 0 = some (.row 26 1 [encBranch a0]) ∧ s.H 12 = some (.row 96 4 [.agg [.sl 13 (a0.nodes.map encNode), .msl l27 v28.length, .mp 10, .msl l29 v30.length]]) ∧ s.H l27 = some (.row 52 3 (v28.map encWay)) ∧ s.H 10 = some (.map (v31.map (kI .i64)) (v31.map fun p => .val (.int .i64 p.2))) ∧ s.H l29 = some (.row 68 2 (v30.map encAr2_Int)) ∧ 0 < s.nx ∧ 12 < s.nx ∧ l27 < s.nx ∧ 10 < s.nx ∧ l29 < s.nx ∧ 0 ≠ l27 ∧ 0 ≠ l29 ∧ 12 ≠ l27 ∧ 12 ≠ l29 ∧ l27 ≠ 10 ∧ l27 ≠ l29 ∧ 10 ≠ l29 ∧ () = o4 := ⟨_, rfl⟩
              refine cwp_cut 0 J4_0 ?_ ?_
              rotate_left
              · clear ho4
                rintro ⟨T4, H4, x54⟩ hs
                rw [hJ4_0] at hs
                obtain ⟨k4_0_0, k4_0_1, k4_0_2, k4_0_3, k4_0_4, k4_0_5, k4_0_6, k4_0_7, k4_0_8, k4_0_9, k4_0_10, k4_0_11, k4_0_12, k4_0_13, k4_0_14, k4_0_15, k4_0_16, hq⟩ := hs
                subst hq
                try simp only at k4_0_0 k4_0_1 k4_0_2 k4_0_3 k4_0_4 k4_0_5 k4_0_6 k4_0_7 k4_0_8 k4_0_9 k4_0_10 k4_0_11 k4_0_12 k4_0_13 k4_0_14 k4_0_15 k4_0_16
                try dsimp only at hm2
                have kk4_0 := And.intro (And.intro (And.intro (And.intro (And.intro ((k4_0_0)) ((k4_0_1))) (And.intro ((k4_0_2)) ((k4_0_3)))) (And.intro (And.intro ((k4_0_4)) ((k4_0_5))) (And.intro ((ne2 k4_0_5)) (And.intro ((ne2' k4_0_5)) ((lt2 k4_0_5)))))) (And.intro (And.intro (And.intro ((k4_0_6)) ((ne2 k4_0_6))) (And.intro ((ne2' k4_0_6)) (And.intro ((lt2 k4_0_6)) ((k4_0_7))))) (And.intro (And.intro ((ne2 k4_0_7)) ((ne2' k4_0_7))) (And.intro ((lt2 k4_0_7)) (And.intro ((k4_0_8)) ((ne2 k4_0_8))))))) (And.intro (And.intro (And.intro (And.intro ((ne2' k4_0_8)) ((lt2 k4_0_8))) (And.intro ((k4_0_9)) (And.intro ((ne2 k4_0_9)) ((ne2' k4_0_9))))) (And.intro (And.intro ((lt2 k4_0_9)) ((k4_0_10))) (And.intro ((k4_0_10.symm)) (And.intro ((k4_0_11)) ((k4_0_11.symm)))))) (And.intro (And.intro (And.intro ((k4_0_12)) ((k4_0_12.symm))) (And.intro ((k4_0_13)) (And.intro ((k4_0_13.symm)) ((k4_0_14))))) (And.intro (And.intro ((k4_0_14.symm)) ((k4_0_15))) (And.intro ((k4_0_15.symm)) (And.intro ((k4_0_16)) ((k4_0_16.symm)))))))
                try simp only [Option.bind_some] at hm2
                simp only [kk4_0, kk2, kk0, e16, e19, e20, e40, e43, e44, e45, e47, e52, Y_walk_Reach, EV, ↓EVd, isCall, Nat.reduceAdd, Nat.reduceSub, Nat.reduceMul, Nat.reduceEqDiff, Nat.reduceBEq, Nat.reduceLT, Nat.reduceLeDiff, ↓reduceIte, reduceCtorEq, Nat.reduceShiftRight, Nat.reduceAnd, Nat.reduceBneDiff]
                rw [hI2]
                refine TI.here ⟨(wr (v26 + 1)), v28, v30, v31, l27, l29, ?_, ?_, ?_, ?_, ?_, ?_, ?_, ?_, ?_, ?_, ?_, ?_, ?_, ?_, ?_, ?_, ?_, ?_, ?_, ?_, ?_, ?_, hm2⟩
                all_goals first | omega | (simp only [kk4_0, kk2, kk0, e16, e19, e20, e40, e43, e44, e45, e47, e52, Y_walk_Reach, EV, ↓EVd, isCall, Nat.reduceAdd, Nat.reduceSub, Nat.reduceMul, Nat.reduceEqDiff, Nat.reduceBEq, Nat.reduceLT, Nat.reduceLeDiff, ↓reduceIte, reduceCtorEq, Nat.reduceShiftRight, Nat.reduceAnd, Nat.reduceBneDiff]; done) | (simp only [kk4_0, kk2, kk0, e16, e19, e20, e40, e43, e44, e45, e47, e52, Y_walk_Reach, EV, ↓EVd, isCall, Nat.reduceAdd, Nat.reduceSub, Nat.reduceMul, Nat.reduceEqDiff, Nat.reduceBEq, Nat.reduceLT, Nat.reduceLeDiff, ↓reduceIte, reduceCtorEq, Nat.reduceShiftRight, Nat.reduceAnd, Nat.reduceBneDiff]; omega) | (simp only [kk4_0, kk2, kk0, e16, e19, e20, e40, e43, e44, e45, e47, e52, Y_walk_Reach, EV, ↓EVd, isCall, Nat.reduceAdd, Nat.reduceSub, Nat.reduceMul, Nat.reduceEqDiff, Nat.reduceBEq, Nat.reduceLT, Nat.reduceLeDiff, ↓reduceIte, reduceCtorEq, Nat.reduceShiftRight, Nat.reduceAnd, Nat.reduceBneDiff]; congr 1; omega)
              obtain ⟨I4, hI4⟩ : ∃ I : Nat → AS → Prop, I = fun k s => s.T 0 = .loc 12 4 0 0 ∧ s.T 1 = int v26 ∧ s.T 4 = int v41.ino ∧ s.T 18 = nilS ∧ s.T 19 = int 0 ∧ s.T 20 = int 0 ∧ s.H 0 = some (.row 26 1 [encBranch a0]) ∧ s.H 12 = some (.row 96 4 [.agg [.sl 13 (a0.nodes.map encNode), .msl l27 v28.length, .mp 10, .msl l29 v30.length]]) ∧ s.H 10 = some (.map (v31.map (kI .i64)) (v31.map fun p => .val (.int .i64 p.2))) ∧ s.H l27 = some (.row 52 3 (v28.map encWay)) ∧ s.H l29 = some (.row 68 2 (v30.map encAr2_Int)) ∧ 0 < s.nx ∧ 12 < s.nx ∧ 10 < s.nx ∧ l27 < s.nx ∧ l29 < s.nx ∧ 0 ≠ l27 ∧ 0 ≠ l29 ∧ 12 ≠ l27 ∧ 12 ≠ l29 ∧ 10 ≠ l27 ∧ 10 ≠ l29 ∧ l27 ≠ l29 ∧ iter (m_walk_Reach_b4) k () = some o4 := ⟨_, rfl⟩
              refine cwp_iter I4 big ?_ ?_ ?_
              · rw [hI4]
                refine TI.here ⟨?_, ?_, ?_, ?_, ?_, ?_, ?_, ?_, ?_, ?_, ?_, ?_, ?_, ?_, ?_, ?_, ?_, ?_, ?_, ?_, ?_, ?_, ?_, ho4⟩
                all_goals first | omega | (simp only [kk2, kk0, e16, e19, e20, e40, e43, e44, e45, e47, e52, Y_walk_Reach, EV, ↓EVd, isCall, Nat.reduceAdd, Nat.reduceSub, Nat.reduceMul, Nat.reduceEqDiff, Nat.reduceBEq, Nat.reduceLT, Nat.reduceLeDiff, ↓reduceIte, reduceCtorEq, Nat.reduceShiftRight, Nat.reduceAnd, Nat.reduceBneDiff]; done) | (simp only [kk2, kk0, e16, e19, e20, e40, e43, e44, e45, e47, e52, Y_walk_Reach, EV, ↓EVd, isCall, Nat.reduceAdd, Nat.reduceSub, Nat.reduceMul, Nat.reduceEqDiff, Nat.reduceBEq, Nat.reduceLT, Nat.reduceLeDiff, ↓reduceIte, reduceCtorEq, Nat.reduceShiftRight, Nat.reduceAnd, Nat.reduceBneDiff]; omega) | (simp only [kk2, kk0, e16, e19, e20, e40, e43, e44, e45, e47, e52, Y_walk_Reach, EV, ↓EVd, isCall, Nat.reduceAdd, Nat.reduceSub, Nat.reduceMul, Nat.reduceEqDiff, Nat.reduceBEq, Nat.reduceLT, Nat.reduceLeDiff, ↓reduceIte, reduceCtorEq, Nat.reduceShiftRight, Nat.reduceAnd, Nat.reduceBneDiff]; congr 1; omega)
              · rintro s hs
                rw [hI4] at hs
                obtain ⟨_, _, _, _, _, _, _, _, _, _, _, _, _, _, _, _, _, _, _, _, _, _, _, hz⟩ := hs
                simp only [iter_zero, reduceCtorEq] at hz
              · clear ho4
                rintro k ⟨T4, H4, x53⟩ hs
                rw [hI4] at hs
                obtain ⟨k4_0, k4_1, k4_2, k4_3, k4_4, k4_5, k4_6, k4_7, k4_8, k4_9, k4_10, k4_11, k4_12, k4_13, k4_14, k4_15, k4_16, k4_17, k4_18, k4_19, k4_20, k4_21, k4_22, hm3⟩ := hs
                try simp only at k4_0 k4_1 k4_2 k4_3 k4_4 k4_5 k4_6 k4_7 k4_8 k4_9 k4_10 k4_11 k4_12 k4_13 k4_14 k4_15 k4_16 k4_17 k4_18 k4_19 k4_20 k4_21 k4_22
                apply cw_cwp
                rw [iter_succ] at hm3; simp only [m_walk_Reach_b4] at hm3
                have kk4 := And.intro (And.intro (And.intro (And.intro (And.intro ((k4_0)) ((k4_1))) (And.intro ((k4_2)) (And.intro ((k4_3)) ((k4_4))))) (And.intro (And.intro ((k4_5)) (And.intro ((k4_6)) ((k4_7)))) (And.intro ((k4_8)) (And.intro ((k4_9)) ((k4_10)))))) (And.intro (And.intro (And.intro ((k4_11)) ((ne2 k4_11))) (And.intro ((ne2' k4_11)) (And.intro ((lt2 k4_11)) ((k4_12))))) (And.intro (And.intro ((ne2 k4_12)) (And.intro ((ne2' k4_12)) ((lt2 k4_12)))) (And.intro ((k4_13)) (And.intro ((ne2 k4_13)) ((ne2' k4_13))))))) (And.intro (And.intro (And.intro (And.intro ((lt2 k4_13)) ((k4_14))) (And.intro ((ne2 k4_14)) (And.intro ((ne2' k4_14)) ((lt2 k4_14))))) (And.intro (And.intro ((k4_15)) (And.intro ((ne2 k4_15)) ((ne2' k4_15)))) (And.intro ((lt2 k4_15)) (And.intro ((k4_16)) ((k4_16.symm)))))) (And.intro (And.intro (And.intro ((k4_17)) (And.intro ((k4_17.symm)) ((k4_18)))) (And.intro ((k4_18.symm)) (And.intro ((k4_19)) ((k4_19.symm))))) (And.intro (And.intro ((k4_20)) (And.intro ((k4_20.symm)) ((k4_21)))) (And.intro ((k4_21.symm)) (And.intro ((k4_22)) ((k4_22.symm)))))))
                have e55 : ((0 : Int) < 0) = False := by decide
                try simp only [Option.bind_some, Option.some.injEq] at hm3
                simp only [kk4, kk2, kk0, e16, e19, e20, e40, e43, e44, e45, e47, e52, e55, Y_walk_Reach, EV, ↓EVd, isCall, Nat.reduceAdd, Nat.reduceSub, Nat.reduceMul, Nat.reduceEqDiff, Nat.reduceBEq, Nat.reduceLT, Nat.reduceLeDiff, ↓reduceIte, reduceCtorEq, Nat.reduceShiftRight, Nat.reduceAnd, Nat.reduceBneDiff]
                rw [hJ4_0]
                refine TI.here ⟨?_, ?_, ?_, ?_, ?_, ?_, ?_, ?_, ?_, ?_, ?_, ?_, ?_, ?_, ?_, ?_, ?_, rfl⟩
                all_goals first | omega | (simp only [kk4, kk2, kk0, e16, e19, e20, e40, e43, e44, e45, e47, e52, e55, Y_walk_Reach, EV, ↓EVd, isCall, Nat.reduceAdd, Nat.reduceSub, Nat.reduceMul, Nat.reduceEqDiff, Nat.reduceBEq, Nat.reduceLT, Nat.reduceLeDiff, ↓reduceIte, reduceCtorEq, Nat.reduceShiftRight, Nat.reduceAnd, Nat.reduceBneDiff]; done) | (simp only [kk4, kk2, kk0, e16, e19, e20, e40, e43, e44, e45, e47, e52, e55, Y_walk_Reach, EV, ↓EVd, isCall, Nat.reduceAdd, Nat.reduceSub, Nat.reduceMul, Nat.reduceEqDiff, Nat.reduceBEq, Nat.reduceLT, Nat.reduceLeDiff, ↓reduceIte, reduceCtorEq, Nat.reduceShiftRight, Nat.reduceAnd, Nat.reduceBneDiff]; omega) | (simp only [kk4, kk2, kk0, e16, e19, e20, e40, e43, e44, e45, e47, e52, e55, Y_walk_Reach, EV, ↓EVd, isCall, Nat.reduceAdd, Nat.reduceSub, Nat.reduceMul, Nat.reduceEqDiff, Nat.reduceBEq, Nat.reduceLT, Nat.reduceLeDiff, ↓reduceIte, reduceCtorEq, Nat.reduceShiftRight, Nat.reduceAnd, Nat.reduceBneDiff]; congr 1; omega)
            · have e52 : ((a0.nodes.length : Int) < v41.ino) = False := eq_false h51
              rw [if_neg h51] at hm2
              rcases h57 : ix a0.nodes (wr (v41.ino - 1)) with _ | v56
              · rw [h57] at hm2; simp only [Option.bind_none, reduceCtorEq] at hm2
              rw [h57] at hm2; simp only [Option.bind_some] at hm2
              have e58 := eq_true (ix_nonneg h57)
              have e59 := ix_enc encNode h57
              rcases ho5 : iter (m_walk_Reach_b5 a0 v26 v41 v56) big (0, v28, v30, v31) with _ | o5
              · rw [ho5] at hm2; simp only [Option.bind_none, reduceCtorEq] at hm2
              rw [ho5] at hm2; simp only [Option.bind_some] at hm2
              simp only [kk2, kk0, e16, e19, e20, e40, e43, e44, e45, e47, e52, e58, e59, Y_walk_Reach, EV, ↓EVd, isCall, Nat.reduceAdd, Nat.reduceSub, Nat.reduceMul, Nat.reduceEqDiff, Nat.reduceBEq, Nat.reduceLT, Nat.reduceLeDiff, ↓reduceIte, reduceCtorEq, Nat.reduceShiftRight, Nat.reduceAnd, Nat.reduceBneDiff]
              obtain ⟨J5_0, hJ5_0⟩ : ∃ J : AS → Prop, J = fun s => ∃ v69 : List Way, ∃ v70 : List (Int × Int), ∃ v72 : List Ar2_Int, ∃ l68 : Nat, ∃ l71 : Nat, s.H 0 = some (.row 26 1 [encBranch a0]) ∧ s.H 12 = some (.row 96 4 [.agg [.sl 13 (a0.nodes.map encNode), .msl l68 v69.length, .mp 10, .msl l71 v72.length]]) ∧ s.H l68 = some (.row 52 3 (v69.map encWay)) ∧ s.H 10 = some (.map (v70.map (kI .i64)) (v70.map fun p => .val (.int .i64 p.2))) ∧ s.H l71 = some (.row 68 2 (v72.map encAr2_Int)) ∧ 0 < s.nx ∧ 12 < s.nx ∧ l68 < s.nx ∧ 10 < s.nx ∧ l71 < s.nx ∧ 0 ≠ l68 ∧ 0 ≠ l71 ∧ 12 ≠ l68 ∧ 12 ≠ l71 ∧ l68 ≠ 10 ∧ l68 ≠ l71 ∧ 10 ≠ l71 ∧ (v69, v70, v72) = o5 := ⟨_, rfl⟩
              refine cwp_cut 0 J5_0 ?_ ?_
              rotate_left
              · clear ho5
                rintro ⟨T5, H5, x67⟩ hs
                rw [hJ5_0] at hs
                obtain ⟨v69, v70, v72, l68, l71, k5_0_0, k5_0_1, k5_0_2, k5_0_3, k5_0_4, k5_0_5, k5_0_6, k5_0_7, k5_0_8, k5_0_9, k5_0_10, k5_0_11, k5_0_12, k5_0_13, k5_0_14, k5_0_15, k5_0_16, hq⟩ := hs
                subst hq
                try simp only at k5_0_0 k5_0_1 k5_0_2 k5_0_3 k5_0_4 k5_0_5 k5_0_6 k5_0_7 k5_0_8 k5_0_9 k5_0_10 k5_0_11 k5_0_12 k5_0_13 k5_0_14 k5_0_15 k5_0_16
                try dsimp only at hm2
                have kk5_0 := And.intro (And.intro (And.intro (And.intro (And.intro ((k5_0_0)) ((k5_0_1))) (And.intro ((k5_0_2)) ((k5_0_3)))) (And.intro (And.intro ((k5_0_4)) ((k5_0_5))) (And.intro ((ne2 k5_0_5)) (And.intro ((ne2' k5_0_5)) ((lt2 k5_0_5)))))) (And.intro (And.intro (And.intro ((k5_0_6)) ((ne2 k5_0_6))) (And.intro ((ne2' k5_0_6)) (And.intro ((lt2 k5_0_6)) ((k5_0_7))))) (And.intro (And.intro ((ne2 k5_0_7)) ((ne2' k5_0_7))) (And.intro ((lt2 k5_0_7)) (And.intro ((k5_0_8)) ((ne2 k5_0_8))))))) (And.intro (And.intro (And.intro (And.intro ((ne2' k5_0_8)) ((lt2 k5_0_8))) (And.intro ((k5_0_9)) (And.intro ((ne2 k5_0_9)) ((ne2' k5_0_9))))) (And.intro (And.intro ((lt2 k5_0_9)) ((k5_0_10))) (And.intro ((k5_0_10.symm)) (And.intro ((k5_0_11)) ((k5_0_11.symm)))))) (And.intro (And.intro (And.intro ((k5_0_12)) ((k5_0_12.symm))) (And.intro ((k5_0_13)) (And.intro ((k5_0_13.symm)) ((k5_0_14))))) (And.intro (And.intro ((k5_0_14.symm)) ((k5_0_15))) (And.intro ((k5_0_15.symm)) (And.intro ((k5_0_16)) ((k5_0_16.symm)))))))
                try simp only [Option.bind_some] at hm2
                simp only [kk5_0, kk2, kk0, e16, e19, e20, e40, e43, e44, e45, e47, e52, e58, e59, Y_walk_Reach, EV, ↓EVd, isCall, Nat.reduceAdd, Nat.reduceSub, Nat.reduceMul, Nat.reduceEqDiff, Nat.reduceBEq, Nat.reduceLT, Nat.reduceLeDiff, ↓reduceIte, reduceCtorEq, Nat.reduceShiftRight, Nat.reduceAnd, Nat.reduceBneDiff]
                rw [hI2]
                refine TI.here ⟨(wr (v26 + 1)), v69, v72, v70, l68, l71, ?_, ?_, ?_, ?_, ?_, ?_, ?_, ?_, ?_, ?_, ?_, ?_, ?_, ?_, ?_, ?_, ?_, ?_, ?_, ?_, ?_, ?_, hm2⟩
                all_goals first | omega | (simp only [kk5_0, kk2, kk0, e16, e19, e20, e40, e43, e44, e45, e47, e52, e58, e59, Y_walk_Reach, EV, ↓EVd, isCall, Nat.reduceAdd, Nat.reduceSub, Nat.reduceMul, Nat.reduceEqDiff, Nat.reduceBEq, Nat.reduceLT, Nat.reduceLeDiff, ↓reduceIte, reduceCtorEq, Nat.reduceShiftRight, Nat.reduceAnd, Nat.reduceBneDiff]; done) | (simp only [kk5_0, kk2, kk0, e16, e19, e20, e40, e43, e44, e45, e47, e52, e58, e59, Y_walk_Reach, EV, ↓EVd, isCall, Nat.reduceAdd, Nat.reduceSub, Nat.reduceMul, Nat.reduceEqDiff, Nat.reduceBEq, Nat.reduceLT, Nat.reduceLeDiff, ↓reduceIte, reduceCtorEq, Nat.reduceShiftRight, Nat.reduceAnd, Nat.reduceBneDiff]; omega) | (simp only [kk5_0, kk2, kk0, e16, e19, e20, e40, e43, e44, e45, e47, e52, e58, e59, Y_walk_Reach, EV, ↓EVd, isCall, Nat.reduceAdd, Nat.reduceSub, Nat.reduceMul, Nat.reduceEqDiff, Nat.reduceBEq, Nat.reduceLT, Nat.reduceLeDiff, ↓reduceIte, reduceCtorEq, Nat.reduceShiftRight, Nat.reduceAnd, Nat.reduceBneDiff]; congr 1; omega)
              obtain ⟨I5, hI5⟩ : ∃ I : Nat → AS → Prop, I = fun k s => ∃ v61 : Int, ∃ v63 : List Way, ∃ v65 : List Ar2_Int, ∃ v66 : List (Int × Int), ∃ l62 : Nat, ∃ l64 : Nat, s.T 0 = .loc 12 4 0 0 ∧ s.T 1 = int v26 ∧ s.T 4 = int v41.ino ∧ s.T 18 = .sl 3 (v56.entries.map encEntry) ∧ s.T 19 = int (v56.entries.length : Int) ∧ s.T 20 = int v61 ∧ s.H 0 = some (.row 26 1 [encBranch a0]) ∧ s.H 12 = some (.row 96 4 [.agg [.sl 13 (a0.nodes.map encNode), .msl l62 v63.length, .mp 10, .msl l64 v65.length]]) ∧ s.H 10 = some (.map (v66.map (kI .i64)) (v66.map fun p => .val (.int .i64 p.2))) ∧ s.H l62 = some (.row 52 3 (v63.map encWay)) ∧ s.H l64 = some (.row 68 2 (v65.map encAr2_Int)) ∧ 0 < s.nx ∧ 12 < s.nx ∧ 10 < s.nx ∧ l62 < s.nx ∧ l64 < s.nx ∧ 0 ≠ l62 ∧ 0 ≠ l64 ∧ 12 ≠ l62 ∧ 12 ≠ l64 ∧ 10 ≠ l62 ∧ 10 ≠ l64 ∧ l62 ≠ l64 ∧ iter (m_walk_Reach_b5 a0 v26 v41 v56) k (v61, v63, v65, v66) = some o5 := ⟨_, rfl⟩
              refine cwp_iter I5 big ?_ ?_ ?_
              · rw [hI5]
                refine TI.here ⟨0, v28, v30, v31, l27, l29, ?_, ?_, ?_, ?_, ?_, ?_, ?_, ?_, ?_, ?_, ?_, ?_, ?_, ?_, ?_, ?_, ?_, ?_, ?_, ?_, ?_, ?_, ?_, ho5⟩
                all_goals first | omega | (simp only [kk2, kk0, e16, e19, e20, e40, e43, e44, e45, e47, e52, e58, e59, Y_walk_Reach, EV, ↓EVd, isCall, Nat.reduceAdd, Nat.reduceSub, Nat.reduceMul, Nat.reduceEqDiff, Nat.reduceBEq, Nat.reduceLT, Nat.reduceLeDiff, ↓reduceIte, reduceCtorEq, Nat.reduceShiftRight, Nat.reduceAnd, Nat.reduceBneDiff]; done) | (simp only [kk2, kk0, e16, e19, e20, e40, e43, e44, e45, e47, e52, e58, e59, Y_walk_Reach, EV, ↓EVd, isCall, Nat.reduceAdd, Nat.reduceSub, Nat.reduceMul, Nat.reduceEqDiff, Nat.reduceBEq, Nat.reduceLT, Nat.reduceLeDiff, ↓reduceIte, reduceCtorEq, Nat.reduceShiftRight, Nat.reduceAnd, Nat.reduceBneDiff]; omega) | (simp only [kk2, kk0, e16, e19, e20, e40, e43, e44, e45, e47, e52, e58, e59, Y_walk_Reach, EV, ↓EVd, isCall, Nat.reduceAdd, Nat.reduceSub, Nat.reduceMul, Nat.reduceEqDiff, Nat.reduceBEq, Nat.reduceLT, Nat.reduceLeDiff, ↓reduceIte, reduceCtorEq, Nat.reduceShiftRight, Nat.reduceAnd, Nat.reduceBneDiff]; congr 1; omega)
              · rintro s hs
                rw [hI5] at hs
                obtain ⟨_, _, _, _, _, _, _, _, _, _, _, _, _, _, _, _, _, _, _, _, _, _, _, _, _, _, _, _, _, hz⟩ := hs
                simp only [iter_zero, reduceCtorEq] at hz
              · clear ho5
                rintro k ⟨T5, H5, x60⟩ hs
                rw [hI5] at hs
                obtain ⟨v61, v63, v65, v66, l62, l64, k5_0, k5_1, k5_2, k5_3, k5_4, k5_5, k5_6, k5_7, k5_8, k5_9, k5_10, k5_11, k5_12, k5_13, k5_14, k5_15, k5_16, k5_17, k5_18, k5_19, k5_20, k5_21, k5_22, hm3⟩ := hs
                try simp only at k5_0 k5_1 k5_2 k5_3 k5_4 k5_5 k5_6 k5_7 k5_8 k5_9 k5_10 k5_11 k5_12 k5_13 k5_14 k5_15 k5_16 k5_17 k5_18 k5_19 k5_20 k5_21 k5_22
                apply cw_cwp
                rw [iter_succ] at hm3; simp only [m_walk_Reach_b5] at hm3
                have kk5 := And.intro (And.intro (And.intro (And.intro (And.intro ((k5_0)) ((k5_1))) (And.intro ((k5_2)) (And.intro ((k5_3)) ((k5_4))))) (And.intro (And.intro ((k5_5)) (And.intro ((k5_6)) ((k5_7)))) (And.intro ((k5_8)) (And.intro ((k5_9)) ((k5_10)))))) (And.intro (And.intro (And.intro ((k5_11)) ((ne2 k5_11))) (And.intro ((ne2' k5_11)) (And.intro ((lt2 k5_11)) ((k5_12))))) (And.intro (And.intro ((ne2 k5_12)) (And.intro ((ne2' k5_12)) ((lt2 k5_12)))) (And.intro ((k5_13)) (And.intro ((ne2 k5_13)) ((ne2' k5_13))))))) (And.intro (And.intro (And.intro (And.intro ((lt2 k5_13)) ((k5_14))) (And.intro ((ne2 k5_14)) (And.intro ((ne2' k5_14)) ((lt2 k5_14))))) (And.intro (And.intro ((k5_15)) (And.intro ((ne2 k5_15)) ((ne2' k5_15)))) (And.intro ((lt2 k5_15)) (And.intro ((k5_16)) ((k5_16.symm)))))) (And.intro (And.intro (And.intro ((k5_17)) (And.intro ((k5_17.symm)) ((k5_18)))) (And.intro ((k5_18.symm)) (And.intro ((k5_19)) ((k5_19.symm))))) (And.intro (And.intro ((k5_20)) (And.intro ((k5_20.symm)) ((k5_21)))) (And.intro ((k5_21.symm)) (And.intro ((k5_22)) ((k5_22.symm)))))))
                by_cases h73 : v61 < (v56.entries.length : Int)
                · have e74 : (v61 < (v56.entries.length : Int)) = True := eq_true h73
                  rw [if_pos h73] at hm3
                  rcases h76 : ix v56.entries v61 with _ | v75
                  · rw [h76] at hm3; simp only [Option.bind_none, reduceCtorEq] at hm3
                  rw [h76] at hm3; simp only [Option.bind_some] at hm3
                  have e77 := eq_true (ix_nonneg h76)
                  have e78 := ix_enc encEntry h76
                  simp only [kk5, kk2, kk0, e16, e19, e20, e40, e43, e44, e45, e47, e52, e58, e59, e74, e77, e78, Y_walk_Reach, EV, ↓EVd, isCall, Nat.reduceAdd, Nat.reduceSub, Nat.reduceMul, Nat.reduceEqDiff, Nat.reduceBEq, Nat.reduceLT, Nat.reduceLeDiff, ↓reduceIte, reduceCtorEq, Nat.reduceShiftRight, Nat.reduceAnd, Nat.reduceBneDiff]
                  refine S1_call (acallF fc_walk_trail_node (by simp) ?_) rfl
                  unfold c_walk_trail_node
                  by_cases h79 : v75.ino < 1
                  · have e80 : (v75.ino < 1) = True := eq_true h79
                    rw [if_pos h79] at hm3
                    have e81 : ((0 : Int) = 1) = False := by decide
                    try simp only [Option.bind_some] at hm3
                    simp only [kk5, kk2, kk0, e16, e19, e20, e40, e43, e44, e45, e47, e52, e58, e59, e74, e77, e78, e80, e81, Y_walk_Reach, EV, ↓EVd, isCall, Nat.reduceAdd, Nat.reduceSub, Nat.reduceMul, Nat.reduceEqDiff, Nat.reduceBEq, Nat.reduceLT, Nat.reduceLeDiff, ↓reduceIte, reduceCtorEq, Nat.reduceShiftRight, Nat.reduceAnd, Nat.reduceBneDiff]
                    rw [hI5]
                    refine TI.here ⟨(wr (v61 + 1)), v63, v65, v66, l62, l64, ?_, ?_, ?_, ?_, ?_, ?_, ?_, ?_, ?_, ?_, ?_, ?_, ?_, ?_, ?_, ?_, ?_, ?_, ?_, ?_, ?_, ?_, ?_, hm3⟩
                    all_goals first | omega | (simp only [kk5, kk2, kk0, e16, e19, e20, e40, e43, e44, e45, e47, e52, e58, e59, e74, e77, e78, e80, e81, Y_walk_Reach, EV, ↓EVd, isCall, Nat.reduceAdd, Nat.reduceSub, Nat.reduceMul, Nat.reduceEqDiff, Nat.reduceBEq, Nat.reduceLT, Nat.reduceLeDiff, ↓reduceIte, reduceCtorEq, Nat.reduceShiftRight, Nat.reduceAnd, Nat.reduceBneDiff]; done) | (simp only [kk5, kk2, kk0, e16, e19, e20, e40, e43, e44, e45, e47, e52, e58, e59, e74, e77, e78, e80, e81, Y_walk_Reach, EV, ↓EVd, isCall, Nat.reduceAdd, Nat.reduceSub, Nat.reduceMul, Nat.reduceEqDiff, Nat.reduceBEq, Nat.reduceLT, Nat.reduceLeDiff, ↓reduceIte, reduceCtorEq, Nat.reduceShiftRight, Nat.reduceAnd, Nat.reduceBneDiff]; omega) | (simp only [kk5, kk2, kk0, e16, e19, e20, e40, e43, e44, e45, e47, e52, e58, e59, e74, e77, e78, e80, e81, Y_walk_Reach, EV, ↓EVd, isCall, Nat.reduceAdd, Nat.reduceSub, Nat.reduceMul, Nat.reduceEqDiff, Nat.reduceBEq, Nat.reduceLT, Nat.reduceLeDiff, ↓reduceIte, reduceCtorEq, Nat.reduceShiftRight, Nat.reduceAnd, Nat.reduceBneDiff]; congr 1; omega)
                  · have e80 : (v75.ino < 1) = False := eq_false h79
                    rw [if_neg h79] at hm3
                    by_cases h82 : (a0.nodes.length : Int) < v75.ino
                    · have e83 : ((a0.nodes.length : Int) < v75.ino) = True := eq_true h82
                      rw [if_pos h82] at hm3
                      have e84 : ((0 : Int) = 1) = False := by decide
                      try simp only [Option.bind_some] at hm3
                      simp only [kk5, kk2, kk0, e16, e19, e20, e40, e43, e44, e45, e47, e52, e58, e59, e74, e77, e78, e80, e83, e84, Y_walk_Reach, EV, ↓EVd, isCall, Nat.reduceAdd, Nat.reduceSub, Nat.reduceMul, Nat.reduceEqDiff, Nat.reduceBEq, Nat.reduceLT, Nat.reduceLeDiff, ↓reduceIte, reduceCtorEq, Nat.reduceShiftRight, Nat.reduceAnd, Nat.reduceBneDiff]
                      rw [hI5]
                      refine TI.here ⟨(wr (v61 + 1)), v63, v65, v66, l62, l64, ?_, ?_, ?_, ?_, ?_, ?_, ?_, ?_, ?_, ?_, ?_, ?_, ?_, ?_, ?_, ?_, ?_, ?_, ?_, ?_, ?_, ?_, ?_, hm3⟩
                      all_goals first | omega | (simp only [kk5, kk2, kk0, e16, e19, e20, e40, e43, e44, e45, e47, e52, e58, e59, e74, e77, e78, e80, e83, e84, Y_walk_Reach, EV, ↓EVd, isCall, Nat.reduceAdd, Nat.reduceSub, Nat.reduceMul, Nat.reduceEqDiff, Nat.reduceBEq, Nat.reduceLT, Nat.reduceLeDiff, ↓reduceIte, reduceCtorEq, Nat.reduceShiftRight, Nat.reduceAnd, Nat.reduceBneDiff]; done) | (simp only [kk5, kk2, kk0, e16, e19, e20, e40, e43, e44, e45, e47, e52, e58, e59, e74, e77, e78, e80, e83, e84, Y_walk_Reach, EV, ↓EVd, isCall, Nat.reduceAdd, Nat.reduceSub, Nat.reduceMul, Nat.reduceEqDiff, Nat.reduceBEq, Nat.reduceLT, Nat.reduceLeDiff, ↓reduceIte, reduceCtorEq, Nat.reduceShiftRight, Nat.reduceAnd, Nat.reduceBneDiff]; omega) | (simp only [kk5, kk2, kk0, e16, e19, e20, e40, e43, e44, e45, e47, e52, e58, e59, e74, e77, e78, e80, e83, e84, Y_walk_Reach, EV, ↓EVd, isCall, Nat.reduceAdd, Nat.reduceSub, Nat.reduceMul, Nat.reduceEqDiff, Nat.reduceBEq, Nat.reduceLT, Nat.reduceLeDiff, ↓reduceIte, reduceCtorEq, Nat.reduceShiftRight, Nat.reduceAnd, Nat.reduceBneDiff]; congr 1; omega)
                    · have e83 : ((a0.nodes.length : Int) < v75.ino) = False := eq_false h82
                      rw [if_neg h82] at hm3
                      rcases h86 : ix a0.nodes (wr (v75.ino - 1)) with _ | v85
                      · rw [h86] at hm3; simp only [Option.bind_none, reduceCtorEq] at hm3
                      rw [h86] at hm3; simp only [Option.bind_some] at hm3
                      have e87 := eq_true (ix_nonneg h86)
                      have e88 := ix_enc encNode h86
                      by_cases h89 : v85.kind = 1
                      · have e90 : (v85.kind = 1) = True := eq_true h89
                        rw [if_pos h89] at hm3
                        have e91 : (.agg [int v75.ino, int v26, str v75.name] : AV) = encWay (⟨v75.ino, v26, v75.name⟩ : Way) := _root_.id rfl
                        simp only [kk5, kk2, kk0, e16, e19, e20, e40, e43, e44, e45, e47, e52, e58, e59, e74, e77, e78, e80, e83, e87, e88, e90, e91, Y_walk_Reach, EV, ↓EVd, isCall, Nat.reduceAdd, Nat.reduceSub, Nat.reduceMul, Nat.reduceEqDiff, Nat.reduceBEq, Nat.reduceLT, Nat.reduceLeDiff, ↓reduceIte, reduceCtorEq, Nat.reduceShiftRight, Nat.reduceAnd, Nat.reduceBneDiff]
                        refine S1_call (acallF fc_walk_trail_come (by simp) ?_) rfl
                        unfold c_walk_trail_come
                        by_cases h92 : 0 < (mget v66 v75.ino)
                        · have e93 : (0 < (mget v66 v75.ino)) = True := eq_true h92
                          rw [if_pos h92] at hm3
                          have e94 : (.agg [int v41.ino, int v75.slot] : AV) = encAr2_Int (⟨v41.ino, v75.slot⟩ : Ar2_Int) := _root_.id rfl
                          rcases h96 : ap 16 v65 ([(⟨v41.ino, v75.slot⟩ : Ar2_Int)] : List Ar2_Int) with _ | h96u
                          · rw [h96] at hm3; simp only [Option.bind_none, reduceCtorEq] at hm3
                          rw [h96] at hm3; simp only [Option.bind_some] at hm3
                          have e97 := eq_true (ap_some h96).2.1
                          have e98 := eq_true (ap_some h96).2.2
                          try simp only [ZL] at e97 e98
                          try simp only [Option.bind_some] at hm3
                          simp only [kk5, kk2, kk0, e16, e19, e20, e40, e43, e44, e45, e47, e52, e58, e59, e74, e77, e78, e80, e83, e87, e88, e90, e91, e93, e94, e97, e98, Y_walk_Reach, EV, ↓EVd, isCall, Nat.reduceAdd, Nat.reduceSub, Nat.reduceMul, Nat.reduceEqDiff, Nat.reduceBEq, Nat.reduceLT, Nat.reduceLeDiff, ↓reduceIte, reduceCtorEq, Nat.reduceShiftRight, Nat.reduceAnd, Nat.reduceBneDiff]
                          rw [hI5]
                          refine TI.here ⟨(wr (v61 + 1)), v63, (v65 ++ ([(⟨v41.ino, v75.slot⟩ : Ar2_Int)] : List Ar2_Int)), v66, l62, (x60 + 66), ?_, ?_, ?_, ?_, ?_, ?_, ?_, ?_, ?_, ?_, ?_, ?_, ?_, ?_, ?_, ?_, ?_, ?_, ?_, ?_, ?_, ?_, ?_, hm3⟩
                          all_goals first | omega | (simp only [kk5, kk2, kk0, e16, e19, e20, e40, e43, e44, e45, e47, e52, e58, e59, e74, e77, e78, e80, e83, e87, e88, e90, e91, e93, e94, e97, e98, Y_walk_Reach, EV, ↓EVd, isCall, Nat.reduceAdd, Nat.reduceSub, Nat.reduceMul, Nat.reduceEqDiff, Nat.reduceBEq, Nat.reduceLT, Nat.reduceLeDiff, ↓reduceIte, reduceCtorEq, Nat.reduceShiftRight, Nat.reduceAnd, Nat.reduceBneDiff]; done) | (simp only [kk5, kk2, kk0, e16, e19, e20, e40, e43, e44, e45, e47, e52, e58, e59, e74, e77, e78, e80, e83, e87, e88, e90, e91, e93, e94, e97, e98, Y_walk_Reach, EV, ↓EVd, isCall, Nat.reduceAdd, Nat.reduceSub, Nat.reduceMul, Nat.reduceEqDiff, Nat.reduceBEq, Nat.reduceLT, Nat.reduceLeDiff, ↓reduceIte, reduceCtorEq, Nat.reduceShiftRight, Nat.reduceAnd, Nat.reduceBneDiff]; omega) | (simp only [kk5, kk2, kk0, e16, e19, e20, e40, e43, e44, e45, e47, e52, e58, e59, e74, e77, e78, e80, e83, e87, e88, e90, e91, e93, e94, e97, e98, Y_walk_Reach, EV, ↓EVd, isCall, Nat.reduceAdd, Nat.reduceSub, Nat.reduceMul, Nat.reduceEqDiff, Nat.reduceBEq, Nat.reduceLT, Nat.reduceLeDiff, ↓reduceIte, reduceCtorEq, Nat.reduceShiftRight, Nat.reduceAnd, Nat.reduceBneDiff]; congr 1; omega)
                        · have e93 : (0 < (mget v66 v75.ino)) = False := eq_false h92
                          rw [if_neg h92] at hm3
                          rcases h100 : ap 32 v63 ([(⟨v75.ino, v26, v75.name⟩ : Way)] : List Way) with _ | h100u
                          · rw [h100] at hm3; simp only [Option.bind_none, reduceCtorEq] at hm3
                          rw [h100] at hm3; simp only [Option.bind_some] at hm3
                          have e101 := eq_true (ap_some h100).2.1
                          have e102 := eq_true (ap_some h100).2.2
                          try simp only [ZL] at e101 e102
                          try simp only [Option.bind_some] at hm3
                          simp only [kk5, kk2, kk0, e16, e19, e20, e40, e43, e44, e45, e47, e52, e58, e59, e74, e77, e78, e80, e83, e87, e88, e90, e91, e93, e101, e102, Y_walk_Reach, EV, ↓EVd, isCall, Nat.reduceAdd, Nat.reduceSub, Nat.reduceMul, Nat.reduceEqDiff, Nat.reduceBEq, Nat.reduceLT, Nat.reduceLeDiff, ↓reduceIte, reduceCtorEq, Nat.reduceShiftRight, Nat.reduceAnd, Nat.reduceBneDiff]
                          rw [hI5]
                          refine TI.here ⟨(wr (v61 + 1)), (v63 ++ ([(⟨v75.ino, v26, v75.name⟩ : Way)] : List Way)), v65, (mset v66 v75.ino (wr ((mget v66 v75.ino) + 1))), (x60 + 71), l64, ?_, ?_, ?_, ?_, ?_, ?_, ?_, ?_, ?_, ?_, ?_, ?_, ?_, ?_, ?_, ?_, ?_, ?_, ?_, ?_, ?_, ?_, ?_, hm3⟩
                          all_goals first | omega | (simp only [kk5, kk2, kk0, e16, e19, e20, e40, e43, e44, e45, e47, e52, e58, e59, e74, e77, e78, e80, e83, e87, e88, e90, e91, e93, e101, e102, Y_walk_Reach, EV, ↓EVd, isCall, Nat.reduceAdd, Nat.reduceSub, Nat.reduceMul, Nat.reduceEqDiff, Nat.reduceBEq, Nat.reduceLT, Nat.reduceLeDiff, ↓reduceIte, reduceCtorEq, Nat.reduceShiftRight, Nat.reduceAnd, Nat.reduceBneDiff]; done) | (simp only [kk5, kk2, kk0, e16, e19, e20, e40, e43, e44, e45, e47, e52, e58, e59, e74, e77, e78, e80, e83, e87, e88, e90, e91, e93, e101, e102, Y_walk_Reach, EV, ↓EVd, isCall, Nat.reduceAdd, Nat.reduceSub, Nat.reduceMul, Nat.reduceEqDiff, Nat.reduceBEq, Nat.reduceLT, Nat.reduceLeDiff, ↓reduceIte, reduceCtorEq, Nat.reduceShiftRight, Nat.reduceAnd, Nat.reduceBneDiff]; omega) | (simp only [kk5, kk2, kk0, e16, e19, e20, e40, e43, e44, e45, e47, e52, e58, e59, e74, e77, e78, e80, e83, e87, e88, e90, e91, e93, e101, e102, Y_walk_Reach, EV, ↓EVd, isCall, Nat.reduceAdd, Nat.reduceSub, Nat.reduceMul, Nat.reduceEqDiff, Nat.reduceBEq, Nat.reduceLT, Nat.reduceLeDiff, ↓reduceIte, reduceCtorEq, Nat.reduceShiftRight, Nat.reduceAnd, Nat.reduceBneDiff]; congr 1; omega)
                      · have e90 : (v85.kind = 1) = False := eq_false h89
                        rw [if_neg h89] at hm3
                        try simp only [Option.bind_some] at hm3
                        simp only [kk5, kk2, kk0, e16, e19, e20, e40, e43, e44, e45, e47, e52, e58, e59, e74, e77, e78, e80, e83, e87, e88, e90, Y_walk_Reach, EV, ↓EVd, isCall, Nat.reduceAdd, Nat.reduceSub, Nat.reduceMul, Nat.reduceEqDiff, Nat.reduceBEq, Nat.reduceLT, Nat.reduceLeDiff, ↓reduceIte, reduceCtorEq, Nat.reduceShiftRight, Nat.reduceAnd, Nat.reduceBneDiff]
                        rw [hI5]
                        refine TI.here ⟨(wr (v61 + 1)), v63, v65, v66, l62, l64, ?_, ?_, ?_, ?_, ?_, ?_, ?_, ?_, ?_, ?_, ?_, ?_, ?_, ?_, ?_, ?_, ?_, ?_, ?_, ?_, ?_, ?_, ?_, hm3⟩
                        all_goals first | omega | (simp only [kk5, kk2, kk0, e16, e19, e20, e40, e43, e44, e45, e47, e52, e58, e59, e74, e77, e78, e80, e83, e87, e88, e90, Y_walk_Reach, EV, ↓EVd, isCall, Nat.reduceAdd, Nat.reduceSub, Nat.reduceMul, Nat.reduceEqDiff, Nat.reduceBEq, Nat.reduceLT, Nat.reduceLeDiff, ↓reduceIte, reduceCtorEq, Nat.reduceShiftRight, Nat.reduceAnd, Nat.reduceBneDiff]; done) | (simp only [kk5, kk2, kk0, e16, e19, e20, e40, e43, e44, e45, e47, e52, e58, e59, e74, e77, e78, e80, e83, e87, e88, e90, Y_walk_Reach, EV, ↓EVd, isCall, Nat.reduceAdd, Nat.reduceSub, Nat.reduceMul, Nat.reduceEqDiff, Nat.reduceBEq, Nat.reduceLT, Nat.reduceLeDiff, ↓reduceIte, reduceCtorEq, Nat.reduceShiftRight, Nat.reduceAnd, Nat.reduceBneDiff]; omega) | (simp only [kk5, kk2, kk0, e16, e19, e20, e40, e43, e44, e45, e47, e52, e58, e59, e74, e77, e78, e80, e83, e87, e88, e90, Y_walk_Reach, EV, ↓EVd, isCall, Nat.reduceAdd, Nat.reduceSub, Nat.reduceMul, Nat.reduceEqDiff, Nat.reduceBEq, Nat.reduceLT, Nat.reduceLeDiff, ↓reduceIte, reduceCtorEq, Nat.reduceShiftRight, Nat.reduceAnd, Nat.reduceBneDiff]; congr 1; omega)
                · have e74 : (v61 < (v56.entries.length : Int)) = False := eq_false h73
                  rw [if_neg h73] at hm3
                  try simp only [Option.bind_some, Option.some.injEq] at hm3
                  simp only [kk5, kk2, kk0, e16, e19, e20, e40, e43, e44, e45, e47, e52, e58, e59, e74, Y_walk_Reach, EV, ↓EVd, isCall, Nat.reduceAdd, Nat.reduceSub, Nat.reduceMul, Nat.reduceEqDiff, Nat.reduceBEq, Nat.reduceLT, Nat.reduceLeDiff, ↓reduceIte, reduceCtorEq, Nat.reduceShiftRight, Nat.reduceAnd, Nat.reduceBneDiff]
                  rw [hJ5_0]
                  refine TI.here ⟨v63, v66, v65, l62, l64, ?_, ?_, ?_, ?_, ?_, ?_, ?_, ?_, ?_, ?_, ?_, ?_, ?_, ?_, ?_, ?_, ?_, hm3⟩
                  all_goals first | omega | (simp only [kk5, kk2, kk0, e16, e19, e20, e40, e43, e44, e45, e47, e52, e58, e59, e74, Y_walk_Reach, EV, ↓EVd, isCall, Nat.reduceAdd, Nat.reduceSub, Nat.reduceMul, Nat.reduceEqDiff, Nat.reduceBEq, Nat.reduceLT, Nat.reduceLeDiff, ↓reduceIte, reduceCtorEq, Nat.reduceShiftRight, Nat.reduceAnd, Nat.reduceBneDiff]; done) | (simp only [kk5, kk2, kk0, e16, e19, e20, e40, e43, e44, e45, e47, e52, e58, e59, e74, Y_walk_Reach, EV, ↓EVd, isCall, Nat.reduceAdd, Nat.reduceSub, Nat.reduceMul, Nat.reduceEqDiff, Nat.reduceBEq, Nat.reduceLT, Nat.reduceLeDiff, ↓reduceIte, reduceCtorEq, Nat.reduceShiftRight, Nat.reduceAnd, Nat.reduceBneDiff]; omega) | (simp only [kk5, kk2, kk0, e16, e19, e20, e40, e43, e44, e45, e47, e52, e58, e59, e74, Y_walk_Reach, EV, ↓EVd, isCall, Nat.reduceAdd, Nat.reduceSub, Nat.reduceMul, Nat.reduceEqDiff, Nat.reduceBEq, Nat.reduceLT, Nat.reduceLeDiff, ↓reduceIte, reduceCtorEq, Nat.reduceShiftRight, Nat.reduceAnd, Nat.reduceBneDiff]; congr 1; omega)
        · have e40 : (v26 < (v28.length : Int)) = False := eq_false h39
          rw [if_neg h39] at hm2
          try simp only [Option.bind_some, Option.some.injEq] at hm2
          simp only [kk2, kk0, e16, e19, e20, e40, Y_walk_Reach, EV, ↓EVd, isCall, Nat.reduceAdd, Nat.reduceSub, Nat.reduceMul, Nat.reduceEqDiff, Nat.reduceBEq, Nat.reduceLT, Nat.reduceLeDiff, ↓reduceIte, reduceCtorEq, Nat.reduceShiftRight, Nat.reduceAnd, Nat.reduceBneDiff]
          rw [hJ2_0]
          refine TI.here ⟨v28, v31, v30, v26, l27, l29, ?_, ?_, ?_, ?_, ?_, ?_, ?_, ?_, ?_, ?_, ?_, ?_, ?_, ?_, ?_, ?_, ?_, ?_, ?_, ?_, ?_, ?_, hm2⟩
          all_goals first | omega | (simp only [kk2, kk0, e16, e19, e20, e40, Y_walk_Reach, EV, ↓EVd, isCall, Nat.reduceAdd, Nat.reduceSub, Nat.reduceMul, Nat.reduceEqDiff, Nat.reduceBEq, Nat.reduceLT, Nat.reduceLeDiff, ↓reduceIte, reduceCtorEq, Nat.reduceShiftRight, Nat.reduceAnd, Nat.reduceBneDiff]; done) | (simp only [kk2, kk0, e16, e19, e20, e40, Y_walk_Reach, EV, ↓EVd, isCall, Nat.reduceAdd, Nat.reduceSub, Nat.reduceMul, Nat.reduceEqDiff, Nat.reduceBEq, Nat.reduceLT, Nat.reduceLeDiff, ↓reduceIte, reduceCtorEq, Nat.reduceShiftRight, Nat.reduceAnd, Nat.reduceBneDiff]; omega) | (simp only [kk2, kk0, e16, e19, e20, e40, Y_walk_Reach, EV, ↓EVd, isCall, Nat.reduceAdd, Nat.reduceSub, Nat.reduceMul, Nat.reduceEqDiff, Nat.reduceBEq, Nat.reduceLT, Nat.reduceLeDiff, ↓reduceIte, reduceCtorEq, Nat.reduceShiftRight, Nat.reduceAnd, Nat.reduceBneDiff]; congr 1; omega)
    · have e16 : (v3 < (a1.length : Int)) = False := eq_false h15
      rw [if_neg h15] at hm1
      try simp only [Option.bind_some, Option.some.injEq] at hm1
      simp only [kk0, e16, Y_walk_Reach, EV, ↓EVd, isCall, Nat.reduceAdd, Nat.reduceSub, Nat.reduceMul, Nat.reduceEqDiff, Nat.reduceBEq, Nat.reduceLT, Nat.reduceLeDiff, ↓reduceIte, reduceCtorEq, Nat.reduceShiftRight, Nat.reduceAnd, Nat.reduceBneDiff]
      rw [hJ0_0]
      refine TI.here ⟨v5, v8, v7, l4, l6, ?_, ?_, ?_, ?_, ?_, ?_, ?_, ?_, ?_, ?_, ?_, ?_, ?_, ?_, ?_, ?_, ?_, ?_, hm1⟩
      all_goals first | omega | (simp only [kk0, e16, Y_walk_Reach, EV, ↓EVd, isCall, Nat.reduceAdd, Nat.reduceSub, Nat.reduceMul, Nat.reduceEqDiff, Nat.reduceBEq, Nat.reduceLT, Nat.reduceLeDiff, ↓reduceIte, reduceCtorEq, Nat.reduceShiftRight, Nat.reduceAnd, Nat.reduceBneDiff]; done) | (simp only [kk0, e16, Y_walk_Reach, EV, ↓EVd, isCall, Nat.reduceAdd, Nat.reduceSub, Nat.reduceMul, Nat.reduceEqDiff, Nat.reduceBEq, Nat.reduceLT, Nat.reduceLeDiff, ↓reduceIte, reduceCtorEq, Nat.reduceShiftRight, Nat.reduceAnd, Nat.reduceBneDiff]; omega) | (simp only [kk0, e16, Y_walk_Reach, EV, ↓EVd, isCall, Nat.reduceAdd, Nat.reduceSub, Nat.reduceMul, Nat.reduceEqDiff, Nat.reduceBEq, Nat.reduceLT, Nat.reduceLeDiff, ↓reduceIte, reduceCtorEq, Nat.reduceShiftRight, Nat.reduceAnd, Nat.reduceBneDiff]; congr 1; omega)
end Go.Proofs.Ytnmljicimdhpmaa.AL

