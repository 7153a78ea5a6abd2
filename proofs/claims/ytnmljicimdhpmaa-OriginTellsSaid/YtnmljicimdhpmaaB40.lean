/- What of the attributes of any stack, and of any node, may not be, is what the document says: part 40 of 53. -/
import Derived.Test.YtnmljicimdhpmaaB39
set_option linter.all false
/- Models of functions, and that the functions are as their models: written by gen.py. -/
set_option linter.all false
set_option maxRecDepth 100000
namespace Go.Proofs.Ytnmljicimdhpmaa.AL
open Go Go.Proofs
def m_ref13_At (a0 : Branch) (a1 : Int) : Option (Node) := if a1 < 1 then some (⟨0, 0, 0, 0, [], [], (⟨0, 0, noBytes, (⟨0, 0, 0⟩ : Origin), 0⟩ : Attr)⟩ : Node)
 else if (a0.nodes.length : Int) < a1 then some (⟨0, 0, 0, 0, [], [], (⟨0, 0, noBytes, (⟨0, 0, 0⟩ : Origin), 0⟩ : Attr)⟩ : Node)
 else (ix a0.nodes (wr (a1 - 1))).bind fun v5 => some v5
def Y_ref13_At := And.intro (And.intro (And.intro ((@R3)) ((@R24))) (And.intro ((@R26)) ((@R46)))) (And.intro (And.intro ((@DBranch)) ((@DOrigin))) (And.intro ((@DAttr)) (And.intro ((@DNode)) ((@DEntry)))))
set_option maxHeartbeats 2000000 in
theorem ok_ref13_At (a0 : Branch) (a1 : Int) (r : Node) (hm0 : m_ref13_At a0 a1 = some r) : Ok Try.prog 57 [encBranch a0, int a1] (encNode r) := by
  unfold m_ref13_At at hm0
  refine okF fc_ref13_At (by simp) ?_
  unfold c_ref13_At
  by_cases h1 : a1 < 1
  · have e2 : (a1 < 1) = True := eq_true h1
    rw [if_pos h1] at hm0
    simp only [Option.some.injEq] at hm0
    subst hm0
    simp only [e2, Y_ref13_At, EV, ↓EVd, isCall, Nat.reduceAdd, Nat.reduceSub, Nat.reduceMul, Nat.reduceEqDiff, Nat.reduceBEq, Nat.reduceLT, Nat.reduceLeDiff, ↓reduceIte, reduceCtorEq, Nat.reduceShiftRight, Nat.reduceAnd, Nat.reduceBneDiff]
    all_goals first | done | rfl | exact frzR_closed (by simp only [CLO]) | exact frzR_sub (by simp only [CLO]) (Sub.agg (Subs.cons (Sub.refl _) (Subs.cons (Sub.refl _) (Subs.cons (Sub.refl _) (Subs.cons (Sub.refl _) (Subs.cons (Sub.nilS _) (Subs.cons (Sub.nilS _) (Subs.cons (Sub.refl _) (Subs.cons (Sub.refl _) (Subs.cons (Sub.refl _) (Subs.cons (Sub.refl _) (Subs.cons (Sub.refl _) (Subs.cons (Sub.refl _) (Subs.cons (Sub.refl _) (Subs.nil)))))))))))))))
  · have e2 : (a1 < 1) = False := eq_false h1
    rw [if_neg h1] at hm0
    by_cases h3 : (a0.nodes.length : Int) < a1
    · have e4 : ((a0.nodes.length : Int) < a1) = True := eq_true h3
      rw [if_pos h3] at hm0
      simp only [Option.some.injEq] at hm0
      subst hm0
      simp only [e2, e4, Y_ref13_At, EV, ↓EVd, isCall, Nat.reduceAdd, Nat.reduceSub, Nat.reduceMul, Nat.reduceEqDiff, Nat.reduceBEq, Nat.reduceLT, Nat.reduceLeDiff, ↓reduceIte, reduceCtorEq, Nat.reduceShiftRight, Nat.reduceAnd, Nat.reduceBneDiff]
      all_goals first | done | rfl | exact frzR_closed (by simp only [CLO]) | exact frzR_sub (by simp only [CLO]) (Sub.agg (Subs.cons (Sub.refl _) (Subs.cons (Sub.refl _) (Subs.cons (Sub.refl _) (Subs.cons (Sub.refl _) (Subs.cons (Sub.nilS _) (Subs.cons (Sub.nilS _) (Subs.cons (Sub.refl _) (Subs.cons (Sub.refl _) (Subs.cons (Sub.refl _) (Subs.cons (Sub.refl _) (Subs.cons (Sub.refl _) (Subs.cons (Sub.refl _) (Subs.cons (Sub.refl _) (Subs.nil)))))))))))))))
    · have e4 : ((a0.nodes.length : Int) < a1) = False := eq_false h3
      rw [if_neg h3] at hm0
      rcases h6 : ix a0.nodes (wr (a1 - 1)) with _ | v5
      · rw [h6] at hm0; simp only [Option.bind_none, reduceCtorEq] at hm0
      rw [h6] at hm0; simp only [Option.bind_some] at hm0
      have e7 := eq_true (ix_nonneg h6)
      have e8 := ix_enc encNode h6
      simp only [Option.some.injEq] at hm0
      subst hm0
      simp only [e2, e4, e7, e8, Y_ref13_At, EV, ↓EVd, isCall, Nat.reduceAdd, Nat.reduceSub, Nat.reduceMul, Nat.reduceEqDiff, Nat.reduceBEq, Nat.reduceLT, Nat.reduceLeDiff, ↓reduceIte, reduceCtorEq, Nat.reduceShiftRight, Nat.reduceAnd, Nat.reduceBneDiff]
      all_goals first | done | rfl | exact frzR_closed (by simp only [CLO])
def m_ref13_place_b0 (a0 : List Way) (a1 : Int) : Int → Option (St (Int) ((Unit) ⊕ (Int)))
 | v2 => if v2 < (a0.length : Int) then (ix a0 v2).bind fun v6 => if v6.ino = a1 then some (.out (.inr v2))
 else some (.nx (wr (v2 + 1)))
 else some (.out (.inl ()))
def m_ref13_place (a0 : List Way) (a1 : Int) : Option (Int) := (iter (m_ref13_place_b0 a0 a1) big 0).bind fun o => (match o with
 | (.inl _) => some (-1)
 | (.inr r) => some r)
def Y_ref13_place := And.intro (And.intro ((@R3)) ((@R49))) (And.intro ((@R52)) ((@DWay)))
set_option maxHeartbeats 2000000 in
theorem ok_ref13_place (a0 : List Way) (a1 : Int) (r : Int) (hm0 : m_ref13_place a0 a1 = some r) : Ok Try.prog 100 [.sl 3 (a0.map encWay), int a1] (int r) := by
  unfold m_ref13_place at hm0
  refine okF fc_ref13_place (by simp) ?_
  unfold c_ref13_place
  rcases ho0 : iter (m_ref13_place_b0 a0 a1) big 0 with _ | o0
  · rw [ho0] at hm0; simp only [Option.bind_none, reduceCtorEq] at hm0
  rw [ho0] at hm0; simp only [Option.bind_some] at hm0
  simp only [Y_ref13_place, EV, ↓EVd, isCall, Nat.reduceAdd, Nat.reduceSub, Nat.reduceMul, Nat.reduceEqDiff, Nat.reduceBEq, Nat.reduceLT, Nat.reduceLeDiff, ↓reduceIte, reduceCtorEq, Nat.reduceShiftRight, Nat.reduceAnd, Nat.reduceBneDiff]
  obtain ⟨J0_0, hJ0_0⟩ : ∃ J : AS → Prop, J = fun s => (.inl ()) = o0 := ⟨_, rfl⟩
  refine cwp_cut 0 J0_0 ?_ ?_
  rotate_left
  · clear ho0
    rintro ⟨T0, H0, x3⟩ hs
    rw [hJ0_0] at hs
    have hq := hs
    subst hq
    try dsimp only at hm0
    simp only [Option.some.injEq] at hm0
    subst hm0
    simp only [Y_ref13_place, EV, ↓EVd, isCall, Nat.reduceAdd, Nat.reduceSub, Nat.reduceMul, Nat.reduceEqDiff, Nat.reduceBEq, Nat.reduceLT, Nat.reduceLeDiff, ↓reduceIte, reduceCtorEq, Nat.reduceShiftRight, Nat.reduceAnd, Nat.reduceBneDiff]
    all_goals first | done | rfl
  obtain ⟨I0, hI0⟩ : ∃ I : Nat → AS → Prop, I = fun k s => ∃ v2 : Int, s.T 0 = .sl 3 (a0.map encWay) ∧ s.T 1 = int a1 ∧ s.T 5 = int v2 ∧ iter (m_ref13_place_b0 a0 a1) k v2 = some o0 := ⟨_, rfl⟩
  refine cwp_iter I0 big ?_ ?_ ?_
  · rw [hI0]
    refine TI.here ⟨0, ?_, ?_, ?_, ho0⟩
    all_goals first | omega | (simp only [Y_ref13_place, EV, ↓EVd, isCall, Nat.reduceAdd, Nat.reduceSub, Nat.reduceMul, Nat.reduceEqDiff, Nat.reduceBEq, Nat.reduceLT, Nat.reduceLeDiff, ↓reduceIte, reduceCtorEq, Nat.reduceShiftRight, Nat.reduceAnd, Nat.reduceBneDiff]; done) | (simp only [Y_ref13_place, EV, ↓EVd, isCall, Nat.reduceAdd, Nat.reduceSub, Nat.reduceMul, Nat.reduceEqDiff, Nat.reduceBEq, Nat.reduceLT, Nat.reduceLeDiff, ↓reduceIte, reduceCtorEq, Nat.reduceShiftRight, Nat.reduceAnd, Nat.reduceBneDiff]; omega) | (simp only [Y_ref13_place, EV, ↓EVd, isCall, Nat.reduceAdd, Nat.reduceSub, Nat.reduceMul, Nat.reduceEqDiff, Nat.reduceBEq, Nat.reduceLT, Nat.reduceLeDiff, ↓reduceIte, reduceCtorEq, Nat.reduceShiftRight, Nat.reduceAnd, Nat.reduceBneDiff]; congr 1; omega)
  · rintro s hs
    rw [hI0] at hs
    obtain ⟨_, _, _, _, hz⟩ := hs
    simp only [iter_zero, reduceCtorEq] at hz
  · clear ho0
    rintro k ⟨T0, H0, x1⟩ hs
    rw [hI0] at hs
    obtain ⟨v2, k0_0, k0_1, k0_2, hm1⟩ := hs
    try simp only at k0_0 k0_1 k0_2
    apply cw_cwp
    rw [iter_succ] at hm1; simp only [m_ref13_place_b0] at hm1
    have kk0 := And.intro ((k0_0)) (And.intro ((k0_1)) ((k0_2)))
    by_cases h4 : v2 < (a0.length : Int)
    · have e5 : (v2 < (a0.length : Int)) = True := eq_true h4
      rw [if_pos h4] at hm1
      rcases h7 : ix a0 v2 with _ | v6
      · rw [h7] at hm1; simp only [Option.bind_none, reduceCtorEq] at hm1
      rw [h7] at hm1; simp only [Option.bind_some] at hm1
      have e8 := eq_true (ix_nonneg h7)
      have e9 := ix_enc encWay h7
      by_cases h10 : v6.ino = a1
      · have e11 : (v6.ino = a1) = True := eq_true h10
        rw [if_pos h10] at hm1
        try simp only [Option.bind_some, Option.some.injEq] at hm1
        subst hm1
        try simp only [Option.bind_some, Option.some.injEq] at hm0
        subst hm0
        simp only [kk0, e5, e8, e9, e11, Y_ref13_place, EV, ↓EVd, isCall, Nat.reduceAdd, Nat.reduceSub, Nat.reduceMul, Nat.reduceEqDiff, Nat.reduceBEq, Nat.reduceLT, Nat.reduceLeDiff, ↓reduceIte, reduceCtorEq, Nat.reduceShiftRight, Nat.reduceAnd, Nat.reduceBneDiff]
        all_goals first | done | rfl
      · have e11 : (v6.ino = a1) = False := eq_false h10
        rw [if_neg h10] at hm1
        try simp only [Option.bind_some] at hm1
        simp only [kk0, e5, e8, e9, e11, Y_ref13_place, EV, ↓EVd, isCall, Nat.reduceAdd, Nat.reduceSub, Nat.reduceMul, Nat.reduceEqDiff, Nat.reduceBEq, Nat.reduceLT, Nat.reduceLeDiff, ↓reduceIte, reduceCtorEq, Nat.reduceShiftRight, Nat.reduceAnd, Nat.reduceBneDiff]
        rw [hI0]
        refine TI.here ⟨(wr (v2 + 1)), ?_, ?_, ?_, hm1⟩
        all_goals first | omega | (simp only [kk0, e5, e8, e9, e11, Y_ref13_place, EV, ↓EVd, isCall, Nat.reduceAdd, Nat.reduceSub, Nat.reduceMul, Nat.reduceEqDiff, Nat.reduceBEq, Nat.reduceLT, Nat.reduceLeDiff, ↓reduceIte, reduceCtorEq, Nat.reduceShiftRight, Nat.reduceAnd, Nat.reduceBneDiff]; done) | (simp only [kk0, e5, e8, e9, e11, Y_ref13_place, EV, ↓EVd, isCall, Nat.reduceAdd, Nat.reduceSub, Nat.reduceMul, Nat.reduceEqDiff, Nat.reduceBEq, Nat.reduceLT, Nat.reduceLeDiff, ↓reduceIte, reduceCtorEq, Nat.reduceShiftRight, Nat.reduceAnd, Nat.reduceBneDiff]; omega) | (simp only [kk0, e5, e8, e9, e11, Y_ref13_place, EV, ↓EVd, isCall, Nat.reduceAdd, Nat.reduceSub, Nat.reduceMul, Nat.reduceEqDiff, Nat.reduceBEq, Nat.reduceLT, Nat.reduceLeDiff, ↓reduceIte, reduceCtorEq, Nat.reduceShiftRight, Nat.reduceAnd, Nat.reduceBneDiff]; congr 1; omega)
    · have e5 : (v2 < (a0.length : Int)) = False := eq_false h4
      rw [if_neg h4] at hm1
      try simp only [Option.bind_some, Option.some.injEq] at hm1
      simp only [kk0, e5, Y_ref13_place, EV, ↓EVd, isCall, Nat.reduceAdd, Nat.reduceSub, Nat.reduceMul, Nat.reduceEqDiff, Nat.reduceBEq, Nat.reduceLT, Nat.reduceLeDiff, ↓reduceIte, reduceCtorEq, Nat.reduceShiftRight, Nat.reduceAnd, Nat.reduceBneDiff]
      rw [hJ0_0]
      exact TI.here hm1
def m_ref13_walk_b2 (a0 : Branch) (v37 : Int) (v51 : Node) : (List Way × List Ar2_Int × Int) → Option (St (List Way × List Ar2_Int × Int) (List Way × List Ar2_Int))
 | (v55, v57, v58) => if v58 < (v51.entries.length : Int) then (ix v51.entries v58).bind fun v66 => (m_ref13_At a0 v66.ino).bind fun v70 => if v70.kind = 1 then (m_ref13_place v55 v66.ino).bind fun v74 => if 0 ≤ v74 then (ix v55 v37).bind fun v78 => (ap 16 v57 ([(⟨v78.ino, v66.slot⟩ : Ar2_Int)] : List Ar2_Int)).bind fun _ => some (.nx (v55, (v57 ++ ([(⟨v78.ino, v66.slot⟩ : Ar2_Int)] : List Ar2_Int)), (wr (v58 + 1))))
 else (ap 32 v55 ([(⟨v66.ino, v37, v66.name⟩ : Way)] : List Way)).bind fun _ => some (.nx ((v55 ++ ([(⟨v66.ino, v37, v66.name⟩ : Way)] : List Way)), v57, (wr (v58 + 1))))
 else some (.nx (v55, v57, (wr (v58 + 1))))
 else some (.out (v55, v57))
def m_ref13_walk_b1 (a0 : Branch) : (List Way × List Ar2_Int × Int) → Option (St (List Way × List Ar2_Int × Int) (List Way × List Ar2_Int × Int))
 | (v34, v36, v37) => if v37 < (v34.length : Int) then (ix v34 v37).bind fun v46 => (m_ref13_At a0 v46.ino).bind fun v51 => (iter (m_ref13_walk_b2 a0 v37 v51) big (v34, v36, 0)).bind fun o => (match o with | (v61, v63) => some (.nx (v61, v63, (wr (v37 + 1)))))
 else some (.out (v34, v36, v37))
def m_ref13_walk_b0 (a0 : Branch) (a1 : List Int) : (List Way × List Ar2_Int × Int × Int) → Option (St (List Way × List Ar2_Int × Int × Int) (List Way × List Ar2_Int))
 | (v3, v5, v6, v7) => if v7 < (a1.length : Int) then (ix a1 v7).bind fun v15 => (m_ref13_At a0 v15).bind fun v19 => if v19.kind = 1 then (m_ref13_place v3 v15).bind fun v23 => if 0 ≤ v23 then some (.nx (v3, v5, v6, (wr (v7 + 1))))
 else (ap 32 v3 ([(⟨v15, (-1), noBytes⟩ : Way)] : List Way)).bind fun _ => (iter (m_ref13_walk_b1 a0) big ((v3 ++ ([(⟨v15, (-1), noBytes⟩ : Way)] : List Way)), v5, v6)).bind fun o => (match o with | (v40, v42, v43) => some (.nx (v40, v42, v43, (wr (v7 + 1)))))
 else some (.nx (v3, v5, v6, (wr (v7 + 1))))
 else some (.out (v3, v5))
def m_ref13_walk (a0 : Branch) (a1 : List Int) : Option (List Way × List Ar2_Int) := (iter (m_ref13_walk_b0 a0 a1) big (([] : List Way), ([] : List Ar2_Int), 0, 0)).bind fun o => (match o with | (v10, v12) => some (v10, v12))
def Y_ref13_walk := And.intro (And.intro (And.intro (And.intro ((@R3)) ((@R9))) (And.intro ((@R26)) ((@R40)))) (And.intro (And.intro ((@R46)) ((@R49))) (And.intro ((@R52)) (And.intro ((@R54)) ((@R63)))))) (And.intro (And.intro (And.intro ((@R67)) ((@R68))) (And.intro ((@DBranch)) (And.intro ((@DOrigin)) ((@DAttr))))) (And.intro (And.intro ((@DNode)) ((@DWay))) (And.intro ((@DEntry)) (And.intro ((@DAr2_Int)) ((@mixed))))))
set_option maxHeartbeats 2000000 in
theorem ok_ref13_walk (a0 : Branch) (a1 : List Int) (r : List Way × List Ar2_Int) (hm0 : m_ref13_walk a0 a1 = some r) : Ok Try.prog 74 [encBranch a0, .sl 1 (a1.map int)] (.tup [.sl 3 (r.1.map encWay), .sl 2 (r.2.map encAr2_Int)]) := by
  unfold m_ref13_walk at hm0
  refine okF fc_ref13_walk (by simp) ?_
  unfold c_ref13_walk
  rcases ho0 : iter (m_ref13_walk_b0 a0 a1) big (([] : List Way), ([] : List Ar2_Int), 0, 0) with _ | o0
  · rw [ho0] at hm0; simp only [Option.bind_none, reduceCtorEq] at hm0
  rw [ho0] at hm0; simp only [Option.bind_some] at hm0
  simp only [Y_ref13_walk, EV, ↓EVd, isCall, Nat.reduceAdd, Nat.reduceSub, Nat.reduceMul, Nat.reduceEqDiff, Nat.reduceBEq, Nat.reduceLT, Nat.reduceLeDiff, ↓reduceIte, reduceCtorEq, Nat.reduceShiftRight, Nat.reduceAnd, Nat.reduceBneDiff]
  obtain ⟨J0_0, hJ0_0⟩ : ∃ J : AS → Prop, J = fun s => ∃ v10 : List Way, ∃ v12 : List Ar2_Int, ∃ l9 : Nat, ∃ l11 : Nat, s.T 6 = .msl l9 v10.length ∧ s.T 7 = .msl l11 v12.length ∧ s.H l9 = some (.row 52 3 (v10.map encWay)) ∧ s.H l11 = some (.row 68 2 (v12.map encAr2_Int)) ∧ l9 < s.nx ∧ l11 < s.nx ∧ l9 ≠ l11 ∧ (v10, v12) = o0 := ⟨_, rfl⟩
  refine cwp_cut 0 J0_0 ?_ ?_
  rotate_left
  · clear ho0
    rintro ⟨T0, H0, x8⟩ hs
    rw [hJ0_0] at hs
    obtain ⟨v10, v12, l9, l11, k0_0_0, k0_0_1, k0_0_2, k0_0_3, k0_0_4, k0_0_5, k0_0_6, hq⟩ := hs
    subst hq
    try simp only at k0_0_0 k0_0_1 k0_0_2 k0_0_3 k0_0_4 k0_0_5 k0_0_6
    try dsimp only at hm0
    have kk0_0 := And.intro (And.intro (And.intro ((k0_0_0)) (And.intro ((k0_0_1)) ((k0_0_2)))) (And.intro (And.intro ((k0_0_3)) ((k0_0_4))) (And.intro ((ne2 k0_0_4)) ((ne2' k0_0_4))))) (And.intro (And.intro ((lt2 k0_0_4)) (And.intro ((k0_0_5)) ((ne2 k0_0_5)))) (And.intro (And.intro ((ne2' k0_0_5)) ((lt2 k0_0_5))) (And.intro ((k0_0_6)) ((k0_0_6.symm)))))
    simp only [Option.some.injEq] at hm0
    subst hm0
    simp only [kk0_0, Y_ref13_walk, EV, ↓EVd, isCall, Nat.reduceAdd, Nat.reduceSub, Nat.reduceMul, Nat.reduceEqDiff, Nat.reduceBEq, Nat.reduceLT, Nat.reduceLeDiff, ↓reduceIte, reduceCtorEq, Nat.reduceShiftRight, Nat.reduceAnd, Nat.reduceBneDiff]
    all_goals first | done | rfl | exact frzR_of 9 (frz_tup (frzs_cons (frz_msl (T := 52) (xs := (v10).map encWay) (by simp only [kk0_0, Y_ref13_walk, EV, ↓EVd, isCall, Nat.reduceAdd, Nat.reduceSub, Nat.reduceMul, Nat.reduceEqDiff, Nat.reduceBEq, Nat.reduceLT, Nat.reduceLeDiff, ↓reduceIte, reduceCtorEq, Nat.reduceShiftRight, Nat.reduceAnd, Nat.reduceBneDiff]) (by simp only [kk0_0, Y_ref13_walk, EV, ↓EVd, isCall, Nat.reduceAdd, Nat.reduceSub, Nat.reduceMul, Nat.reduceEqDiff, Nat.reduceBEq, Nat.reduceLT, Nat.reduceLeDiff, ↓reduceIte, reduceCtorEq, Nat.reduceShiftRight, Nat.reduceAnd, Nat.reduceBneDiff]) (frzs_closed (by simp only [CLO]) _ _)) (frzs_cons (frz_msl (T := 68) (xs := (v12).map encAr2_Int) (by simp only [kk0_0, Y_ref13_walk, EV, ↓EVd, isCall, Nat.reduceAdd, Nat.reduceSub, Nat.reduceMul, Nat.reduceEqDiff, Nat.reduceBEq, Nat.reduceLT, Nat.reduceLeDiff, ↓reduceIte, reduceCtorEq, Nat.reduceShiftRight, Nat.reduceAnd, Nat.reduceBneDiff]) (by simp only [kk0_0, Y_ref13_walk, EV, ↓EVd, isCall, Nat.reduceAdd, Nat.reduceSub, Nat.reduceMul, Nat.reduceEqDiff, Nat.reduceBEq, Nat.reduceLT, Nat.reduceLeDiff, ↓reduceIte, reduceCtorEq, Nat.reduceShiftRight, Nat.reduceAnd, Nat.reduceBneDiff]) (frzs_closed (by simp only [CLO]) _ _)) (frzs_nil)))) (Sub.tup (Subs.cons (Sub.refl _) (Subs.cons (Sub.refl _) (Subs.nil))))
  obtain ⟨I0, hI0⟩ : ∃ I : Nat → AS → Prop, I = fun k s => ∃ v3 : List Way, ∃ v5 : List Ar2_Int, ∃ v6 : Int, ∃ v7 : Int, ∃ l2 : Nat, ∃ l4 : Nat, s.T 1 = .sl 1 (a1.map int) ∧ s.T 2 = .loc 0 1 0 0 ∧ s.T 6 = .msl l2 v3.length ∧ s.T 7 = .msl l4 v5.length ∧ s.T 8 = int v6 ∧ s.T 9 = int v7 ∧ s.H 0 = some (.row 26 1 [encBranch a0]) ∧ s.H l2 = some (.row 52 3 (v3.map encWay)) ∧ s.H l4 = some (.row 68 2 (v5.map encAr2_Int)) ∧ 0 < s.nx ∧ l2 < s.nx ∧ l4 < s.nx ∧ 0 ≠ l2 ∧ 0 ≠ l4 ∧ l2 ≠ l4 ∧ iter (m_ref13_walk_b0 a0 a1) k (v3, v5, v6, v7) = some o0 := ⟨_, rfl⟩
  refine cwp_iter I0 big ?_ ?_ ?_
  · rw [hI0]
    refine TI.here ⟨([] : List Way), ([] : List Ar2_Int), 0, 0, 3, 4, ?_, ?_, ?_, ?_, ?_, ?_, ?_, ?_, ?_, ?_, ?_, ?_, ?_, ?_, ?_, ho0⟩
    all_goals first | omega | (simp only [Y_ref13_walk, EV, ↓EVd, isCall, Nat.reduceAdd, Nat.reduceSub, Nat.reduceMul, Nat.reduceEqDiff, Nat.reduceBEq, Nat.reduceLT, Nat.reduceLeDiff, ↓reduceIte, reduceCtorEq, Nat.reduceShiftRight, Nat.reduceAnd, Nat.reduceBneDiff]; done) | (simp only [Y_ref13_walk, EV, ↓EVd, isCall, Nat.reduceAdd, Nat.reduceSub, Nat.reduceMul, Nat.reduceEqDiff, Nat.reduceBEq, Nat.reduceLT, Nat.reduceLeDiff, ↓reduceIte, reduceCtorEq, Nat.reduceShiftRight, Nat.reduceAnd, Nat.reduceBneDiff]; omega) | (simp only [Y_ref13_walk, EV, ↓EVd, isCall, Nat.reduceAdd, Nat.reduceSub, Nat.reduceMul, Nat.reduceEqDiff, Nat.reduceBEq, Nat.reduceLT, Nat.reduceLeDiff, ↓reduceIte, reduceCtorEq, Nat.reduceShiftRight, Nat.reduceAnd, Nat.reduceBneDiff]; congr 1; omega)
  · rintro s hs
    rw [hI0] at hs
    obtain ⟨_, _, _, _, _, _, _, _, _, _, _, _, _, _, _, _, _, _, _, _, _, hz⟩ := hs
    simp only [iter_zero, reduceCtorEq] at hz
  · clear ho0
    rintro k ⟨T0, H0, x1⟩ hs
    rw [hI0] at hs
    obtain ⟨v3, v5, v6, v7, l2, l4, k0_0, k0_1, k0_2, k0_3, k0_4, k0_5, k0_6, k0_7, k0_8, k0_9, k0_10, k0_11, k0_12, k0_13, k0_14, hm1⟩ := hs
    try simp only at k0_0 k0_1 k0_2 k0_3 k0_4 k0_5 k0_6 k0_7 k0_8 k0_9 k0_10 k0_11 k0_12 k0_13 k0_14
    apply cw_cwp
    rw [iter_succ] at hm1; simp only [m_ref13_walk_b0] at hm1
    have kk0 := And.intro (And.intro (And.intro (And.intro ((k0_0)) (And.intro ((k0_1)) ((k0_2)))) (And.intro ((k0_3)) (And.intro ((k0_4)) ((k0_5))))) (And.intro (And.intro ((k0_6)) (And.intro ((k0_7)) ((k0_8)))) (And.intro (And.intro ((k0_9)) ((ne2 k0_9))) (And.intro ((ne2' k0_9)) ((lt2 k0_9)))))) (And.intro (And.intro (And.intro ((k0_10)) (And.intro ((ne2 k0_10)) ((ne2' k0_10)))) (And.intro (And.intro ((lt2 k0_10)) ((k0_11))) (And.intro ((ne2 k0_11)) ((ne2' k0_11))))) (And.intro (And.intro ((lt2 k0_11)) (And.intro ((k0_12)) ((k0_12.symm)))) (And.intro (And.intro ((k0_13)) ((k0_13.symm))) (And.intro ((k0_14)) ((k0_14.symm))))))
    by_cases h13 : v7 < (a1.length : Int)
    · have e14 : (v7 < (a1.length : Int)) = True := eq_true h13
      rw [if_pos h13] at hm1
      rcases h16 : ix a1 v7 with _ | v15
      · rw [h16] at hm1; simp only [Option.bind_none, reduceCtorEq] at hm1
      rw [h16] at hm1; simp only [Option.bind_some] at hm1
      have e17 := eq_true (ix_nonneg h16)
      have e18 := ix_enc int h16
      rcases h20 : m_ref13_At a0 v15 with _ | v19
      · rw [h20] at hm1; simp only [Option.bind_none, reduceCtorEq] at hm1
      rw [h20] at hm1; simp only [Option.bind_some] at hm1
      simp only [kk0, e14, e17, e18, Y_ref13_walk, EV, ↓EVd, isCall, Nat.reduceAdd, Nat.reduceSub, Nat.reduceMul, Nat.reduceEqDiff, Nat.reduceBEq, Nat.reduceLT, Nat.reduceLeDiff, ↓reduceIte, reduceCtorEq, Nat.reduceShiftRight, Nat.reduceAnd, Nat.reduceBneDiff]
      refine ⟨_, OpS1_ok (ok_ref13_At _ _ _ h20) rfl (by simp only [CLO]), ?_⟩
      by_cases h21 : v19.kind = 1
      · have e22 : (v19.kind = 1) = True := eq_true h21
        rw [if_pos h21] at hm1
        rcases h24 : m_ref13_place v3 v15 with _ | v23
        · rw [h24] at hm1; simp only [Option.bind_none, reduceCtorEq] at hm1
        rw [h24] at hm1; simp only [Option.bind_some] at hm1
        simp only [kk0, e14, e17, e18, e22, Y_ref13_walk, EV, ↓EVd, isCall, Nat.reduceAdd, Nat.reduceSub, Nat.reduceMul, Nat.reduceEqDiff, Nat.reduceBEq, Nat.reduceLT, Nat.reduceLeDiff, ↓reduceIte, reduceCtorEq, Nat.reduceShiftRight, Nat.reduceAnd, Nat.reduceBneDiff]
        refine ⟨_, OpS1_okb 9 (ok_ref13_place _ _ _ h24) rfl (frzs_cons (frz_msl (T := 52) (sz := 3) (xs := (v3).map encWay) (by first | rfl | simp only [kk0, e14, e17, e18, e22, Y_ref13_walk, EV, ↓EVd, isCall, Nat.reduceAdd, Nat.reduceSub, Nat.reduceMul, Nat.reduceEqDiff, Nat.reduceBEq, Nat.reduceLT, Nat.reduceLeDiff, ↓reduceIte, reduceCtorEq, Nat.reduceShiftRight, Nat.reduceAnd, Nat.reduceBneDiff]) (by first | rfl | simp only [kk0, e14, e17, e18, e22, Y_ref13_walk, EV, ↓EVd, isCall, Nat.reduceAdd, Nat.reduceSub, Nat.reduceMul, Nat.reduceEqDiff, Nat.reduceBEq, Nat.reduceLT, Nat.reduceLeDiff, ↓reduceIte, reduceCtorEq, Nat.reduceShiftRight, Nat.reduceAnd, Nat.reduceBneDiff]) (frzs_closed (xs := (v3).map encWay) (by simp only [CLO]) _ _)) (frzs_cons (frz_closed (x := int v15) (by simp only [CLO]) _ _) (frzs_nil))) rfl, ?_⟩
        by_cases h25 : 0 ≤ v23
        · have e26 : (0 ≤ v23) = True := eq_true h25
          rw [if_pos h25] at hm1
          try simp only [Option.bind_some] at hm1
          simp only [kk0, e14, e17, e18, e22, e26, Y_ref13_walk, EV, ↓EVd, isCall, Nat.reduceAdd, Nat.reduceSub, Nat.reduceMul, Nat.reduceEqDiff, Nat.reduceBEq, Nat.reduceLT, Nat.reduceLeDiff, ↓reduceIte, reduceCtorEq, Nat.reduceShiftRight, Nat.reduceAnd, Nat.reduceBneDiff]
          rw [hI0]
          refine TI.here ⟨v3, v5, v6, (wr (v7 + 1)), l2, l4, ?_, ?_, ?_, ?_, ?_, ?_, ?_, ?_, ?_, ?_, ?_, ?_, ?_, ?_, ?_, hm1⟩
          all_goals first | omega | (simp only [kk0, e14, e17, e18, e22, e26, Y_ref13_walk, EV, ↓EVd, isCall, Nat.reduceAdd, Nat.reduceSub, Nat.reduceMul, Nat.reduceEqDiff, Nat.reduceBEq, Nat.reduceLT, Nat.reduceLeDiff, ↓reduceIte, reduceCtorEq, Nat.reduceShiftRight, Nat.reduceAnd, Nat.reduceBneDiff]; done) | (simp only [kk0, e14, e17, e18, e22, e26, Y_ref13_walk, EV, ↓EVd, isCall, Nat.reduceAdd, Nat.reduceSub, Nat.reduceMul, Nat.reduceEqDiff, Nat.reduceBEq, Nat.reduceLT, Nat.reduceLeDiff, ↓reduceIte, reduceCtorEq, Nat.reduceShiftRight, Nat.reduceAnd, Nat.reduceBneDiff]; omega) | (simp only [kk0, e14, e17, e18, e22, e26, Y_ref13_walk, EV, ↓EVd, isCall, Nat.reduceAdd, Nat.reduceSub, Nat.reduceMul, Nat.reduceEqDiff, Nat.reduceBEq, Nat.reduceLT, Nat.reduceLeDiff, ↓reduceIte, reduceCtorEq, Nat.reduceShiftRight, Nat.reduceAnd, Nat.reduceBneDiff]; congr 1; omega)
        · have e26 : (0 ≤ v23) = False := eq_false h25
          rw [if_neg h25] at hm1
          have e27 : (.agg [int v15, int (-1), str noBytes] : AV) = encWay (⟨v15, (-1), noBytes⟩ : Way) := _root_.id rfl
          rcases h29 : ap 32 v3 ([(⟨v15, (-1), noBytes⟩ : Way)] : List Way) with _ | h29u
          · rw [h29] at hm1; simp only [Option.bind_none, reduceCtorEq] at hm1
          rw [h29] at hm1; simp only [Option.bind_some] at hm1
          have e30 := eq_true (ap_some h29).2.1
          have e31 := eq_true (ap_some h29).2.2
          try simp only [ZL] at e30 e31
          rcases ho1 : iter (m_ref13_walk_b1 a0) big ((v3 ++ ([(⟨v15, (-1), noBytes⟩ : Way)] : List Way)), v5, v6) with _ | o1
          · rw [ho1] at hm1; simp only [Option.bind_none, reduceCtorEq] at hm1
          rw [ho1] at hm1; simp only [Option.bind_some] at hm1
          simp only [kk0, e14, e17, e18, e22, e26, e27, e30, e31, Y_ref13_walk, EV, ↓EVd, isCall, Nat.reduceAdd, Nat.reduceSub, Nat.reduceMul, Nat.reduceEqDiff, Nat.reduceBEq, Nat.reduceLT, Nat.reduceLeDiff, ↓reduceIte, reduceCtorEq, Nat.reduceShiftRight, Nat.reduceAnd, Nat.reduceBneDiff]
          obtain ⟨J1_0, hJ1_0⟩ : ∃ J : AS → Prop, J = fun s => ∃ v40 : List Way, ∃ v42 : List Ar2_Int, ∃ v43 : Int, ∃ l39 : Nat, ∃ l41 : Nat, s.T 1 = .sl 1 (a1.map int) ∧ s.T 2 = .loc 0 1 0 0 ∧ s.T 6 = .msl l39 v40.length ∧ s.T 7 = .msl l41 v42.length ∧ s.T 8 = int v43 ∧ s.T 9 = int v7 ∧ s.H 0 = some (.row 26 1 [encBranch a0]) ∧ s.H l39 = some (.row 52 3 (v40.map encWay)) ∧ s.H l41 = some (.row 68 2 (v42.map encAr2_Int)) ∧ 0 < s.nx ∧ l39 < s.nx ∧ l41 < s.nx ∧ 0 ≠ l39 ∧ 0 ≠ l41 ∧ l39 ≠ l41 ∧ (v40, v42, v43) = o1 := ⟨_, rfl⟩
          refine cwp_cut 2 J1_0 ?_ ?_
          rotate_left
          · clear ho1
            rintro ⟨T1, H1, x38⟩ hs
            rw [hJ1_0] at hs
            obtain ⟨v40, v42, v43, l39, l41, k1_0_0, k1_0_1, k1_0_2, k1_0_3, k1_0_4, k1_0_5, k1_0_6, k1_0_7, k1_0_8, k1_0_9, k1_0_10, k1_0_11, k1_0_12, k1_0_13, k1_0_14, hq⟩ := hs
            subst hq
            try simp only at k1_0_0 k1_0_1 k1_0_2 k1_0_3 k1_0_4 k1_0_5 k1_0_6 k1_0_7 k1_0_8 k1_0_9 k1_0_10 k1_0_11 k1_0_12 k1_0_13 k1_0_14
            try dsimp only at hm1
            have kk1_0 := And.intro (And.intro (And.intro (And.intro ((k1_0_0)) (And.intro ((k1_0_1)) ((k1_0_2)))) (And.intro ((k1_0_3)) (And.intro ((k1_0_4)) ((k1_0_5))))) (And.intro (And.intro ((k1_0_6)) (And.intro ((k1_0_7)) ((k1_0_8)))) (And.intro (And.intro ((k1_0_9)) ((ne2 k1_0_9))) (And.intro ((ne2' k1_0_9)) ((lt2 k1_0_9)))))) (And.intro (And.intro (And.intro ((k1_0_10)) (And.intro ((ne2 k1_0_10)) ((ne2' k1_0_10)))) (And.intro (And.intro ((lt2 k1_0_10)) ((k1_0_11))) (And.intro ((ne2 k1_0_11)) ((ne2' k1_0_11))))) (And.intro (And.intro ((lt2 k1_0_11)) (And.intro ((k1_0_12)) ((k1_0_12.symm)))) (And.intro (And.intro ((k1_0_13)) ((k1_0_13.symm))) (And.intro ((k1_0_14)) ((k1_0_14.symm))))))
            try simp only [Option.bind_some] at hm1
            simp only [kk1_0, e14, e17, e18, e22, e26, e27, e30, e31, Y_ref13_walk, EV, ↓EVd, isCall, Nat.reduceAdd, Nat.reduceSub, Nat.reduceMul, Nat.reduceEqDiff, Nat.reduceBEq, Nat.reduceLT, Nat.reduceLeDiff, ↓reduceIte, reduceCtorEq, Nat.reduceShiftRight, Nat.reduceAnd, Nat.reduceBneDiff]
            rw [hI0]
            refine TI.here ⟨v40, v42, v43, (wr (v7 + 1)), l39, l41, ?_, ?_, ?_, ?_, ?_, ?_, ?_, ?_, ?_, ?_, ?_, ?_, ?_, ?_, ?_, hm1⟩
            all_goals first | omega | (simp only [kk1_0, e14, e17, e18, e22, e26, e27, e30, e31, Y_ref13_walk, EV, ↓EVd, isCall, Nat.reduceAdd, Nat.reduceSub, Nat.reduceMul, Nat.reduceEqDiff, Nat.reduceBEq, Nat.reduceLT, Nat.reduceLeDiff, ↓reduceIte, reduceCtorEq, Nat.reduceShiftRight, Nat.reduceAnd, Nat.reduceBneDiff]; done) | (simp only [kk1_0, e14, e17, e18, e22, e26, e27, e30, e31, Y_ref13_walk, EV, ↓EVd, isCall, Nat.reduceAdd, Nat.reduceSub, Nat.reduceMul, Nat.reduceEqDiff, Nat.reduceBEq, Nat.reduceLT, Nat.reduceLeDiff, ↓reduceIte, reduceCtorEq, Nat.reduceShiftRight, Nat.reduceAnd, Nat.reduceBneDiff]; omega) | (simp only [kk1_0, e14, e17, e18, e22, e26, e27, e30, e31, Y_ref13_walk, EV, ↓EVd, isCall, Nat.reduceAdd, Nat.reduceSub, Nat.reduceMul, Nat.reduceEqDiff, Nat.reduceBEq, Nat.reduceLT, Nat.reduceLeDiff, ↓reduceIte, reduceCtorEq, Nat.reduceShiftRight, Nat.reduceAnd, Nat.reduceBneDiff]; congr 1; omega)
          obtain ⟨I1, hI1⟩ : ∃ I : Nat → AS → Prop, I = fun k s => ∃ v34 : List Way, ∃ v36 : List Ar2_Int, ∃ v37 : Int, ∃ l33 : Nat, ∃ l35 : Nat, s.T 1 = .sl 1 (a1.map int) ∧ s.T 2 = .loc 0 1 0 0 ∧ s.T 6 = .msl l33 v34.length ∧ s.T 7 = .msl l35 v36.length ∧ s.T 8 = int v37 ∧ s.T 9 = int v7 ∧ s.H 0 = some (.row 26 1 [encBranch a0]) ∧ s.H l33 = some (.row 52 3 (v34.map encWay)) ∧ s.H l35 = some (.row 68 2 (v36.map encAr2_Int)) ∧ 0 < s.nx ∧ l33 < s.nx ∧ l35 < s.nx ∧ 0 ≠ l33 ∧ 0 ≠ l35 ∧ l33 ≠ l35 ∧ iter (m_ref13_walk_b1 a0) k (v34, v36, v37) = some o1 := ⟨_, rfl⟩
          refine cwp_iter I1 big ?_ ?_ ?_
          · rw [hI1]
            refine TI.here ⟨(v3 ++ ([(⟨v15, (-1), noBytes⟩ : Way)] : List Way)), v5, v6, (x1 + 28), l4, ?_, ?_, ?_, ?_, ?_, ?_, ?_, ?_, ?_, ?_, ?_, ?_, ?_, ?_, ?_, ho1⟩
            all_goals first | omega | (simp only [kk0, e14, e17, e18, e22, e26, e27, e30, e31, Y_ref13_walk, EV, ↓EVd, isCall, Nat.reduceAdd, Nat.reduceSub, Nat.reduceMul, Nat.reduceEqDiff, Nat.reduceBEq, Nat.reduceLT, Nat.reduceLeDiff, ↓reduceIte, reduceCtorEq, Nat.reduceShiftRight, Nat.reduceAnd, Nat.reduceBneDiff]; done) | (simp only [kk0, e14, e17, e18, e22, e26, e27, e30, e31, Y_ref13_walk, EV, ↓EVd, isCall, Nat.reduceAdd, Nat.reduceSub, Nat.reduceMul, Nat.reduceEqDiff, Nat.reduceBEq, Nat.reduceLT, Nat.reduceLeDiff, ↓reduceIte, reduceCtorEq, Nat.reduceShiftRight, Nat.reduceAnd, Nat.reduceBneDiff]; omega) | (simp only [kk0, e14, e17, e18, e22, e26, e27, e30, e31, Y_ref13_walk, EV, ↓EVd, isCall, Nat.reduceAdd, Nat.reduceSub, Nat.reduceMul, Nat.reduceEqDiff, Nat.reduceBEq, Nat.reduceLT, Nat.reduceLeDiff, ↓reduceIte, reduceCtorEq, Nat.reduceShiftRight, Nat.reduceAnd, Nat.reduceBneDiff]; congr 1; omega)
          · rintro s hs
            rw [hI1] at hs
            obtain ⟨_, _, _, _, _, _, _, _, _, _, _, _, _, _, _, _, _, _, _, _, hz⟩ := hs
            simp only [iter_zero, reduceCtorEq] at hz
          · clear ho1
            rintro k ⟨T1, H1, x32⟩ hs
            rw [hI1] at hs
            obtain ⟨v34, v36, v37, l33, l35, k1_0, k1_1, k1_2, k1_3, k1_4, k1_5, k1_6, k1_7, k1_8, k1_9, k1_10, k1_11, k1_12, k1_13, k1_14, hm2⟩ := hs
            try simp only at k1_0 k1_1 k1_2 k1_3 k1_4 k1_5 k1_6 k1_7 k1_8 k1_9 k1_10 k1_11 k1_12 k1_13 k1_14
            apply cw_cwp
            rw [iter_succ] at hm2; simp only [m_ref13_walk_b1] at hm2
            have kk1 := And.intro (And.intro (And.intro (And.intro ((k1_0)) (And.intro ((k1_1)) ((k1_2)))) (And.intro ((k1_3)) (And.intro ((k1_4)) ((k1_5))))) (And.intro (And.intro ((k1_6)) (And.intro ((k1_7)) ((k1_8)))) (And.intro (And.intro ((k1_9)) ((ne2 k1_9))) (And.intro ((ne2' k1_9)) ((lt2 k1_9)))))) (And.intro (And.intro (And.intro ((k1_10)) (And.intro ((ne2 k1_10)) ((ne2' k1_10)))) (And.intro (And.intro ((lt2 k1_10)) ((k1_11))) (And.intro ((ne2 k1_11)) ((ne2' k1_11))))) (And.intro (And.intro ((lt2 k1_11)) (And.intro ((k1_12)) ((k1_12.symm)))) (And.intro (And.intro ((k1_13)) ((k1_13.symm))) (And.intro ((k1_14)) ((k1_14.symm))))))
            by_cases h44 : v37 < (v34.length : Int)
            · have e45 : (v37 < (v34.length : Int)) = True := eq_true h44
              rw [if_pos h44] at hm2
              rcases h47 : ix v34 v37 with _ | v46
              · rw [h47] at hm2; simp only [Option.bind_none, reduceCtorEq] at hm2
              rw [h47] at hm2; simp only [Option.bind_some] at hm2
              have e48 := eq_true (ix_nonneg h47)
              have e49 := eq_true (ix_lt h47)
              have e50 := ix_enc encWay h47
              rcases h52 : m_ref13_At a0 v46.ino with _ | v51
              · rw [h52] at hm2; simp only [Option.bind_none, reduceCtorEq] at hm2
              rw [h52] at hm2; simp only [Option.bind_some] at hm2
              simp only [kk1, e14, e17, e18, e22, e26, e27, e30, e31, e45, e48, e49, e50, Y_ref13_walk, EV, ↓EVd, isCall, Nat.reduceAdd, Nat.reduceSub, Nat.reduceMul, Nat.reduceEqDiff, Nat.reduceBEq, Nat.reduceLT, Nat.reduceLeDiff, ↓reduceIte, reduceCtorEq, Nat.reduceShiftRight, Nat.reduceAnd, Nat.reduceBneDiff]
              refine ⟨_, OpS1_ok (ok_ref13_At _ _ _ h52) rfl (by simp only [CLO]), ?_⟩
              rcases ho2 : iter (m_ref13_walk_b2 a0 v37 v51) big (v34, v36, 0) with _ | o2
              · rw [ho2] at hm2; simp only [Option.bind_none, reduceCtorEq] at hm2
              rw [ho2] at hm2; simp only [Option.bind_some] at hm2
              simp only [kk1, e14, e17, e18, e22, e26, e27, e30, e31, e45, e48, e49, e50, Y_ref13_walk, EV, ↓EVd, isCall, Nat.reduceAdd, Nat.reduceSub, Nat.reduceMul, Nat.reduceEqDiff, Nat.reduceBEq, Nat.reduceLT, Nat.reduceLeDiff, ↓reduceIte, reduceCtorEq, Nat.reduceShiftRight, Nat.reduceAnd, Nat.reduceBneDiff]
              obtain ⟨J2_0, hJ2_0⟩ : ∃ J : AS → Prop, J = fun s => ∃ v61 : List Way, ∃ v63 : List Ar2_Int, ∃ l60 : Nat, ∃ l62 : Nat, s.T 1 = .sl 1 (a1.map int) ∧ s.T 2 = .loc 0 1 0 0 ∧ s.T 6 = .msl l60 v61.length ∧ s.T 7 = .msl l62 v63.length ∧ s.T 8 = int v37 ∧ s.T 9 = int v7 ∧ s.H 0 = some (.row 26 1 [encBranch a0]) ∧ s.H l60 = some (.row 52 3 (v61.map encWay)) ∧ s.H l62 = some (.row 68 2 (v63.map encAr2_Int)) ∧ 0 < s.nx ∧ l60 < s.nx ∧ l62 < s.nx ∧ 0 ≠ l60 ∧ 0 ≠ l62 ∧ l60 ≠ l62 ∧ (v61, v63) = o2 := ⟨_, rfl⟩
              refine cwp_cut 4 J2_0 ?_ ?_
              rotate_left
              · clear ho2
                rintro ⟨T2, H2, x59⟩ hs
                rw [hJ2_0] at hs
                obtain ⟨v61, v63, l60, l62, k2_0_0, k2_0_1, k2_0_2, k2_0_3, k2_0_4, k2_0_5, k2_0_6, k2_0_7, k2_0_8, k2_0_9, k2_0_10, k2_0_11, k2_0_12, k2_0_13, k2_0_14, hq⟩ := hs
                subst hq
                try simp only at k2_0_0 k2_0_1 k2_0_2 k2_0_3 k2_0_4 k2_0_5 k2_0_6 k2_0_7 k2_0_8 k2_0_9 k2_0_10 k2_0_11 k2_0_12 k2_0_13 k2_0_14
                try dsimp only at hm2
                have kk2_0 := And.intro (And.intro (And.intro (And.intro ((k2_0_0)) (And.intro ((k2_0_1)) ((k2_0_2)))) (And.intro ((k2_0_3)) (And.intro ((k2_0_4)) ((k2_0_5))))) (And.intro (And.intro ((k2_0_6)) (And.intro ((k2_0_7)) ((k2_0_8)))) (And.intro (And.intro ((k2_0_9)) ((ne2 k2_0_9))) (And.intro ((ne2' k2_0_9)) ((lt2 k2_0_9)))))) (And.intro (And.intro (And.intro ((k2_0_10)) (And.intro ((ne2 k2_0_10)) ((ne2' k2_0_10)))) (And.intro (And.intro ((lt2 k2_0_10)) ((k2_0_11))) (And.intro ((ne2 k2_0_11)) ((ne2' k2_0_11))))) (And.intro (And.intro ((lt2 k2_0_11)) (And.intro ((k2_0_12)) ((k2_0_12.symm)))) (And.intro (And.intro ((k2_0_13)) ((k2_0_13.symm))) (And.intro ((k2_0_14)) ((k2_0_14.symm))))))
                try simp only [Option.bind_some] at hm2
                simp only [kk2_0, e14, e17, e18, e22, e26, e27, e30, e31, e45, e48, e49, e50, Y_ref13_walk, EV, ↓EVd, isCall, Nat.reduceAdd, Nat.reduceSub, Nat.reduceMul, Nat.reduceEqDiff, Nat.reduceBEq, Nat.reduceLT, Nat.reduceLeDiff, ↓reduceIte, reduceCtorEq, Nat.reduceShiftRight, Nat.reduceAnd, Nat.reduceBneDiff]
                rw [hI1]
                refine TI.here ⟨v61, v63, (wr (v37 + 1)), l60, l62, ?_, ?_, ?_, ?_, ?_, ?_, ?_, ?_, ?_, ?_, ?_, ?_, ?_, ?_, ?_, hm2⟩
                all_goals first | omega | (simp only [kk2_0, e14, e17, e18, e22, e26, e27, e30, e31, e45, e48, e49, e50, Y_ref13_walk, EV, ↓EVd, isCall, Nat.reduceAdd, Nat.reduceSub, Nat.reduceMul, Nat.reduceEqDiff, Nat.reduceBEq, Nat.reduceLT, Nat.reduceLeDiff, ↓reduceIte, reduceCtorEq, Nat.reduceShiftRight, Nat.reduceAnd, Nat.reduceBneDiff]; done) | (simp only [kk2_0, e14, e17, e18, e22, e26, e27, e30, e31, e45, e48, e49, e50, Y_ref13_walk, EV, ↓EVd, isCall, Nat.reduceAdd, Nat.reduceSub, Nat.reduceMul, Nat.reduceEqDiff, Nat.reduceBEq, Nat.reduceLT, Nat.reduceLeDiff, ↓reduceIte, reduceCtorEq, Nat.reduceShiftRight, Nat.reduceAnd, Nat.reduceBneDiff]; omega) | (simp only [kk2_0, e14, e17, e18, e22, e26, e27, e30, e31, e45, e48, e49, e50, Y_ref13_walk, EV, ↓EVd, isCall, Nat.reduceAdd, Nat.reduceSub, Nat.reduceMul, Nat.reduceEqDiff, Nat.reduceBEq, Nat.reduceLT, Nat.reduceLeDiff, ↓reduceIte, reduceCtorEq, Nat.reduceShiftRight, Nat.reduceAnd, Nat.reduceBneDiff]; congr 1; omega)
              obtain ⟨I2, hI2⟩ : ∃ I : Nat → AS → Prop, I = fun k s => ∃ v55 : List Way, ∃ v57 : List Ar2_Int, ∃ v58 : Int, ∃ l54 : Nat, ∃ l56 : Nat, s.T 1 = .sl 1 (a1.map int) ∧ s.T 2 = .loc 0 1 0 0 ∧ s.T 6 = .msl l54 v55.length ∧ s.T 7 = .msl l56 v57.length ∧ s.T 8 = int v37 ∧ s.T 9 = int v7 ∧ s.T 10 = .sl 3 (v51.entries.map encEntry) ∧ s.T 11 = int v58 ∧ s.H 0 = some (.row 26 1 [encBranch a0]) ∧ s.H l54 = some (.row 52 3 (v55.map encWay)) ∧ s.H l56 = some (.row 68 2 (v57.map encAr2_Int)) ∧ 0 < s.nx ∧ l54 < s.nx ∧ l56 < s.nx ∧ 0 ≠ l54 ∧ 0 ≠ l56 ∧ l54 ≠ l56 ∧ iter (m_ref13_walk_b2 a0 v37 v51) k (v55, v57, v58) = some o2 := ⟨_, rfl⟩
              refine cwp_iter I2 big ?_ ?_ ?_
              · rw [hI2]
                refine TI.here ⟨v34, v36, 0, l33, l35, ?_, ?_, ?_, ?_, ?_, ?_, ?_, ?_, ?_, ?_, ?_, ?_, ?_, ?_, ?_, ?_, ?_, ho2⟩
                all_goals first | omega | (simp only [kk1, e14, e17, e18, e22, e26, e27, e30, e31, e45, e48, e49, e50, Y_ref13_walk, EV, ↓EVd, isCall, Nat.reduceAdd, Nat.reduceSub, Nat.reduceMul, Nat.reduceEqDiff, Nat.reduceBEq, Nat.reduceLT, Nat.reduceLeDiff, ↓reduceIte, reduceCtorEq, Nat.reduceShiftRight, Nat.reduceAnd, Nat.reduceBneDiff]; done) | (simp only [kk1, e14, e17, e18, e22, e26, e27, e30, e31, e45, e48, e49, e50, Y_ref13_walk, EV, ↓EVd, isCall, Nat.reduceAdd, Nat.reduceSub, Nat.reduceMul, Nat.reduceEqDiff, Nat.reduceBEq, Nat.reduceLT, Nat.reduceLeDiff, ↓reduceIte, reduceCtorEq, Nat.reduceShiftRight, Nat.reduceAnd, Nat.reduceBneDiff]; omega) | (simp only [kk1, e14, e17, e18, e22, e26, e27, e30, e31, e45, e48, e49, e50, Y_ref13_walk, EV, ↓EVd, isCall, Nat.reduceAdd, Nat.reduceSub, Nat.reduceMul, Nat.reduceEqDiff, Nat.reduceBEq, Nat.reduceLT, Nat.reduceLeDiff, ↓reduceIte, reduceCtorEq, Nat.reduceShiftRight, Nat.reduceAnd, Nat.reduceBneDiff]; congr 1; omega)
              · rintro s hs
                rw [hI2] at hs
                obtain ⟨_, _, _, _, _, _, _, _, _, _, _, _, _, _, _, _, _, _, _, _, _, _, hz⟩ := hs
                simp only [iter_zero, reduceCtorEq] at hz
              · clear ho2
                rintro k ⟨T2, H2, x53⟩ hs
                rw [hI2] at hs
                obtain ⟨v55, v57, v58, l54, l56, k2_0, k2_1, k2_2, k2_3, k2_4, k2_5, k2_6, k2_7, k2_8, k2_9, k2_10, k2_11, k2_12, k2_13, k2_14, k2_15, k2_16, hm3⟩ := hs
                try simp only at k2_0 k2_1 k2_2 k2_3 k2_4 k2_5 k2_6 k2_7 k2_8 k2_9 k2_10 k2_11 k2_12 k2_13 k2_14 k2_15 k2_16
                apply cw_cwp
                rw [iter_succ] at hm3; simp only [m_ref13_walk_b2] at hm3
                have kk2 := And.intro (And.intro (And.intro (And.intro ((k2_0)) (And.intro ((k2_1)) ((k2_2)))) (And.intro (And.intro ((k2_3)) ((k2_4))) (And.intro ((k2_5)) ((k2_6))))) (And.intro (And.intro ((k2_7)) (And.intro ((k2_8)) ((k2_9)))) (And.intro (And.intro ((k2_10)) ((k2_11))) (And.intro ((ne2 k2_11)) ((ne2' k2_11)))))) (And.intro (And.intro (And.intro ((lt2 k2_11)) (And.intro ((k2_12)) ((ne2 k2_12)))) (And.intro (And.intro ((ne2' k2_12)) ((lt2 k2_12))) (And.intro ((k2_13)) ((ne2 k2_13))))) (And.intro (And.intro (And.intro ((ne2' k2_13)) ((lt2 k2_13))) (And.intro ((k2_14)) ((k2_14.symm)))) (And.intro (And.intro ((k2_15)) ((k2_15.symm))) (And.intro ((k2_16)) ((k2_16.symm))))))
                by_cases h64 : v58 < (v51.entries.length : Int)
                · have e65 : (v58 < (v51.entries.length : Int)) = True := eq_true h64
                  rw [if_pos h64] at hm3
                  rcases h67 : ix v51.entries v58 with _ | v66
                  · rw [h67] at hm3; simp only [Option.bind_none, reduceCtorEq] at hm3
                  rw [h67] at hm3; simp only [Option.bind_some] at hm3
                  have e68 := eq_true (ix_nonneg h67)
                  have e69 := ix_enc encEntry h67
                  rcases h71 : m_ref13_At a0 v66.ino with _ | v70
                  · rw [h71] at hm3; simp only [Option.bind_none, reduceCtorEq] at hm3
                  rw [h71] at hm3; simp only [Option.bind_some] at hm3
                  simp only [kk2, e14, e17, e18, e22, e26, e27, e30, e31, e45, e48, e49, e50, e65, e68, e69, Y_ref13_walk, EV, ↓EVd, isCall, Nat.reduceAdd, Nat.reduceSub, Nat.reduceMul, Nat.reduceEqDiff, Nat.reduceBEq, Nat.reduceLT, Nat.reduceLeDiff, ↓reduceIte, reduceCtorEq, Nat.reduceShiftRight, Nat.reduceAnd, Nat.reduceBneDiff]
                  refine ⟨_, OpS1_ok (ok_ref13_At _ _ _ h71) rfl (by simp only [CLO]), ?_⟩
                  by_cases h72 : v70.kind = 1
                  · have e73 : (v70.kind = 1) = True := eq_true h72
                    rw [if_pos h72] at hm3
                    rcases h75 : m_ref13_place v55 v66.ino with _ | v74
                    · rw [h75] at hm3; simp only [Option.bind_none, reduceCtorEq] at hm3
                    rw [h75] at hm3; simp only [Option.bind_some] at hm3
                    simp only [kk2, e14, e17, e18, e22, e26, e27, e30, e31, e45, e48, e49, e50, e65, e68, e69, e73, Y_ref13_walk, EV, ↓EVd, isCall, Nat.reduceAdd, Nat.reduceSub, Nat.reduceMul, Nat.reduceEqDiff, Nat.reduceBEq, Nat.reduceLT, Nat.reduceLeDiff, ↓reduceIte, reduceCtorEq, Nat.reduceShiftRight, Nat.reduceAnd, Nat.reduceBneDiff]
                    refine S1_okb 9 (ok_ref13_place _ _ _ h75) rfl (frzs_cons (frz_msl (T := 52) (sz := 3) (xs := (v55).map encWay) (by first | rfl | simp only [kk2, e14, e17, e18, e22, e26, e27, e30, e31, e45, e48, e49, e50, e65, e68, e69, e73, Y_ref13_walk, EV, ↓EVd, isCall, Nat.reduceAdd, Nat.reduceSub, Nat.reduceMul, Nat.reduceEqDiff, Nat.reduceBEq, Nat.reduceLT, Nat.reduceLeDiff, ↓reduceIte, reduceCtorEq, Nat.reduceShiftRight, Nat.reduceAnd, Nat.reduceBneDiff]) (by first | rfl | simp only [kk2, e14, e17, e18, e22, e26, e27, e30, e31, e45, e48, e49, e50, e65, e68, e69, e73, Y_ref13_walk, EV, ↓EVd, isCall, Nat.reduceAdd, Nat.reduceSub, Nat.reduceMul, Nat.reduceEqDiff, Nat.reduceBEq, Nat.reduceLT, Nat.reduceLeDiff, ↓reduceIte, reduceCtorEq, Nat.reduceShiftRight, Nat.reduceAnd, Nat.reduceBneDiff]) (frzs_closed (xs := (v55).map encWay) (by simp only [CLO]) _ _)) (frzs_cons (frz_closed (x := int v66.ino) (by simp only [CLO]) _ _) (frzs_nil))) rfl ?_
                    by_cases h76 : 0 ≤ v74
                    · have e77 : (0 ≤ v74) = True := eq_true h76
                      rw [if_pos h76] at hm3
                      rcases h79 : ix v55 v37 with _ | v78
                      · rw [h79] at hm3; simp only [Option.bind_none, reduceCtorEq] at hm3
                      rw [h79] at hm3; simp only [Option.bind_some] at hm3
                      have e80 := eq_true (ix_nonneg h79)
                      have e81 := eq_true (ix_lt h79)
                      have e82 := ix_enc encWay h79
                      have e83 : (.agg [int v78.ino, int v66.slot] : AV) = encAr2_Int (⟨v78.ino, v66.slot⟩ : Ar2_Int) := _root_.id rfl
                      rcases h85 : ap 16 v57 ([(⟨v78.ino, v66.slot⟩ : Ar2_Int)] : List Ar2_Int) with _ | h85u
                      · rw [h85] at hm3; simp only [Option.bind_none, reduceCtorEq] at hm3
                      rw [h85] at hm3; simp only [Option.bind_some] at hm3
                      have e86 := eq_true (ap_some h85).2.1
                      have e87 := eq_true (ap_some h85).2.2
                      try simp only [ZL] at e86 e87
                      try simp only [Option.bind_some] at hm3
                      simp only [kk2, e14, e17, e18, e22, e26, e27, e30, e31, e45, e48, e49, e50, e65, e68, e69, e73, e77, e80, e81, e82, e83, e86, e87, Y_ref13_walk, EV, ↓EVd, isCall, Nat.reduceAdd, Nat.reduceSub, Nat.reduceMul, Nat.reduceEqDiff, Nat.reduceBEq, Nat.reduceLT, Nat.reduceLeDiff, ↓reduceIte, reduceCtorEq, Nat.reduceShiftRight, Nat.reduceAnd, Nat.reduceBneDiff]
                      rw [hI2]
                      refine TI.here ⟨v55, (v57 ++ ([(⟨v78.ino, v66.slot⟩ : Ar2_Int)] : List Ar2_Int)), (wr (v58 + 1)), l54, (x53 + 34), ?_, ?_, ?_, ?_, ?_, ?_, ?_, ?_, ?_, ?_, ?_, ?_, ?_, ?_, ?_, ?_, ?_, hm3⟩
                      all_goals first | omega | (simp only [kk2, e14, e17, e18, e22, e26, e27, e30, e31, e45, e48, e49, e50, e65, e68, e69, e73, e77, e80, e81, e82, e83, e86, e87, Y_ref13_walk, EV, ↓EVd, isCall, Nat.reduceAdd, Nat.reduceSub, Nat.reduceMul, Nat.reduceEqDiff, Nat.reduceBEq, Nat.reduceLT, Nat.reduceLeDiff, ↓reduceIte, reduceCtorEq, Nat.reduceShiftRight, Nat.reduceAnd, Nat.reduceBneDiff]; done) | (simp only [kk2, e14, e17, e18, e22, e26, e27, e30, e31, e45, e48, e49, e50, e65, e68, e69, e73, e77, e80, e81, e82, e83, e86, e87, Y_ref13_walk, EV, ↓EVd, isCall, Nat.reduceAdd, Nat.reduceSub, Nat.reduceMul, Nat.reduceEqDiff, Nat.reduceBEq, Nat.reduceLT, Nat.reduceLeDiff, ↓reduceIte, reduceCtorEq, Nat.reduceShiftRight, Nat.reduceAnd, Nat.reduceBneDiff]; omega) | (simp only [kk2, e14, e17, e18, e22, e26, e27, e30, e31, e45, e48, e49, e50, e65, e68, e69, e73, e77, e80, e81, e82, e83, e86, e87, Y_ref13_walk, EV, ↓EVd, isCall, Nat.reduceAdd, Nat.reduceSub, Nat.reduceMul, Nat.reduceEqDiff, Nat.reduceBEq, Nat.reduceLT, Nat.reduceLeDiff, ↓reduceIte, reduceCtorEq, Nat.reduceShiftRight, Nat.reduceAnd, Nat.reduceBneDiff]; congr 1; omega)
                    · have e77 : (0 ≤ v74) = False := eq_false h76
                      rw [if_neg h76] at hm3
                      have e88 : (.agg [int v66.ino, int v37, str v66.name] : AV) = encWay (⟨v66.ino, v37, v66.name⟩ : Way) := _root_.id rfl
                      rcases h90 : ap 32 v55 ([(⟨v66.ino, v37, v66.name⟩ : Way)] : List Way) with _ | h90u
                      · rw [h90] at hm3; simp only [Option.bind_none, reduceCtorEq] at hm3
                      rw [h90] at hm3; simp only [Option.bind_some] at hm3
                      have e91 := eq_true (ap_some h90).2.1
                      have e92 := eq_true (ap_some h90).2.2
                      try simp only [ZL] at e91 e92
                      try simp only [Option.bind_some] at hm3
                      simp only [kk2, e14, e17, e18, e22, e26, e27, e30, e31, e45, e48, e49, e50, e65, e68, e69, e73, e77, e88, e91, e92, Y_ref13_walk, EV, ↓EVd, isCall, Nat.reduceAdd, Nat.reduceSub, Nat.reduceMul, Nat.reduceEqDiff, Nat.reduceBEq, Nat.reduceLT, Nat.reduceLeDiff, ↓reduceIte, reduceCtorEq, Nat.reduceShiftRight, Nat.reduceAnd, Nat.reduceBneDiff]
                      rw [hI2]
                      refine TI.here ⟨(v55 ++ ([(⟨v66.ino, v37, v66.name⟩ : Way)] : List Way)), v57, (wr (v58 + 1)), (x53 + 35), l56, ?_, ?_, ?_, ?_, ?_, ?_, ?_, ?_, ?_, ?_, ?_, ?_, ?_, ?_, ?_, ?_, ?_, hm3⟩
                      all_goals first | omega | (simp only [kk2, e14, e17, e18, e22, e26, e27, e30, e31, e45, e48, e49, e50, e65, e68, e69, e73, e77, e88, e91, e92, Y_ref13_walk, EV, ↓EVd, isCall, Nat.reduceAdd, Nat.reduceSub, Nat.reduceMul, Nat.reduceEqDiff, Nat.reduceBEq, Nat.reduceLT, Nat.reduceLeDiff, ↓reduceIte, reduceCtorEq, Nat.reduceShiftRight, Nat.reduceAnd, Nat.reduceBneDiff]; done) | (simp only [kk2, e14, e17, e18, e22, e26, e27, e30, e31, e45, e48, e49, e50, e65, e68, e69, e73, e77, e88, e91, e92, Y_ref13_walk, EV, ↓EVd, isCall, Nat.reduceAdd, Nat.reduceSub, Nat.reduceMul, Nat.reduceEqDiff, Nat.reduceBEq, Nat.reduceLT, Nat.reduceLeDiff, ↓reduceIte, reduceCtorEq, Nat.reduceShiftRight, Nat.reduceAnd, Nat.reduceBneDiff]; omega) | (simp only [kk2, e14, e17, e18, e22, e26, e27, e30, e31, e45, e48, e49, e50, e65, e68, e69, e73, e77, e88, e91, e92, Y_ref13_walk, EV, ↓EVd, isCall, Nat.reduceAdd, Nat.reduceSub, Nat.reduceMul, Nat.reduceEqDiff, Nat.reduceBEq, Nat.reduceLT, Nat.reduceLeDiff, ↓reduceIte, reduceCtorEq, Nat.reduceShiftRight, Nat.reduceAnd, Nat.reduceBneDiff]; congr 1; omega)
                  · have e73 : (v70.kind = 1) = False := eq_false h72
                    rw [if_neg h72] at hm3
                    try simp only [Option.bind_some] at hm3
                    simp only [kk2, e14, e17, e18, e22, e26, e27, e30, e31, e45, e48, e49, e50, e65, e68, e69, e73, Y_ref13_walk, EV, ↓EVd, isCall, Nat.reduceAdd, Nat.reduceSub, Nat.reduceMul, Nat.reduceEqDiff, Nat.reduceBEq, Nat.reduceLT, Nat.reduceLeDiff, ↓reduceIte, reduceCtorEq, Nat.reduceShiftRight, Nat.reduceAnd, Nat.reduceBneDiff]
                    rw [hI2]
                    refine TI.here ⟨v55, v57, (wr (v58 + 1)), l54, l56, ?_, ?_, ?_, ?_, ?_, ?_, ?_, ?_, ?_, ?_, ?_, ?_, ?_, ?_, ?_, ?_, ?_, hm3⟩
                    all_goals first | omega | (simp only [kk2, e14, e17, e18, e22, e26, e27, e30, e31, e45, e48, e49, e50, e65, e68, e69, e73, Y_ref13_walk, EV, ↓EVd, isCall, Nat.reduceAdd, Nat.reduceSub, Nat.reduceMul, Nat.reduceEqDiff, Nat.reduceBEq, Nat.reduceLT, Nat.reduceLeDiff, ↓reduceIte, reduceCtorEq, Nat.reduceShiftRight, Nat.reduceAnd, Nat.reduceBneDiff]; done) | (simp only [kk2, e14, e17, e18, e22, e26, e27, e30, e31, e45, e48, e49, e50, e65, e68, e69, e73, Y_ref13_walk, EV, ↓EVd, isCall, Nat.reduceAdd, Nat.reduceSub, Nat.reduceMul, Nat.reduceEqDiff, Nat.reduceBEq, Nat.reduceLT, Nat.reduceLeDiff, ↓reduceIte, reduceCtorEq, Nat.reduceShiftRight, Nat.reduceAnd, Nat.reduceBneDiff]; omega) | (simp only [kk2, e14, e17, e18, e22, e26, e27, e30, e31, e45, e48, e49, e50, e65, e68, e69, e73, Y_ref13_walk, EV, ↓EVd, isCall, Nat.reduceAdd, Nat.reduceSub, Nat.reduceMul, Nat.reduceEqDiff, Nat.reduceBEq, Nat.reduceLT, Nat.reduceLeDiff, ↓reduceIte, reduceCtorEq, Nat.reduceShiftRight, Nat.reduceAnd, Nat.reduceBneDiff]; congr 1; omega)
                · have e65 : (v58 < (v51.entries.length : Int)) = False := eq_false h64
                  rw [if_neg h64] at hm3
                  try simp only [Option.bind_some, Option.some.injEq] at hm3
                  simp only [kk2, e14, e17, e18, e22, e26, e27, e30, e31, e45, e48, e49, e50, e65, Y_ref13_walk, EV, ↓EVd, isCall, Nat.reduceAdd, Nat.reduceSub, Nat.reduceMul, Nat.reduceEqDiff, Nat.reduceBEq, Nat.reduceLT, Nat.reduceLeDiff, ↓reduceIte, reduceCtorEq, Nat.reduceShiftRight, Nat.reduceAnd, Nat.reduceBneDiff]
                  rw [hJ2_0]
                  refine TI.here ⟨v55, v57, l54, l56, ?_, ?_, ?_, ?_, ?_, ?_, ?_, ?_, ?_, ?_, ?_, ?_, ?_, ?_, ?_, hm3⟩
                  all_goals first | omega | (simp only [kk2, e14, e17, e18, e22, e26, e27, e30, e31, e45, e48, e49, e50, e65, Y_ref13_walk, EV, ↓EVd, isCall, Nat.reduceAdd, Nat.reduceSub, Nat.reduceMul, Nat.reduceEqDiff, Nat.reduceBEq, Nat.reduceLT, Nat.reduceLeDiff, ↓reduceIte, reduceCtorEq, Nat.reduceShiftRight, Nat.reduceAnd, Nat.reduceBneDiff]; done) | (simp only [kk2, e14, e17, e18, e22, e26, e27, e30, e31, e45, e48, e49, e50, e65, Y_ref13_walk, EV, ↓EVd, isCall, Nat.reduceAdd, Nat.reduceSub, Nat.reduceMul, Nat.reduceEqDiff, Nat.reduceBEq, Nat.reduceLT, Nat.reduceLeDiff, ↓reduceIte, reduceCtorEq, Nat.reduceShiftRight, Nat.reduceAnd, Nat.reduceBneDiff]; omega) | (simp only [kk2, e14, e17, e18, e22, e26, e27, e30, e31, e45, e48, e49, e50, e65, Y_ref13_walk, EV, ↓EVd, isCall, Nat.reduceAdd, Nat.reduceSub, Nat.reduceMul, Nat.reduceEqDiff, Nat.reduceBEq, Nat.reduceLT, Nat.reduceLeDiff, ↓reduceIte, reduceCtorEq, Nat.reduceShiftRight, Nat.reduceAnd, Nat.reduceBneDiff]; congr 1; omega)
            · have e45 : (v37 < (v34.length : Int)) = False := eq_false h44
              rw [if_neg h44] at hm2
              try simp only [Option.bind_some, Option.some.injEq] at hm2
              simp only [kk1, e14, e17, e18, e22, e26, e27, e30, e31, e45, Y_ref13_walk, EV, ↓EVd, isCall, Nat.reduceAdd, Nat.reduceSub, Nat.reduceMul, Nat.reduceEqDiff, Nat.reduceBEq, Nat.reduceLT, Nat.reduceLeDiff, ↓reduceIte, reduceCtorEq, Nat.reduceShiftRight, Nat.reduceAnd, Nat.reduceBneDiff]
              rw [hJ1_0]
              refine TI.here ⟨v34, v36, v37, l33, l35, ?_, ?_, ?_, ?_, ?_, ?_, ?_, ?_, ?_, ?_, ?_, ?_, ?_, ?_, ?_, hm2⟩
              all_goals first | omega | (simp only [kk1, e14, e17, e18, e22, e26, e27, e30, e31, e45, Y_ref13_walk, EV, ↓EVd, isCall, Nat.reduceAdd, Nat.reduceSub, Nat.reduceMul, Nat.reduceEqDiff, Nat.reduceBEq, Nat.reduceLT, Nat.reduceLeDiff, ↓reduceIte, reduceCtorEq, Nat.reduceShiftRight, Nat.reduceAnd, Nat.reduceBneDiff]; done) | (simp only [kk1, e14, e17, e18, e22, e26, e27, e30, e31, e45, Y_ref13_walk, EV, ↓EVd, isCall, Nat.reduceAdd, Nat.reduceSub, Nat.reduceMul, Nat.reduceEqDiff, Nat.reduceBEq, Nat.reduceLT, Nat.reduceLeDiff, ↓reduceIte, reduceCtorEq, Nat.reduceShiftRight, Nat.reduceAnd, Nat.reduceBneDiff]; omega) | (simp only [kk1, e14, e17, e18, e22, e26, e27, e30, e31, e45, Y_ref13_walk, EV, ↓EVd, isCall, Nat.reduceAdd, Nat.reduceSub, Nat.reduceMul, Nat.reduceEqDiff, Nat.reduceBEq, Nat.reduceLT, Nat.reduceLeDiff, ↓reduceIte, reduceCtorEq, Nat.reduceShiftRight, Nat.reduceAnd, Nat.reduceBneDiff]; congr 1; omega)
      · have e22 : (v19.kind = 1) = False := eq_false h21
        rw [if_neg h21] at hm1
        try simp only [Option.bind_some] at hm1
        simp only [kk0, e14, e17, e18, e22, Y_ref13_walk, EV, ↓EVd, isCall, Nat.reduceAdd, Nat.reduceSub, Nat.reduceMul, Nat.reduceEqDiff, Nat.reduceBEq, Nat.reduceLT, Nat.reduceLeDiff, ↓reduceIte, reduceCtorEq, Nat.reduceShiftRight, Nat.reduceAnd, Nat.reduceBneDiff]
        rw [hI0]
        refine TI.here ⟨v3, v5, v6, (wr (v7 + 1)), l2, l4, ?_, ?_, ?_, ?_, ?_, ?_, ?_, ?_, ?_, ?_, ?_, ?_, ?_, ?_, ?_, hm1⟩
        all_goals first | omega | (simp only [kk0, e14, e17, e18, e22, Y_ref13_walk, EV, ↓EVd, isCall, Nat.reduceAdd, Nat.reduceSub, Nat.reduceMul, Nat.reduceEqDiff, Nat.reduceBEq, Nat.reduceLT, Nat.reduceLeDiff, ↓reduceIte, reduceCtorEq, Nat.reduceShiftRight, Nat.reduceAnd, Nat.reduceBneDiff]; done) | (simp only [kk0, e14, e17, e18, e22, Y_ref13_walk, EV, ↓EVd, isCall, Nat.reduceAdd, Nat.reduceSub, Nat.reduceMul, Nat.reduceEqDiff, Nat.reduceBEq, Nat.reduceLT, Nat.reduceLeDiff, ↓reduceIte, reduceCtorEq, Nat.reduceShiftRight, Nat.reduceAnd, Nat.reduceBneDiff]; omega) | (simp only [kk0, e14, e17, e18, e22, Y_ref13_walk, EV, ↓EVd, isCall, Nat.reduceAdd, Nat.reduceSub, Nat.reduceMul, Nat.reduceEqDiff, Nat.reduceBEq, Nat.reduceLT, Nat.reduceLeDiff, ↓reduceIte, reduceCtorEq, Nat.reduceShiftRight, Nat.reduceAnd, Nat.reduceBneDiff]; congr 1; omega)
    · have e14 : (v7 < (a1.length : Int)) = False := eq_false h13
      rw [if_neg h13] at hm1
      try simp only [Option.bind_some, Option.some.injEq] at hm1
      simp only [kk0, e14, Y_ref13_walk, EV, ↓EVd, isCall, Nat.reduceAdd, Nat.reduceSub, Nat.reduceMul, Nat.reduceEqDiff, Nat.reduceBEq, Nat.reduceLT, Nat.reduceLeDiff, ↓reduceIte, reduceCtorEq, Nat.reduceShiftRight, Nat.reduceAnd, Nat.reduceBneDiff]
      rw [hJ0_0]
      refine TI.here ⟨v3, v5, l2, l4, ?_, ?_, ?_, ?_, ?_, ?_, ?_, hm1⟩
      all_goals first | omega | (simp only [kk0, e14, Y_ref13_walk, EV, ↓EVd, isCall, Nat.reduceAdd, Nat.reduceSub, Nat.reduceMul, Nat.reduceEqDiff, Nat.reduceBEq, Nat.reduceLT, Nat.reduceLeDiff, ↓reduceIte, reduceCtorEq, Nat.reduceShiftRight, Nat.reduceAnd, Nat.reduceBneDiff]; done) | (simp only [kk0, e14, Y_ref13_walk, EV, ↓EVd, isCall, Nat.reduceAdd, Nat.reduceSub, Nat.reduceMul, Nat.reduceEqDiff, Nat.reduceBEq, Nat.reduceLT, Nat.reduceLeDiff, ↓reduceIte, reduceCtorEq, Nat.reduceShiftRight, Nat.reduceAnd, Nat.reduceBneDiff]; omega) | (simp only [kk0, e14, Y_ref13_walk, EV, ↓EVd, isCall, Nat.reduceAdd, Nat.reduceSub, Nat.reduceMul, Nat.reduceEqDiff, Nat.reduceBEq, Nat.reduceLT, Nat.reduceLeDiff, ↓reduceIte, reduceCtorEq, Nat.reduceShiftRight, Nat.reduceAnd, Nat.reduceBneDiff]; congr 1; omega)
def m_ref13_Dirs (a0 : Branch) (a1 : List Int) : Option (List Way) := (m_ref13_walk a0 a1).bind fun v1 => some v1.1
def Y_ref13_Dirs := And.intro (And.intro (And.intro ((@R3)) ((@R26))) (And.intro ((@R63)) ((@DBranch)))) (And.intro (And.intro ((@DOrigin)) ((@DAttr))) (And.intro ((@DNode)) (And.intro ((@DWay)) ((@DEntry)))))
set_option maxHeartbeats 2000000 in
theorem ok_ref13_Dirs (a0 : Branch) (a1 : List Int) (r : List Way) (hm0 : m_ref13_Dirs a0 a1 = some r) : Ok Try.prog 38 [encBranch a0, .sl 1 (a1.map int)] (.sl 3 (r.map encWay)) := by
  unfold m_ref13_Dirs at hm0
  refine okF fc_ref13_Dirs (by simp) ?_
  unfold c_ref13_Dirs
  rcases h2 : m_ref13_walk a0 a1 with _ | v1
  · rw [h2] at hm0; simp only [Option.bind_none, reduceCtorEq] at hm0
  rw [h2] at hm0; simp only [Option.bind_some] at hm0
  simp only [Y_ref13_Dirs, EV, ↓EVd, isCall, Nat.reduceAdd, Nat.reduceSub, Nat.reduceMul, Nat.reduceEqDiff, Nat.reduceBEq, Nat.reduceLT, Nat.reduceLeDiff, ↓reduceIte, reduceCtorEq, Nat.reduceShiftRight, Nat.reduceAnd, Nat.reduceBneDiff]
  refine S1_ok (ok_ref13_walk _ _ _ h2) rfl (by simp only [CLO]) ?_
  simp only [Option.some.injEq] at hm0
  subst hm0
  simp only [Y_ref13_Dirs, EV, ↓EVd, isCall, Nat.reduceAdd, Nat.reduceSub, Nat.reduceMul, Nat.reduceEqDiff, Nat.reduceBEq, Nat.reduceLT, Nat.reduceLeDiff, ↓reduceIte, reduceCtorEq, Nat.reduceShiftRight, Nat.reduceAnd, Nat.reduceBneDiff]
  all_goals first | done | rfl | exact frzR_closed (by simp only [CLO])
def m_ref13_Reach_b1 (v22 : Node) : (Int × List Bool) → Option (St (Int × List Bool) (List Bool))
 | (v25, v26) => if v25 < (v22.entries.length : Int) then (ix v22.entries v25).bind fun v31 => if 1 ≤ v31.ino then if v31.ino ≤ (v26.length : Int) then (ix v26 (wr (v31.ino - 1))).bind fun v39 => some (.nx ((wr (v25 + 1)), (v26.set ((wr (v31.ino - 1))).toNat true)))
 else some (.nx ((wr (v25 + 1)), v26))
 else some (.nx ((wr (v25 + 1)), v26))
 else some (.out v26)
def m_ref13_Reach_b0 (a0 : Branch) (v4 : List Way) : (Int × List Bool) → Option (St (Int × List Bool) (List Bool))
 | (v7, v8) => if v7 < (v4.length : Int) then (ix v4 v7).bind fun v13 => (ix v8 (wr (v13.ino - 1))).bind fun v17 => (m_ref13_At a0 v13.ino).bind fun v22 => (iter (m_ref13_Reach_b1 v22) big (0, (v8.set ((wr (v13.ino - 1))).toNat true))).bind fun o => (match o with | v28 => some (.nx ((wr (v7 + 1)), v28)))
 else some (.out v8)
def m_ref13_Reach (a0 : Branch) (a1 : List Int) : Option (List Bool) := (ck (0 ≤ (a0.nodes.length : Int) ∧ (a0.nodes.length : Int) ≤ (a0.nodes.length : Int) ∧ (1 : Int) * (a0.nodes.length : Int) ≤ 281474976710656 ∧ (a0.nodes.length : Int) ≤ 9223372036854775807)).bind fun _ => (m_ref13_Dirs a0 a1).bind fun v4 => (iter (m_ref13_Reach_b0 a0 v4) big (0, (List.replicate (a0.nodes.length : Int).toNat false))).bind fun o => (match o with | v10 => some v10)
def Y_ref13_Reach := And.intro (And.intro (And.intro (And.intro ((@R3)) ((@R4))) (And.intro ((@R24)) ((@R26)))) (And.intro (And.intro ((@R40)) ((@R46))) (And.intro ((@R49)) (And.intro ((@R52)) ((@R54)))))) (And.intro (And.intro (And.intro ((@R63)) ((@R72))) (And.intro ((@DBranch)) ((@DOrigin)))) (And.intro (And.intro ((@DAttr)) ((@DNode))) (And.intro ((@DWay)) (And.intro ((@DEntry)) ((@mixed))))))
set_option maxHeartbeats 2000000 in
theorem ok_ref13_Reach (a0 : Branch) (a1 : List Int) (r : List Bool) (hm0 : m_ref13_Reach a0 a1 = some r) : Ok Try.prog 45 [encBranch a0, .sl 1 (a1.map int)] (.sl 1 (r.map bool)) := by
  unfold m_ref13_Reach at hm0
  refine okF fc_ref13_Reach (by simp) ?_
  unfold c_ref13_Reach
  rcases h1 : ck (0 ≤ (a0.nodes.length : Int) ∧ (a0.nodes.length : Int) ≤ (a0.nodes.length : Int) ∧ (1 : Int) * (a0.nodes.length : Int) ≤ 281474976710656 ∧ (a0.nodes.length : Int) ≤ 9223372036854775807) with _ | h1u
  · rw [h1] at hm0; simp only [Option.bind_none, reduceCtorEq] at hm0
  rw [h1] at hm0; simp only [Option.bind_some] at hm0
  have e2_0 := eq_true (ck_some h1).1
  have e2_1 := eq_true (ck_some h1).2.1
  have e2_2 := eq_true (ck_some h1).2.2.1
  have e2_3 := eq_true (ck_some h1).2.2.2
  have e3 : List.replicate ((a0.nodes.length : Int).toNat) (bool false) = (List.replicate ((a0.nodes.length : Int).toNat) false).map bool := (by simp only [List.map_replicate]; first | done | rfl)
  rcases h5 : m_ref13_Dirs a0 a1 with _ | v4
  · rw [h5] at hm0; simp only [Option.bind_none, reduceCtorEq] at hm0
  rw [h5] at hm0; simp only [Option.bind_some] at hm0
  simp only [e2_0, e2_1, e2_2, e2_3, e3, Y_ref13_Reach, EV, ↓EVd, isCall, Nat.reduceAdd, Nat.reduceSub, Nat.reduceMul, Nat.reduceEqDiff, Nat.reduceBEq, Nat.reduceLT, Nat.reduceLeDiff, ↓reduceIte, reduceCtorEq, Nat.reduceShiftRight, Nat.reduceAnd, Nat.reduceBneDiff]
  refine S1_ok (ok_ref13_Dirs _ _ _ h5) rfl (by simp only [CLO]) ?_
  rcases ho0 : iter (m_ref13_Reach_b0 a0 v4) big (0, (List.replicate (a0.nodes.length : Int).toNat false)) with _ | o0
  · rw [ho0] at hm0; simp only [Option.bind_none, reduceCtorEq] at hm0
  rw [ho0] at hm0; simp only [Option.bind_some] at hm0
  simp only [e2_0, e2_1, e2_2, e2_3, e3, Y_ref13_Reach, EV, ↓EVd, isCall, Nat.reduceAdd, Nat.reduceSub, Nat.reduceMul, Nat.reduceEqDiff, Nat.reduceBEq, Nat.reduceLT, Nat.reduceLeDiff, ↓reduceIte, reduceCtorEq, Nat.reduceShiftRight, Nat.reduceAnd, Nat.reduceBneDiff]
  obtain ⟨J0_0, hJ0_0⟩ : ∃ J : AS → Prop, J = fun s => ∃ v10 : List Bool, s.T 5 = .msl 5 v10.length ∧ s.H 5 = some (.row 4 1 (v10.map bool)) ∧ 5 < s.nx ∧ v10 = o0 := ⟨_, rfl⟩
  refine cwp_cut 0 J0_0 ?_ ?_
  rotate_left
  · clear ho0
    rintro ⟨T0, H0, x9⟩ hs
    rw [hJ0_0] at hs
    obtain ⟨v10, k0_0_0, k0_0_1, k0_0_2, hq⟩ := hs
    subst hq
    try simp only at k0_0_0 k0_0_1 k0_0_2
    try dsimp only at hm0
    have kk0_0 := And.intro (And.intro ((k0_0_0)) (And.intro ((k0_0_1)) ((k0_0_2)))) (And.intro ((ne2 k0_0_2)) (And.intro ((ne2' k0_0_2)) ((lt2 k0_0_2))))
    simp only [Option.some.injEq] at hm0
    subst hm0
    simp only [kk0_0, e2_0, e2_1, e2_2, e2_3, e3, Y_ref13_Reach, EV, ↓EVd, isCall, Nat.reduceAdd, Nat.reduceSub, Nat.reduceMul, Nat.reduceEqDiff, Nat.reduceBEq, Nat.reduceLT, Nat.reduceLeDiff, ↓reduceIte, reduceCtorEq, Nat.reduceShiftRight, Nat.reduceAnd, Nat.reduceBneDiff]
    all_goals first | done | rfl | exact frzR_msl (T := 4) (by simp only [kk0_0, e2_0, e2_1, e2_2, e2_3, e3, Y_ref13_Reach, EV, ↓EVd, isCall, Nat.reduceAdd, Nat.reduceSub, Nat.reduceMul, Nat.reduceEqDiff, Nat.reduceBEq, Nat.reduceLT, Nat.reduceLeDiff, ↓reduceIte, reduceCtorEq, Nat.reduceShiftRight, Nat.reduceAnd, Nat.reduceBneDiff]) (by simp only [kk0_0, e2_0, e2_1, e2_2, e2_3, e3, Y_ref13_Reach, EV, ↓EVd, isCall, Nat.reduceAdd, Nat.reduceSub, Nat.reduceMul, Nat.reduceEqDiff, Nat.reduceBEq, Nat.reduceLT, Nat.reduceLeDiff, ↓reduceIte, reduceCtorEq, Nat.reduceShiftRight, Nat.reduceAnd, Nat.reduceBneDiff]) (by simp only [CLO])
  obtain ⟨I0, hI0⟩ : ∃ I : Nat → AS → Prop, I = fun k s => ∃ v7 : Int, ∃ v8 : List Bool, s.T 2 = .loc 0 1 0 0 ∧ s.T 5 = .msl 5 v8.length ∧ s.T 6 = .sl 3 (v4.map encWay) ∧ s.T 7 = int v7 ∧ s.H 0 = some (.row 26 1 [encBranch a0]) ∧ s.H 5 = some (.row 4 1 (v8.map bool)) ∧ 0 < s.nx ∧ 5 < s.nx ∧ iter (m_ref13_Reach_b0 a0 v4) k (v7, v8) = some o0 := ⟨_, rfl⟩
  refine cwp_iter I0 big ?_ ?_ ?_
  · rw [hI0]
    refine TI.here ⟨0, (List.replicate (a0.nodes.length : Int).toNat false), ?_, ?_, ?_, ?_, ?_, ?_, ?_, ?_, ho0⟩
    all_goals first | omega | (simp only [e2_0, e2_1, e2_2, e2_3, e3, Y_ref13_Reach, EV, ↓EVd, isCall, Nat.reduceAdd, Nat.reduceSub, Nat.reduceMul, Nat.reduceEqDiff, Nat.reduceBEq, Nat.reduceLT, Nat.reduceLeDiff, ↓reduceIte, reduceCtorEq, Nat.reduceShiftRight, Nat.reduceAnd, Nat.reduceBneDiff]; done) | (simp only [e2_0, e2_1, e2_2, e2_3, e3, Y_ref13_Reach, EV, ↓EVd, isCall, Nat.reduceAdd, Nat.reduceSub, Nat.reduceMul, Nat.reduceEqDiff, Nat.reduceBEq, Nat.reduceLT, Nat.reduceLeDiff, ↓reduceIte, reduceCtorEq, Nat.reduceShiftRight, Nat.reduceAnd, Nat.reduceBneDiff]; omega) | (simp only [e2_0, e2_1, e2_2, e2_3, e3, Y_ref13_Reach, EV, ↓EVd, isCall, Nat.reduceAdd, Nat.reduceSub, Nat.reduceMul, Nat.reduceEqDiff, Nat.reduceBEq, Nat.reduceLT, Nat.reduceLeDiff, ↓reduceIte, reduceCtorEq, Nat.reduceShiftRight, Nat.reduceAnd, Nat.reduceBneDiff]; congr 1; omega)
  · rintro s hs
    rw [hI0] at hs
    obtain ⟨_, _, _, _, _, _, _, _, _, _, hz⟩ := hs
    simp only [iter_zero, reduceCtorEq] at hz
  · clear ho0
    rintro k ⟨T0, H0, x6⟩ hs
    rw [hI0] at hs
    obtain ⟨v7, v8, k0_0, k0_1, k0_2, k0_3, k0_4, k0_5, k0_6, k0_7, hm1⟩ := hs
    try simp only at k0_0 k0_1 k0_2 k0_3 k0_4 k0_5 k0_6 k0_7
    apply cw_cwp
    rw [iter_succ] at hm1; simp only [m_ref13_Reach_b0] at hm1
    have kk0 := And.intro (And.intro (And.intro ((k0_0)) (And.intro ((k0_1)) ((k0_2)))) (And.intro (And.intro ((k0_3)) ((k0_4))) (And.intro ((k0_5)) ((k0_6))))) (And.intro (And.intro ((ne2 k0_6)) (And.intro ((ne2' k0_6)) ((lt2 k0_6)))) (And.intro (And.intro ((k0_7)) ((ne2 k0_7))) (And.intro ((ne2' k0_7)) ((lt2 k0_7)))))
    by_cases h11 : v7 < (v4.length : Int)
    · have e12 : (v7 < (v4.length : Int)) = True := eq_true h11
      rw [if_pos h11] at hm1
      rcases h14 : ix v4 v7 with _ | v13
      · rw [h14] at hm1; simp only [Option.bind_none, reduceCtorEq] at hm1
      rw [h14] at hm1; simp only [Option.bind_some] at hm1
      have e15 := eq_true (ix_nonneg h14)
      have e16 := ix_enc encWay h14
      rcases h18 : ix v8 (wr (v13.ino - 1)) with _ | v17
      · rw [h18] at hm1; simp only [Option.bind_none, reduceCtorEq] at hm1
      rw [h18] at hm1; simp only [Option.bind_some] at hm1
      have e19 := eq_true (ix_nonneg h18)
      have e20 := eq_true (ix_lt h18)
      have e21 := ix_enc bool h18
      rcases h23 : m_ref13_At a0 v13.ino with _ | v22
      · rw [h23] at hm1; simp only [Option.bind_none, reduceCtorEq] at hm1
      rw [h23] at hm1; simp only [Option.bind_some] at hm1
      simp only [kk0, e2_0, e2_1, e2_2, e2_3, e3, e12, e15, e16, e19, e20, e21, Y_ref13_Reach, EV, ↓EVd, isCall, Nat.reduceAdd, Nat.reduceSub, Nat.reduceMul, Nat.reduceEqDiff, Nat.reduceBEq, Nat.reduceLT, Nat.reduceLeDiff, ↓reduceIte, reduceCtorEq, Nat.reduceShiftRight, Nat.reduceAnd, Nat.reduceBneDiff]
      refine ⟨_, OpS1_ok (ok_ref13_At _ _ _ h23) rfl (by simp only [CLO]), ?_⟩
      rcases ho1 : iter (m_ref13_Reach_b1 v22) big (0, (v8.set ((wr (v13.ino - 1))).toNat true)) with _ | o1
      · rw [ho1] at hm1; simp only [Option.bind_none, reduceCtorEq] at hm1
      rw [ho1] at hm1; simp only [Option.bind_some] at hm1
      simp only [kk0, e2_0, e2_1, e2_2, e2_3, e3, e12, e15, e16, e19, e20, e21, Y_ref13_Reach, EV, ↓EVd, isCall, Nat.reduceAdd, Nat.reduceSub, Nat.reduceMul, Nat.reduceEqDiff, Nat.reduceBEq, Nat.reduceLT, Nat.reduceLeDiff, ↓reduceIte, reduceCtorEq, Nat.reduceShiftRight, Nat.reduceAnd, Nat.reduceBneDiff]
      obtain ⟨J1_0, hJ1_0⟩ : ∃ J : AS → Prop, J = fun s => ∃ v28 : List Bool, s.T 2 = .loc 0 1 0 0 ∧ s.T 5 = .msl 5 v28.length ∧ s.T 6 = .sl 3 (v4.map encWay) ∧ s.T 7 = int v7 ∧ s.H 0 = some (.row 26 1 [encBranch a0]) ∧ s.H 5 = some (.row 4 1 (v28.map bool)) ∧ 0 < s.nx ∧ 5 < s.nx ∧ v28 = o1 := ⟨_, rfl⟩
      refine cwp_cut 2 J1_0 ?_ ?_
      rotate_left
      · clear ho1
        rintro ⟨T1, H1, x27⟩ hs
        rw [hJ1_0] at hs
        obtain ⟨v28, k1_0_0, k1_0_1, k1_0_2, k1_0_3, k1_0_4, k1_0_5, k1_0_6, k1_0_7, hq⟩ := hs
        subst hq
        try simp only at k1_0_0 k1_0_1 k1_0_2 k1_0_3 k1_0_4 k1_0_5 k1_0_6 k1_0_7
        try dsimp only at hm1
        have kk1_0 := And.intro (And.intro (And.intro ((k1_0_0)) (And.intro ((k1_0_1)) ((k1_0_2)))) (And.intro (And.intro ((k1_0_3)) ((k1_0_4))) (And.intro ((k1_0_5)) ((k1_0_6))))) (And.intro (And.intro ((ne2 k1_0_6)) (And.intro ((ne2' k1_0_6)) ((lt2 k1_0_6)))) (And.intro (And.intro ((k1_0_7)) ((ne2 k1_0_7))) (And.intro ((ne2' k1_0_7)) ((lt2 k1_0_7)))))
        try simp only [Option.bind_some] at hm1
        simp only [kk1_0, e2_0, e2_1, e2_2, e2_3, e3, e12, e15, e16, e19, e20, e21, Y_ref13_Reach, EV, ↓EVd, isCall, Nat.reduceAdd, Nat.reduceSub, Nat.reduceMul, Nat.reduceEqDiff, Nat.reduceBEq, Nat.reduceLT, Nat.reduceLeDiff, ↓reduceIte, reduceCtorEq, Nat.reduceShiftRight, Nat.reduceAnd, Nat.reduceBneDiff]
        rw [hI0]
        refine TI.here ⟨(wr (v7 + 1)), v28, ?_, ?_, ?_, ?_, ?_, ?_, ?_, ?_, hm1⟩
        all_goals first | omega | (simp only [kk1_0, e2_0, e2_1, e2_2, e2_3, e3, e12, e15, e16, e19, e20, e21, Y_ref13_Reach, EV, ↓EVd, isCall, Nat.reduceAdd, Nat.reduceSub, Nat.reduceMul, Nat.reduceEqDiff, Nat.reduceBEq, Nat.reduceLT, Nat.reduceLeDiff, ↓reduceIte, reduceCtorEq, Nat.reduceShiftRight, Nat.reduceAnd, Nat.reduceBneDiff]; done) | (simp only [kk1_0, e2_0, e2_1, e2_2, e2_3, e3, e12, e15, e16, e19, e20, e21, Y_ref13_Reach, EV, ↓EVd, isCall, Nat.reduceAdd, Nat.reduceSub, Nat.reduceMul, Nat.reduceEqDiff, Nat.reduceBEq, Nat.reduceLT, Nat.reduceLeDiff, ↓reduceIte, reduceCtorEq, Nat.reduceShiftRight, Nat.reduceAnd, Nat.reduceBneDiff]; omega) | (simp only [kk1_0, e2_0, e2_1, e2_2, e2_3, e3, e12, e15, e16, e19, e20, e21, Y_ref13_Reach, EV, ↓EVd, isCall, Nat.reduceAdd, Nat.reduceSub, Nat.reduceMul, Nat.reduceEqDiff, Nat.reduceBEq, Nat.reduceLT, Nat.reduceLeDiff, ↓reduceIte, reduceCtorEq, Nat.reduceShiftRight, Nat.reduceAnd, Nat.reduceBneDiff]; congr 1; omega)
      obtain ⟨I1, hI1⟩ : ∃ I : Nat → AS → Prop, I = fun k s => ∃ v25 : Int, ∃ v26 : List Bool, s.T 2 = .loc 0 1 0 0 ∧ s.T 5 = .msl 5 v26.length ∧ s.T 6 = .sl 3 (v4.map encWay) ∧ s.T 7 = int v7 ∧ s.T 8 = .sl 3 (v22.entries.map encEntry) ∧ s.T 9 = int v25 ∧ s.H 0 = some (.row 26 1 [encBranch a0]) ∧ s.H 5 = some (.row 4 1 (v26.map bool)) ∧ 0 < s.nx ∧ 5 < s.nx ∧ iter (m_ref13_Reach_b1 v22) k (v25, v26) = some o1 := ⟨_, rfl⟩
      refine cwp_iter I1 big ?_ ?_ ?_
      · rw [hI1]
        refine TI.here ⟨0, (v8.set ((wr (v13.ino - 1))).toNat true), ?_, ?_, ?_, ?_, ?_, ?_, ?_, ?_, ?_, ?_, ho1⟩
        all_goals first | omega | (simp only [kk0, e2_0, e2_1, e2_2, e2_3, e3, e12, e15, e16, e19, e20, e21, Y_ref13_Reach, EV, ↓EVd, isCall, Nat.reduceAdd, Nat.reduceSub, Nat.reduceMul, Nat.reduceEqDiff, Nat.reduceBEq, Nat.reduceLT, Nat.reduceLeDiff, ↓reduceIte, reduceCtorEq, Nat.reduceShiftRight, Nat.reduceAnd, Nat.reduceBneDiff]; done) | (simp only [kk0, e2_0, e2_1, e2_2, e2_3, e3, e12, e15, e16, e19, e20, e21, Y_ref13_Reach, EV, ↓EVd, isCall, Nat.reduceAdd, Nat.reduceSub, Nat.reduceMul, Nat.reduceEqDiff, Nat.reduceBEq, Nat.reduceLT, Nat.reduceLeDiff, ↓reduceIte, reduceCtorEq, Nat.reduceShiftRight, Nat.reduceAnd, Nat.reduceBneDiff]; omega) | (simp only [kk0, e2_0, e2_1, e2_2, e2_3, e3, e12, e15, e16, e19, e20, e21, Y_ref13_Reach, EV, ↓EVd, isCall, Nat.reduceAdd, Nat.reduceSub, Nat.reduceMul, Nat.reduceEqDiff, Nat.reduceBEq, Nat.reduceLT, Nat.reduceLeDiff, ↓reduceIte, reduceCtorEq, Nat.reduceShiftRight, Nat.reduceAnd, Nat.reduceBneDiff]; congr 1; omega)
      · rintro s hs
        rw [hI1] at hs
        obtain ⟨_, _, _, _, _, _, _, _, _, _, _, _, hz⟩ := hs
        simp only [iter_zero, reduceCtorEq] at hz
      · clear ho1
        rintro k ⟨T1, H1, x24⟩ hs
        rw [hI1] at hs
        obtain ⟨v25, v26, k1_0, k1_1, k1_2, k1_3, k1_4, k1_5, k1_6, k1_7, k1_8, k1_9, hm2⟩ := hs
        try simp only at k1_0 k1_1 k1_2 k1_3 k1_4 k1_5 k1_6 k1_7 k1_8 k1_9
        apply cw_cwp
        rw [iter_succ] at hm2; simp only [m_ref13_Reach_b1] at hm2
        have kk1 := And.intro (And.intro (And.intro (And.intro ((k1_0)) ((k1_1))) (And.intro ((k1_2)) ((k1_3)))) (And.intro (And.intro ((k1_4)) ((k1_5))) (And.intro ((k1_6)) ((k1_7))))) (And.intro (And.intro (And.intro ((k1_8)) ((ne2 k1_8))) (And.intro ((ne2' k1_8)) ((lt2 k1_8)))) (And.intro (And.intro ((k1_9)) ((ne2 k1_9))) (And.intro ((ne2' k1_9)) ((lt2 k1_9)))))
        by_cases h29 : v25 < (v22.entries.length : Int)
        · have e30 : (v25 < (v22.entries.length : Int)) = True := eq_true h29
          rw [if_pos h29] at hm2
          rcases h32 : ix v22.entries v25 with _ | v31
          · rw [h32] at hm2; simp only [Option.bind_none, reduceCtorEq] at hm2
          rw [h32] at hm2; simp only [Option.bind_some] at hm2
          have e33 := eq_true (ix_nonneg h32)
          have e34 := ix_enc encEntry h32
          by_cases h35 : 1 ≤ v31.ino
          · have e36 : (1 ≤ v31.ino) = True := eq_true h35
            rw [if_pos h35] at hm2
            by_cases h37 : v31.ino ≤ (v26.length : Int)
            · have e38 : (v31.ino ≤ (v26.length : Int)) = True := eq_true h37
              rw [if_pos h37] at hm2
              rcases h40 : ix v26 (wr (v31.ino - 1)) with _ | v39
              · rw [h40] at hm2; simp only [Option.bind_none, reduceCtorEq] at hm2
              rw [h40] at hm2; simp only [Option.bind_some] at hm2
              have e41 := eq_true (ix_nonneg h40)
              have e42 := eq_true (ix_lt h40)
              have e43 := ix_enc bool h40
              try simp only [Option.bind_some] at hm2
              simp only [kk1, e2_0, e2_1, e2_2, e2_3, e3, e12, e15, e16, e19, e20, e21, e30, e33, e34, e36, e38, e41, e42, e43, Y_ref13_Reach, EV, ↓EVd, isCall, Nat.reduceAdd, Nat.reduceSub, Nat.reduceMul, Nat.reduceEqDiff, Nat.reduceBEq, Nat.reduceLT, Nat.reduceLeDiff, ↓reduceIte, reduceCtorEq, Nat.reduceShiftRight, Nat.reduceAnd, Nat.reduceBneDiff]
              rw [hI1]
              refine TI.here ⟨(wr (v25 + 1)), (v26.set ((wr (v31.ino - 1))).toNat true), ?_, ?_, ?_, ?_, ?_, ?_, ?_, ?_, ?_, ?_, hm2⟩
              all_goals first | omega | (simp only [kk1, e2_0, e2_1, e2_2, e2_3, e3, e12, e15, e16, e19, e20, e21, e30, e33, e34, e36, e38, e41, e42, e43, Y_ref13_Reach, EV, ↓EVd, isCall, Nat.reduceAdd, Nat.reduceSub, Nat.reduceMul, Nat.reduceEqDiff, Nat.reduceBEq, Nat.reduceLT, Nat.reduceLeDiff, ↓reduceIte, reduceCtorEq, Nat.reduceShiftRight, Nat.reduceAnd, Nat.reduceBneDiff]; done) | (simp only [kk1, e2_0, e2_1, e2_2, e2_3, e3, e12, e15, e16, e19, e20, e21, e30, e33, e34, e36, e38, e41, e42, e43, Y_ref13_Reach, EV, ↓EVd, isCall, Nat.reduceAdd, Nat.reduceSub, Nat.reduceMul, Nat.reduceEqDiff, Nat.reduceBEq, Nat.reduceLT, Nat.reduceLeDiff, ↓reduceIte, reduceCtorEq, Nat.reduceShiftRight, Nat.reduceAnd, Nat.reduceBneDiff]; omega) | (simp only [kk1, e2_0, e2_1, e2_2, e2_3, e3, e12, e15, e16, e19, e20, e21, e30, e33, e34, e36, e38, e41, e42, e43, Y_ref13_Reach, EV, ↓EVd, isCall, Nat.reduceAdd, Nat.reduceSub, Nat.reduceMul, Nat.reduceEqDiff, Nat.reduceBEq, Nat.reduceLT, Nat.reduceLeDiff, ↓reduceIte, reduceCtorEq, Nat.reduceShiftRight, Nat.reduceAnd, Nat.reduceBneDiff]; congr 1; omega)
            · have e38 : (v31.ino ≤ (v26.length : Int)) = False := eq_false h37
              rw [if_neg h37] at hm2
              try simp only [Option.bind_some] at hm2
              simp only [kk1, e2_0, e2_1, e2_2, e2_3, e3, e12, e15, e16, e19, e20, e21, e30, e33, e34, e36, e38, Y_ref13_Reach, EV, ↓EVd, isCall, Nat.reduceAdd, Nat.reduceSub, Nat.reduceMul, Nat.reduceEqDiff, Nat.reduceBEq, Nat.reduceLT, Nat.reduceLeDiff, ↓reduceIte, reduceCtorEq, Nat.reduceShiftRight, Nat.reduceAnd, Nat.reduceBneDiff]
              rw [hI1]
              refine TI.here ⟨(wr (v25 + 1)), v26, ?_, ?_, ?_, ?_, ?_, ?_, ?_, ?_, ?_, ?_, hm2⟩
              all_goals first | omega | (simp only [kk1, e2_0, e2_1, e2_2, e2_3, e3, e12, e15, e16, e19, e20, e21, e30, e33, e34, e36, e38, Y_ref13_Reach, EV, ↓EVd, isCall, Nat.reduceAdd, Nat.reduceSub, Nat.reduceMul, Nat.reduceEqDiff, Nat.reduceBEq, Nat.reduceLT, Nat.reduceLeDiff, ↓reduceIte, reduceCtorEq, Nat.reduceShiftRight, Nat.reduceAnd, Nat.reduceBneDiff]; done) | (simp only [kk1, e2_0, e2_1, e2_2, e2_3, e3, e12, e15, e16, e19, e20, e21, e30, e33, e34, e36, e38, Y_ref13_Reach, EV, ↓EVd, isCall, Nat.reduceAdd, Nat.reduceSub, Nat.reduceMul, Nat.reduceEqDiff, Nat.reduceBEq, Nat.reduceLT, Nat.reduceLeDiff, ↓reduceIte, reduceCtorEq, Nat.reduceShiftRight, Nat.reduceAnd, Nat.reduceBneDiff]; omega) | (simp only [kk1, e2_0, e2_1, e2_2, e2_3, e3, e12, e15, e16, e19, e20, e21, e30, e33, e34, e36, e38, Y_ref13_Reach, EV, ↓EVd, isCall, Nat.reduceAdd, Nat.reduceSub, Nat.reduceMul, Nat.reduceEqDiff, Nat.reduceBEq, Nat.reduceLT, Nat.reduceLeDiff, ↓reduceIte, reduceCtorEq, Nat.reduceShiftRight, Nat.reduceAnd, Nat.reduceBneDiff]; congr 1; omega)
          · have e36 : (1 ≤ v31.ino) = False := eq_false h35
            rw [if_neg h35] at hm2
            try simp only [Option.bind_some] at hm2
            simp only [kk1, e2_0, e2_1, e2_2, e2_3, e3, e12, e15, e16, e19, e20, e21, e30, e33, e34, e36, Y_ref13_Reach, EV, ↓EVd, isCall, Nat.reduceAdd, Nat.reduceSub, Nat.reduceMul, Nat.reduceEqDiff, Nat.reduceBEq, Nat.reduceLT, Nat.reduceLeDiff, ↓reduceIte, reduceCtorEq, Nat.reduceShiftRight, Nat.reduceAnd, Nat.reduceBneDiff]
            rw [hI1]
            refine TI.here ⟨(wr (v25 + 1)), v26, ?_, ?_, ?_, ?_, ?_, ?_, ?_, ?_, ?_, ?_, hm2⟩
            all_goals first | omega | (simp only [kk1, e2_0, e2_1, e2_2, e2_3, e3, e12, e15, e16, e19, e20, e21, e30, e33, e34, e36, Y_ref13_Reach, EV, ↓EVd, isCall, Nat.reduceAdd, Nat.reduceSub, Nat.reduceMul, Nat.reduceEqDiff, Nat.reduceBEq, Nat.reduceLT, Nat.reduceLeDiff, ↓reduceIte, reduceCtorEq, Nat.reduceShiftRight, Nat.reduceAnd, Nat.reduceBneDiff]; done) | (simp only [kk1, e2_0, e2_1, e2_2, e2_3, e3, e12, e15, e16, e19, e20, e21, e30, e33, e34, e36, Y_ref13_Reach, EV, ↓EVd, isCall, Nat.reduceAdd, Nat.reduceSub, Nat.reduceMul, Nat.reduceEqDiff, Nat.reduceBEq, Nat.reduceLT, Nat.reduceLeDiff, ↓reduceIte, reduceCtorEq, Nat.reduceShiftRight, Nat.reduceAnd, Nat.reduceBneDiff]; omega) | (simp only [kk1, e2_0, e2_1, e2_2, e2_3, e3, e12, e15, e16, e19, e20, e21, e30, e33, e34, e36, Y_ref13_Reach, EV, ↓EVd, isCall, Nat.reduceAdd, Nat.reduceSub, Nat.reduceMul, Nat.reduceEqDiff, Nat.reduceBEq, Nat.reduceLT, Nat.reduceLeDiff, ↓reduceIte, reduceCtorEq, Nat.reduceShiftRight, Nat.reduceAnd, Nat.reduceBneDiff]; congr 1; omega)
        · have e30 : (v25 < (v22.entries.length : Int)) = False := eq_false h29
          rw [if_neg h29] at hm2
          try simp only [Option.bind_some, Option.some.injEq] at hm2
          simp only [kk1, e2_0, e2_1, e2_2, e2_3, e3, e12, e15, e16, e19, e20, e21, e30, Y_ref13_Reach, EV, ↓EVd, isCall, Nat.reduceAdd, Nat.reduceSub, Nat.reduceMul, Nat.reduceEqDiff, Nat.reduceBEq, Nat.reduceLT, Nat.reduceLeDiff, ↓reduceIte, reduceCtorEq, Nat.reduceShiftRight, Nat.reduceAnd, Nat.reduceBneDiff]
          rw [hJ1_0]
          refine TI.here ⟨v26, ?_, ?_, ?_, ?_, ?_, ?_, ?_, ?_, hm2⟩
          all_goals first | omega | (simp only [kk1, e2_0, e2_1, e2_2, e2_3, e3, e12, e15, e16, e19, e20, e21, e30, Y_ref13_Reach, EV, ↓EVd, isCall, Nat.reduceAdd, Nat.reduceSub, Nat.reduceMul, Nat.reduceEqDiff, Nat.reduceBEq, Nat.reduceLT, Nat.reduceLeDiff, ↓reduceIte, reduceCtorEq, Nat.reduceShiftRight, Nat.reduceAnd, Nat.reduceBneDiff]; done) | (simp only [kk1, e2_0, e2_1, e2_2, e2_3, e3, e12, e15, e16, e19, e20, e21, e30, Y_ref13_Reach, EV, ↓EVd, isCall, Nat.reduceAdd, Nat.reduceSub, Nat.reduceMul, Nat.reduceEqDiff, Nat.reduceBEq, Nat.reduceLT, Nat.reduceLeDiff, ↓reduceIte, reduceCtorEq, Nat.reduceShiftRight, Nat.reduceAnd, Nat.reduceBneDiff]; omega) | (simp only [kk1, e2_0, e2_1, e2_2, e2_3, e3, e12, e15, e16, e19, e20, e21, e30, Y_ref13_Reach, EV, ↓EVd, isCall, Nat.reduceAdd, Nat.reduceSub, Nat.reduceMul, Nat.reduceEqDiff, Nat.reduceBEq, Nat.reduceLT, Nat.reduceLeDiff, ↓reduceIte, reduceCtorEq, Nat.reduceShiftRight, Nat.reduceAnd, Nat.reduceBneDiff]; congr 1; omega)
    · have e12 : (v7 < (v4.length : Int)) = False := eq_false h11
      rw [if_neg h11] at hm1
      try simp only [Option.bind_some, Option.some.injEq] at hm1
      simp only [kk0, e2_0, e2_1, e2_2, e2_3, e3, e12, Y_ref13_Reach, EV, ↓EVd, isCall, Nat.reduceAdd, Nat.reduceSub, Nat.reduceMul, Nat.reduceEqDiff, Nat.reduceBEq, Nat.reduceLT, Nat.reduceLeDiff, ↓reduceIte, reduceCtorEq, Nat.reduceShiftRight, Nat.reduceAnd, Nat.reduceBneDiff]
      rw [hJ0_0]
      refine TI.here ⟨v8, ?_, ?_, ?_, hm1⟩
      all_goals first | omega | (simp only [kk0, e2_0, e2_1, e2_2, e2_3, e3, e12, Y_ref13_Reach, EV, ↓EVd, isCall, Nat.reduceAdd, Nat.reduceSub, Nat.reduceMul, Nat.reduceEqDiff, Nat.reduceBEq, Nat.reduceLT, Nat.reduceLeDiff, ↓reduceIte, reduceCtorEq, Nat.reduceShiftRight, Nat.reduceAnd, Nat.reduceBneDiff]; done) | (simp only [kk0, e2_0, e2_1, e2_2, e2_3, e3, e12, Y_ref13_Reach, EV, ↓EVd, isCall, Nat.reduceAdd, Nat.reduceSub, Nat.reduceMul, Nat.reduceEqDiff, Nat.reduceBEq, Nat.reduceLT, Nat.reduceLeDiff, ↓reduceIte, reduceCtorEq, Nat.reduceShiftRight, Nat.reduceAnd, Nat.reduceBneDiff]; omega) | (simp only [kk0, e2_0, e2_1, e2_2, e2_3, e3, e12, Y_ref13_Reach, EV, ↓EVd, isCall, Nat.reduceAdd, Nat.reduceSub, Nat.reduceMul, Nat.reduceEqDiff, Nat.reduceBEq, Nat.reduceLT, Nat.reduceLeDiff, ↓reduceIte, reduceCtorEq, Nat.reduceShiftRight, Nat.reduceAnd, Nat.reduceBneDiff]; congr 1; omega)
end Go.Proofs.Ytnmljicimdhpmaa.AL

