/- A law of the given program is proved: part 49 of 49. -/
import Derived.Test.YtnmljicimdhpmaaH48
set_option linter.all false
/- Models of functions, and that the functions are as their models: written by gen.py. -/
set_option linter.all false
set_option maxRecDepth 100000
namespace Go.Proofs.Ytnmljicimdhpmaa.AL
open Go Go.Proofs
def m_walk_Dirs_p1 (a0 : Branch) (v5 : List Way) (v8 : List (Int × Int)) (v17 : Int) : Option (List Way × List (Int × Int)) := if v17 < 1 then some (v5, v8)
 else if (a0.nodes.length : Int) < v17 then some (v5, v8)
 else (ix a0.nodes (wr (v17 - 1))).bind fun v103 => if v103.kind = 1 then if 0 < (mget v8 v17) then some (v5, v8)
 else (ap 32 v5 ([(⟨v17, (-1), noBytes⟩ : Way)] : List Way)).bind fun _ => some ((v5 ++ ([(⟨v17, (-1), noBytes⟩ : Way)] : List Way)), (mset v8 v17 (wr ((mget v8 v17) + 1))))
 else some (v5, v8)
def m_walk_Dirs_b3  : Unit → Option (St (Unit) (Unit))
 | _ => some (.out ())
def m_walk_Dirs_b4  : Unit → Option (St (Unit) (Unit))
 | _ => some (.out ())
def m_walk_Dirs_b5 (a0 : Branch) (v25 : Int) (v40 : Way) (v53 : Node) : (Int × List Way × List Ar2_Int × List (Int × Int)) → Option (St (Int × List Way × List Ar2_Int × List (Int × Int)) (List Way × List (Int × Int) × List Ar2_Int))
 | (v57, v59, v61, v62) => if v57 < (v53.entries.length : Int) then (ix v53.entries v57).bind fun v71 => if v71.ino < 1 then some (.nx ((wr (v57 + 1)), v59, v61, v62))
 else if (a0.nodes.length : Int) < v71.ino then some (.nx ((wr (v57 + 1)), v59, v61, v62))
 else (ix a0.nodes (wr (v71.ino - 1))).bind fun v80 => if v80.kind = 1 then if 0 < (mget v62 v71.ino) then (ap 16 v61 ([(⟨v40.ino, v71.slot⟩ : Ar2_Int)] : List Ar2_Int)).bind fun _ => some (.nx ((wr (v57 + 1)), v59, (v61 ++ ([(⟨v40.ino, v71.slot⟩ : Ar2_Int)] : List Ar2_Int)), v62))
 else (ap 32 v59 ([(⟨v71.ino, v25, v71.name⟩ : Way)] : List Way)).bind fun _ => some (.nx ((wr (v57 + 1)), (v59 ++ ([(⟨v71.ino, v25, v71.name⟩ : Way)] : List Way)), v61, (mset v62 v71.ino (wr ((mget v62 v71.ino) + 1)))))
 else some (.nx ((wr (v57 + 1)), v59, v61, v62))
 else some (.out (v59, v62, v61))
def m_walk_Dirs_b2 (a0 : Branch) : (Int × List Way × List Ar2_Int × List (Int × Int)) → Option (St (Int × List Way × List Ar2_Int × List (Int × Int)) (List Way × List (Int × Int) × List Ar2_Int × Int))
 | (v25, v27, v29, v30) => if v25 < (v27.length : Int) then (ix v27 v25).bind fun v40 => if v40.ino < 1 then (iter (m_walk_Dirs_b3) big ()).bind fun o => (match o with
 | _ => some (.nx ((wr (v25 + 1)), v27, v29, v30)))
 else if (a0.nodes.length : Int) < v40.ino then (iter (m_walk_Dirs_b4) big ()).bind fun o => (match o with
 | _ => some (.nx ((wr (v25 + 1)), v27, v29, v30)))
 else (ix a0.nodes (wr (v40.ino - 1))).bind fun v53 => (iter (m_walk_Dirs_b5 a0 v25 v40 v53) big (0, v27, v29, v30)).bind fun o => (match o with
 | (v65, v66, v68) => some (.nx ((wr (v25 + 1)), v65, v68, v66)))
 else some (.out (v27, v30, v29, v25))
def m_walk_Dirs_b0 (a0 : Branch) (a1 : List Int) : (Int × Int × List Way × List Ar2_Int × List (Int × Int)) → Option (St (Int × Int × List Way × List Ar2_Int × List (Int × Int)) (List Way × List (Int × Int) × List Ar2_Int))
 | (v2, v3, v5, v7, v8) => if v3 < (a1.length : Int) then (ix a1 v3).bind fun v17 => (m_walk_Dirs_p1 a0 v5 v8 v17).bind fun o => (match o with
 | (v22, v23) => (iter (m_walk_Dirs_b2 a0) (big + 1) (v2, v22, v7, v23)).bind fun o => (match o with
 | (v33, v34, v36, v37) => some (.nx (v37, (wr (v3 + 1)), v33, v36, v34))))
 else some (.out (v5, v8, v7))
def m_walk_Dirs (a0 : Branch) (a1 : List Int) : Option (List Way) := (iter (m_walk_Dirs_b0 a0 a1) big (0, 0, [], [], ([] : List (Int × Int)))).bind fun o => (match o with
 | (v11, v12, v14) => some v11)
def Y_walk_Dirs := And.intro (And.intro (And.intro (And.intro ((@EV)) (And.intro ((@R3)) ((@R9)))) (And.intro ((@R24)) (And.intro ((@R26)) ((@R40))))) (And.intro (And.intro ((@R46)) (And.intro ((@R49)) ((@R52)))) (And.intro ((@R54)) (And.intro ((@R63)) ((@R67)))))) (And.intro (And.intro (And.intro ((@R68)) (And.intro ((@R94)) ((@R96)))) (And.intro ((@R97)) (And.intro ((@DBranch)) ((@DOrigin))))) (And.intro (And.intro ((@DAttr)) (And.intro ((@DNode)) ((@DWay)))) (And.intro ((@DEntry)) (And.intro ((@DAr2_Int)) ((@mixed))))))
set_option maxHeartbeats 2000000 in
theorem ok_walk_Dirs (a0 : Branch) (a1 : List Int) (r : List Way) (hm0 : m_walk_Dirs a0 a1 = some r) : Ok Try.prog 22 [encBranch a0, .sl 1 (a1.map int)] (.sl 3 (r.map encWay)) := by
 unfold m_walk_Dirs at hm0
 refine okG fc_walk_Dirs ?_
 unfold c_walk_Dirs
 simp only [Y_walk_Dirs, ↓EVd, isCall, sevalprocAttr]
 refine S1_call (acallF fc_walk_walk (by simp) ?_) rfl
 unfold c_walk_walk
 obtain ⟨o0, ho0, hm0⟩ := bsE hm0
 simp only [Y_walk_Dirs, ↓EVd, isCall, sevalprocAttr]
 refine cwp_cx 0 (fun s => ∃ v11 : List Way, ∃ v12 : List (Int × Int), ∃ v14 : List Ar2_Int, ∃ l10 : Nat, ∃ l13 : Nat, (s.T 5 = .loc 14 4 0 0 ∧ s.H 0 = some (.row 26 1 [encBranch a0]) ∧ s.H 14 = some (.row 96 4 [.agg [.sl 13 (a0.nodes.map encNode), .msl l10 v11.length, .mp 12, .msl l13 v14.length]]) ∧ s.H l10 = some (.row 52 3 (v11.map encWay)) ∧ s.H 12 = some (.map (v12.map (kI .i64)) (v12.map fun p => .val (.int .i64 p.2))) ∧ s.H l13 = some (.row 68 2 (v14.map encAr2_Int)) ∧ Lq 0 s.nx ∧ Lq 14 s.nx ∧ Lq l10 s.nx ∧ Lq 12 s.nx ∧ Lq l13 s.nx ∧ Nq 0 l10 ∧ Nq 0 l13 ∧ Nq 14 l10 ∧ Nq 14 l13 ∧ Nq l10 12 ∧ Nq l10 l13 ∧ Nq 12 l13) ∧ (v11, v12, v14) = o0) ?_ fun J0_0 hJ0_0 => ?_
 · rintro T0 H0 x9 ⟨v11, v12, v14, l10, l13, kk0_0, rfl⟩
   dsimp only [Lq, Nq] at kk0_0
   try dsimp only at hm0
   obtain rfl := Option.some.inj hm0
   simp only [kk0_0, Y_walk_Dirs, ↓EVd, isCall, sevalprocAttr]
   all_goals first | done | rfl | exact frzR_e (by simp only [kk0_0, FZ, CLO, Y_walk_Dirs, ↓EVd, isCall, sevalprocAttr])
 refine cwp_lp ho0 (fun (v2, v3, v5, v7, v8) s => ∃ l4 : Nat, ∃ l6 : Nat, s.T 5 = .loc 14 4 0 0 ∧ s.T 6 = int v2 ∧ s.T 13 = .sl 1 (a1.map int) ∧ s.T 14 = int (a1.length : Int) ∧ s.T 15 = int v3 ∧ s.H 0 = some (.row 26 1 [encBranch a0]) ∧ s.H 12 = some (.map (v8.map (kI .i64)) (v8.map fun p => .val (.int .i64 p.2))) ∧ s.H 14 = some (.row 96 4 [.agg [.sl 13 (a0.nodes.map encNode), .msl l4 v5.length, .mp 12, .msl l6 v7.length]]) ∧ s.H l4 = some (.row 52 3 (v5.map encWay)) ∧ s.H l6 = some (.row 68 2 (v7.map encAr2_Int)) ∧ Lq 0 s.nx ∧ Lq 12 s.nx ∧ Lq 14 s.nx ∧ Lq l4 s.nx ∧ Lq l6 s.nx ∧ Nq 0 l4 ∧ Nq 0 l6 ∧ Nq 12 l4 ∧ Nq 12 l6 ∧ Nq 14 l4 ∧ Nq 14 l6 ∧ Nq l4 l6) ?_ ?_
 · refine TI.by (Tn.adoptC 14 1 96 4 52 3 [.sl 13 (a0.nodes.map encNode), nilS, .mp 12, nilS] (by simp only [Y_walk_Dirs, ↓EVd, isCall, sevalprocAttr]) rfl) ?_
   refine TI.by (Tn.adoptC 14 3 96 4 68 2 [.sl 13 (a0.nodes.map encNode), .msl 20 ([] : List Way).length, .mp 12, nilS] (by simp only [Y_walk_Dirs, ↓EVd, isCall, sevalprocAttr]) rfl) ?_
   refine TI.here ⟨20, 21, ?_, ?_, ?_, ?_, ?_, ?_, ?_, ?_, ?_, ?_, ?_, ?_, ?_, ?_, ?_, ?_, ?_, ?_, ?_, ?_, ?_, ?_⟩
   all_goals try simp only [Y_walk_Dirs, ↓EVd, isCall, sevalprocAttr]
   all_goals first | omega | exact lq (by omega) | exact nq (by omega) | rfl | (congr 1; omega)
 rintro I0 ⟨v2, v3, v5, v7, v8⟩ T0 H0 x1 st0 ⟨l4, l6, kk0⟩ hm1 hI0 hO0
 dsimp only [Lq, Nq] at kk0
 simp only [m_walk_Dirs_b0] at hm1
 rcases iteE hm1 with ⟨e16, hm1⟩ | ⟨e16, hm1⟩
 · obtain ⟨v17, e19, hm1⟩ := ixE int hm1
   obtain ⟨⟨v22, v23⟩, hp2, hm1⟩ := bsE hm1
   try dsimp only at hm1
   obtain ⟨o2, ho2, hm1⟩ := bsE hm1
   simp only [kk0, e16, e19, Y_walk_Dirs, ↓EVd, isCall, sevalprocAttr]
   refine cwp_cn (fun s => ∃ v33 : List Way, ∃ v34 : List (Int × Int), ∃ v36 : List Ar2_Int, ∃ v37 : Int, ∃ l32 : Nat, ∃ l35 : Nat, (s.T 5 = .loc 14 4 0 0 ∧ s.T 6 = int v37 ∧ s.T 13 = .sl 1 (a1.map int) ∧ s.T 14 = int (a1.length : Int) ∧ s.T 15 = int v3 ∧ s.H 0 = some (.row 26 1 [encBranch a0]) ∧ s.H 14 = some (.row 96 4 [.agg [.sl 13 (a0.nodes.map encNode), .msl l32 v33.length, .mp 12, .msl l35 v36.length]]) ∧ s.H l32 = some (.row 52 3 (v33.map encWay)) ∧ s.H 12 = some (.map (v34.map (kI .i64)) (v34.map fun p => .val (.int .i64 p.2))) ∧ s.H l35 = some (.row 68 2 (v36.map encAr2_Int)) ∧ Lq 0 s.nx ∧ Lq 14 s.nx ∧ Lq l32 s.nx ∧ Lq 12 s.nx ∧ Lq l35 s.nx ∧ Nq 0 l32 ∧ Nq 0 l35 ∧ Nq 14 l32 ∧ Nq 14 l35 ∧ Nq l32 12 ∧ Nq l32 l35 ∧ Nq 12 l35) ∧ (v33, v34, v36, v37) = o2) ?_ fun J2_0 hJ2_0 => ?_
   · rintro T2 H2 x31 ⟨v33, v34, v36, v37, l32, l35, kk2_0, rfl⟩
     dsimp only [Lq, Nq] at kk2_0
     try dsimp only at hm1
     obtain rfl := Option.some.inj hm1
     simp only [kk2_0, kk0, e16, e19, Y_walk_Dirs, ↓EVd, isCall, sevalprocAttr]
     refine TI.here (hI0 _ rfl _ ⟨l32, l35, ?_, ?_, ?_, ?_, ?_, ?_, ?_, ?_, ?_, ?_, ?_, ?_, ?_, ?_, ?_, ?_, ?_, ?_, ?_, ?_, ?_, ?_⟩)
     all_goals try simp only [kk2_0, kk0, e16, e19, Y_walk_Dirs, ↓EVd, isCall, sevalprocAttr]
     all_goals first | omega | exact lq (by omega) | exact nq (by omega) | rfl | (congr 1; omega)
   refine cwp_sl 0 ho2 (fun (v25, v27, v29, v30) s => ∃ l26 : Nat, ∃ l28 : Nat, s.T 5 = .loc 14 4 0 0 ∧ s.T 6 = int v25 ∧ s.T 13 = .sl 1 (a1.map int) ∧ s.T 14 = int (a1.length : Int) ∧ s.T 15 = int v3 ∧ s.H 0 = some (.row 26 1 [encBranch a0]) ∧ s.H 14 = some (.row 96 4 [.agg [.sl 13 (a0.nodes.map encNode), .msl l26 v27.length, .mp 12, .msl l28 v29.length]]) ∧ s.H 12 = some (.map (v30.map (kI .i64)) (v30.map fun p => .val (.int .i64 p.2))) ∧ s.H l26 = some (.row 52 3 (v27.map encWay)) ∧ s.H l28 = some (.row 68 2 (v29.map encAr2_Int)) ∧ Lq 0 s.nx ∧ Lq 14 s.nx ∧ Lq 12 s.nx ∧ Lq l26 s.nx ∧ Lq l28 s.nx ∧ Nq 0 l26 ∧ Nq 0 l28 ∧ Nq 14 l26 ∧ Nq 14 l28 ∧ Nq 12 l26 ∧ Nq 12 l28 ∧ Nq l26 l28) rfl ?_ ?_
   · intro K2 hK2
     have hm2 := hp2
     unfold m_walk_Dirs_p1 at hm2
     simp only [kk0, e16, e19, Y_walk_Dirs, ↓EVd, isCall, sevalprocAttr]
     refine S1_call (acallF fc_walk_trail_node (by simp) ?_) rfl
     unfold c_walk_trail_node
     rcases iteE hm2 with ⟨e98, hm2⟩ | ⟨e98, hm2⟩
     · have e99 : ((0 : Int) = 1) = False := by decide
       simp only [Option.some.injEq, Prod.mk.injEq] at hm2
       obtain ⟨rfl, rfl⟩ := hm2
       simp only [kk0, e16, e19, e98, e99, Y_walk_Dirs, ↓EVd, isCall, sevalprocAttr]
       apply hK2
       refine TI.here ⟨l4, l6, ?_, ?_, ?_, ?_, ?_, ?_, ?_, ?_, ?_, ?_, ?_, ?_, ?_, ?_, ?_, ?_, ?_, ?_, ?_, ?_, ?_, ?_⟩
       all_goals try simp only [kk0, e16, e19, e98, e99, Y_walk_Dirs, ↓EVd, isCall, sevalprocAttr]
       all_goals first | omega | exact lq (by omega) | exact nq (by omega) | rfl | (congr 1; omega)
     rcases iteE hm2 with ⟨e101, hm2⟩ | ⟨e101, hm2⟩
     · have e102 : ((0 : Int) = 1) = False := by decide
       simp only [Option.some.injEq, Prod.mk.injEq] at hm2
       obtain ⟨rfl, rfl⟩ := hm2
       simp only [kk0, e16, e19, e98, e101, e102, Y_walk_Dirs, ↓EVd, isCall, sevalprocAttr]
       apply hK2
       refine TI.here ⟨l4, l6, ?_, ?_, ?_, ?_, ?_, ?_, ?_, ?_, ?_, ?_, ?_, ?_, ?_, ?_, ?_, ?_, ?_, ?_, ?_, ?_, ?_, ?_⟩
       all_goals try simp only [kk0, e16, e19, e98, e101, e102, Y_walk_Dirs, ↓EVd, isCall, sevalprocAttr]
       all_goals first | omega | exact lq (by omega) | exact nq (by omega) | rfl | (congr 1; omega)
     obtain ⟨v103, e105, hm2⟩ := ixE encNode hm2
     rcases iteE hm2 with ⟨e107, hm2⟩ | ⟨e107, hm2⟩
     · have e108 : (.agg [int v17, int (-1), str noBytes] : AV) = encWay (⟨v17, (-1), noBytes⟩ : Way) := _root_.id rfl
       simp only [kk0, e16, e19, e98, e101, e105, e107, e108, Y_walk_Dirs, ↓EVd, isCall, sevalprocAttr]
       refine S1_call (acallF fc_walk_trail_come (by simp) ?_) rfl
       unfold c_walk_trail_come
       rcases iteE hm2 with ⟨e110, hm2⟩ | ⟨e110, hm2⟩
       · simp only [Option.some.injEq, Prod.mk.injEq] at hm2
         obtain ⟨rfl, rfl⟩ := hm2
         simp only [kk0, e16, e19, e98, e101, e105, e107, e108, e110, Y_walk_Dirs, ↓EVd, isCall, sevalprocAttr]
         apply hK2
         refine TI.here ⟨l4, l6, ?_, ?_, ?_, ?_, ?_, ?_, ?_, ?_, ?_, ?_, ?_, ?_, ?_, ?_, ?_, ?_, ?_, ?_, ?_, ?_, ?_, ?_⟩
         all_goals try simp only [kk0, e16, e19, e98, e101, e105, e107, e108, e110, Y_walk_Dirs, ↓EVd, isCall, sevalprocAttr]
         all_goals first | omega | exact lq (by omega) | exact nq (by omega) | rfl | (congr 1; omega)
       obtain ⟨e113, hm2⟩ := apE hm2
       try simp only [ZL] at e113
       simp only [Option.some.injEq, Prod.mk.injEq] at hm2
       obtain ⟨rfl, rfl⟩ := hm2
       simp only [kk0, e16, e19, e98, e101, e105, e107, e108, e110, e113, Y_walk_Dirs, ↓EVd, isCall, sevalprocAttr]
       apply hK2
       refine TI.here ⟨(x1 + 62), l6, ?_, ?_, ?_, ?_, ?_, ?_, ?_, ?_, ?_, ?_, ?_, ?_, ?_, ?_, ?_, ?_, ?_, ?_, ?_, ?_, ?_, ?_⟩
       all_goals try simp only [kk0, e16, e19, e98, e101, e105, e107, e108, e110, e113, Y_walk_Dirs, ↓EVd, isCall, sevalprocAttr]
       all_goals first | omega | exact lq (by omega) | exact nq (by omega) | rfl | (congr 1; omega)
     simp only [Option.some.injEq, Prod.mk.injEq] at hm2
     obtain ⟨rfl, rfl⟩ := hm2
     simp only [kk0, e16, e19, e98, e101, e105, e107, Y_walk_Dirs, ↓EVd, isCall, sevalprocAttr]
     apply hK2
     refine TI.here ⟨l4, l6, ?_, ?_, ?_, ?_, ?_, ?_, ?_, ?_, ?_, ?_, ?_, ?_, ?_, ?_, ?_, ?_, ?_, ?_, ?_, ?_, ?_, ?_⟩
     all_goals try simp only [kk0, e16, e19, e98, e101, e105, e107, Y_walk_Dirs, ↓EVd, isCall, sevalprocAttr]
     all_goals first | omega | exact lq (by omega) | exact nq (by omega) | rfl | (congr 1; omega)
   rintro I2 ⟨v25, v27, v29, v30⟩ T2 H2 x24 st2 ⟨l26, l28, kk2⟩ hm2 hI2 hO2
   dsimp only [Lq, Nq] at kk2
   simp only [m_walk_Dirs_b2] at hm2
   rcases iteE hm2 with ⟨e39, hm2⟩ | ⟨e39, hm2⟩
   · simp only [kk2, kk0, e16, e19, e39, Y_walk_Dirs, ↓EVd, isCall, sevalprocAttr]
     refine S1_call (acallF fc_walk_trail_enter (by simp) ?_) rfl
     unfold c_walk_trail_enter
     obtain ⟨v40, e42, hm2⟩ := ixE encWay hm2
     simp only [kk2, kk0, e16, e19, e39, e42, Y_walk_Dirs, ↓EVd, isCall, sevalprocAttr]
     refine S1_call (acallF fc_walk_trail_node (by simp) ?_) rfl
     unfold c_walk_trail_node
     rcases iteE hm2 with ⟨e44, hm2⟩ | ⟨e44, hm2⟩
     · obtain ⟨o3, ho3, hm2⟩ := bsE hm2
       simp only [kk2, kk0, e16, e19, e39, e42, e44, Y_walk_Dirs, ↓EVd, isCall, sevalprocAttr]
       refine cwp_cx 0 (fun s => (s.H 0 = some (.row 26 1 [encBranch a0]) ∧ s.H 14 = some (.row 96 4 [.agg [.sl 13 (a0.nodes.map encNode), .msl l26 v27.length, .mp 12, .msl l28 v29.length]]) ∧ s.H l26 = some (.row 52 3 (v27.map encWay)) ∧ s.H 12 = some (.map (v30.map (kI .i64)) (v30.map fun p => .val (.int .i64 p.2))) ∧ s.H l28 = some (.row 68 2 (v29.map encAr2_Int)) ∧ Lq 0 s.nx ∧ Lq 14 s.nx ∧ Lq l26 s.nx ∧ Lq 12 s.nx ∧ Lq l28 s.nx ∧ Nq 0 l26 ∧ Nq 0 l28 ∧ Nq 14 l26 ∧ Nq 14 l28 ∧ Nq l26 12 ∧ Nq l26 l28 ∧ Nq 12 l28) ∧ () = o3) ?_ fun J3_0 hJ3_0 => ?_
       · rintro T3 H3 x46 ⟨kk3_0, rfl⟩
         dsimp only [Lq, Nq] at kk3_0
         try dsimp only at hm2
         obtain rfl := Option.some.inj hm2
         simp only [kk3_0, kk2, kk0, e16, e19, e39, e42, e44, Y_walk_Dirs, ↓EVd, isCall, sevalprocAttr]
         refine TI.here (hI2 _ rfl _ ⟨l26, l28, ?_, ?_, ?_, ?_, ?_, ?_, ?_, ?_, ?_, ?_, ?_, ?_, ?_, ?_, ?_, ?_, ?_, ?_, ?_, ?_, ?_, ?_⟩)
         all_goals try simp only [kk3_0, kk2, kk0, e16, e19, e39, e42, e44, Y_walk_Dirs, ↓EVd, isCall, sevalprocAttr]
         all_goals first | omega | exact lq (by omega) | exact nq (by omega) | rfl | (congr 1; omega)
       refine cwp_lp ho3 (fun (_ : Unit) s => s.T 0 = .loc 14 4 0 0 ∧ s.T 1 = int v25 ∧ s.T 4 = int v40.ino ∧ s.T 18 = nilS ∧ s.T 19 = int 0 ∧ s.T 20 = int 0 ∧ s.H 0 = some (.row 26 1 [encBranch a0]) ∧ s.H 14 = some (.row 96 4 [.agg [.sl 13 (a0.nodes.map encNode), .msl l26 v27.length, .mp 12, .msl l28 v29.length]]) ∧ s.H 12 = some (.map (v30.map (kI .i64)) (v30.map fun p => .val (.int .i64 p.2))) ∧ s.H l26 = some (.row 52 3 (v27.map encWay)) ∧ s.H l28 = some (.row 68 2 (v29.map encAr2_Int)) ∧ Lq 0 s.nx ∧ Lq 14 s.nx ∧ Lq 12 s.nx ∧ Lq l26 s.nx ∧ Lq l28 s.nx ∧ Nq 0 l26 ∧ Nq 0 l28 ∧ Nq 14 l26 ∧ Nq 14 l28 ∧ Nq 12 l26 ∧ Nq 12 l28 ∧ Nq l26 l28) ?_ ?_
       · refine TI.here ⟨?_, ?_, ?_, ?_, ?_, ?_, ?_, ?_, ?_, ?_, ?_, ?_, ?_, ?_, ?_, ?_, ?_, ?_, ?_, ?_, ?_, ?_, ?_⟩
         all_goals try simp only [kk2, kk0, e16, e19, e39, e42, e44, Y_walk_Dirs, ↓EVd, isCall, sevalprocAttr]
         all_goals first | omega | exact lq (by omega) | exact nq (by omega) | rfl | (congr 1; omega)
       rintro I3 _ T3 H3 x45 st3 kk3 hm3 hI3 hO3
       dsimp only [Lq, Nq] at kk3
       simp only [m_walk_Dirs_b3] at hm3
       have e47 : ((0 : Int) < 0) = False := by decide
       obtain rfl := Option.some.inj hm3
       simp only [kk3, kk2, kk0, e16, e19, e39, e42, e44, e47, Y_walk_Dirs, ↓EVd, isCall, sevalprocAttr]
       refine TI.here (hJ3_0 _ ⟨⟨?_, ?_, ?_, ?_, ?_, ?_, ?_, ?_, ?_, ?_, ?_, ?_, ?_, ?_, ?_, ?_, ?_⟩, hO3 _ rfl⟩)
       all_goals try simp only [kk3, kk2, kk0, e16, e19, e39, e42, e44, e47, Y_walk_Dirs, ↓EVd, isCall, sevalprocAttr]
       all_goals first | omega | exact lq (by omega) | exact nq (by omega) | rfl | (congr 1; omega)
     rcases iteE hm2 with ⟨e49, hm2⟩ | ⟨e49, hm2⟩
     · obtain ⟨o4, ho4, hm2⟩ := bsE hm2
       simp only [kk2, kk0, e16, e19, e39, e42, e44, e49, Y_walk_Dirs, ↓EVd, isCall, sevalprocAttr]
       refine cwp_cx 0 (fun s => (s.H 0 = some (.row 26 1 [encBranch a0]) ∧ s.H 14 = some (.row 96 4 [.agg [.sl 13 (a0.nodes.map encNode), .msl l26 v27.length, .mp 12, .msl l28 v29.length]]) ∧ s.H l26 = some (.row 52 3 (v27.map encWay)) ∧ s.H 12 = some (.map (v30.map (kI .i64)) (v30.map fun p => .val (.int .i64 p.2))) ∧ s.H l28 = some (.row 68 2 (v29.map encAr2_Int)) ∧ Lq 0 s.nx ∧ Lq 14 s.nx ∧ Lq l26 s.nx ∧ Lq 12 s.nx ∧ Lq l28 s.nx ∧ Nq 0 l26 ∧ Nq 0 l28 ∧ Nq 14 l26 ∧ Nq 14 l28 ∧ Nq l26 12 ∧ Nq l26 l28 ∧ Nq 12 l28) ∧ () = o4) ?_ fun J4_0 hJ4_0 => ?_
       · rintro T4 H4 x51 ⟨kk4_0, rfl⟩
         dsimp only [Lq, Nq] at kk4_0
         try dsimp only at hm2
         obtain rfl := Option.some.inj hm2
         simp only [kk4_0, kk2, kk0, e16, e19, e39, e42, e44, e49, Y_walk_Dirs, ↓EVd, isCall, sevalprocAttr]
         refine TI.here (hI2 _ rfl _ ⟨l26, l28, ?_, ?_, ?_, ?_, ?_, ?_, ?_, ?_, ?_, ?_, ?_, ?_, ?_, ?_, ?_, ?_, ?_, ?_, ?_, ?_, ?_, ?_⟩)
         all_goals try simp only [kk4_0, kk2, kk0, e16, e19, e39, e42, e44, e49, Y_walk_Dirs, ↓EVd, isCall, sevalprocAttr]
         all_goals first | omega | exact lq (by omega) | exact nq (by omega) | rfl | (congr 1; omega)
       refine cwp_lp ho4 (fun (_ : Unit) s => s.T 0 = .loc 14 4 0 0 ∧ s.T 1 = int v25 ∧ s.T 4 = int v40.ino ∧ s.T 18 = nilS ∧ s.T 19 = int 0 ∧ s.T 20 = int 0 ∧ s.H 0 = some (.row 26 1 [encBranch a0]) ∧ s.H 14 = some (.row 96 4 [.agg [.sl 13 (a0.nodes.map encNode), .msl l26 v27.length, .mp 12, .msl l28 v29.length]]) ∧ s.H 12 = some (.map (v30.map (kI .i64)) (v30.map fun p => .val (.int .i64 p.2))) ∧ s.H l26 = some (.row 52 3 (v27.map encWay)) ∧ s.H l28 = some (.row 68 2 (v29.map encAr2_Int)) ∧ Lq 0 s.nx ∧ Lq 14 s.nx ∧ Lq 12 s.nx ∧ Lq l26 s.nx ∧ Lq l28 s.nx ∧ Nq 0 l26 ∧ Nq 0 l28 ∧ Nq 14 l26 ∧ Nq 14 l28 ∧ Nq 12 l26 ∧ Nq 12 l28 ∧ Nq l26 l28) ?_ ?_
       · refine TI.here ⟨?_, ?_, ?_, ?_, ?_, ?_, ?_, ?_, ?_, ?_, ?_, ?_, ?_, ?_, ?_, ?_, ?_, ?_, ?_, ?_, ?_, ?_, ?_⟩
         all_goals try simp only [kk2, kk0, e16, e19, e39, e42, e44, e49, Y_walk_Dirs, ↓EVd, isCall, sevalprocAttr]
         all_goals first | omega | exact lq (by omega) | exact nq (by omega) | rfl | (congr 1; omega)
       rintro I4 _ T4 H4 x50 st4 kk4 hm3 hI4 hO4
       dsimp only [Lq, Nq] at kk4
       simp only [m_walk_Dirs_b4] at hm3
       have e52 : ((0 : Int) < 0) = False := by decide
       obtain rfl := Option.some.inj hm3
       simp only [kk4, kk2, kk0, e16, e19, e39, e42, e44, e49, e52, Y_walk_Dirs, ↓EVd, isCall, sevalprocAttr]
       refine TI.here (hJ4_0 _ ⟨⟨?_, ?_, ?_, ?_, ?_, ?_, ?_, ?_, ?_, ?_, ?_, ?_, ?_, ?_, ?_, ?_, ?_⟩, hO4 _ rfl⟩)
       all_goals try simp only [kk4, kk2, kk0, e16, e19, e39, e42, e44, e49, e52, Y_walk_Dirs, ↓EVd, isCall, sevalprocAttr]
       all_goals first | omega | exact lq (by omega) | exact nq (by omega) | rfl | (congr 1; omega)
     obtain ⟨v53, e55, hm2⟩ := ixE encNode hm2
     obtain ⟨o5, ho5, hm2⟩ := bsE hm2
     simp only [kk2, kk0, e16, e19, e39, e42, e44, e49, e55, Y_walk_Dirs, ↓EVd, isCall, sevalprocAttr]
     refine cwp_cx 0 (fun s => ∃ v65 : List Way, ∃ v66 : List (Int × Int), ∃ v68 : List Ar2_Int, ∃ l64 : Nat, ∃ l67 : Nat, (s.H 0 = some (.row 26 1 [encBranch a0]) ∧ s.H 14 = some (.row 96 4 [.agg [.sl 13 (a0.nodes.map encNode), .msl l64 v65.length, .mp 12, .msl l67 v68.length]]) ∧ s.H l64 = some (.row 52 3 (v65.map encWay)) ∧ s.H 12 = some (.map (v66.map (kI .i64)) (v66.map fun p => .val (.int .i64 p.2))) ∧ s.H l67 = some (.row 68 2 (v68.map encAr2_Int)) ∧ Lq 0 s.nx ∧ Lq 14 s.nx ∧ Lq l64 s.nx ∧ Lq 12 s.nx ∧ Lq l67 s.nx ∧ Nq 0 l64 ∧ Nq 0 l67 ∧ Nq 14 l64 ∧ Nq 14 l67 ∧ Nq l64 12 ∧ Nq l64 l67 ∧ Nq 12 l67) ∧ (v65, v66, v68) = o5) ?_ fun J5_0 hJ5_0 => ?_
     · rintro T5 H5 x63 ⟨v65, v66, v68, l64, l67, kk5_0, rfl⟩
       dsimp only [Lq, Nq] at kk5_0
       try dsimp only at hm2
       obtain rfl := Option.some.inj hm2
       simp only [kk5_0, kk2, kk0, e16, e19, e39, e42, e44, e49, e55, Y_walk_Dirs, ↓EVd, isCall, sevalprocAttr]
       refine TI.here (hI2 _ rfl _ ⟨l64, l67, ?_, ?_, ?_, ?_, ?_, ?_, ?_, ?_, ?_, ?_, ?_, ?_, ?_, ?_, ?_, ?_, ?_, ?_, ?_, ?_, ?_, ?_⟩)
       all_goals try simp only [kk5_0, kk2, kk0, e16, e19, e39, e42, e44, e49, e55, Y_walk_Dirs, ↓EVd, isCall, sevalprocAttr]
       all_goals first | omega | exact lq (by omega) | exact nq (by omega) | rfl | (congr 1; omega)
     refine cwp_lp ho5 (fun (v57, v59, v61, v62) s => ∃ l58 : Nat, ∃ l60 : Nat, s.T 0 = .loc 14 4 0 0 ∧ s.T 1 = int v25 ∧ s.T 4 = int v40.ino ∧ s.T 18 = .sl 3 (v53.entries.map encEntry) ∧ s.T 19 = int (v53.entries.length : Int) ∧ s.T 20 = int v57 ∧ s.H 0 = some (.row 26 1 [encBranch a0]) ∧ s.H 14 = some (.row 96 4 [.agg [.sl 13 (a0.nodes.map encNode), .msl l58 v59.length, .mp 12, .msl l60 v61.length]]) ∧ s.H 12 = some (.map (v62.map (kI .i64)) (v62.map fun p => .val (.int .i64 p.2))) ∧ s.H l58 = some (.row 52 3 (v59.map encWay)) ∧ s.H l60 = some (.row 68 2 (v61.map encAr2_Int)) ∧ Lq 0 s.nx ∧ Lq 14 s.nx ∧ Lq 12 s.nx ∧ Lq l58 s.nx ∧ Lq l60 s.nx ∧ Nq 0 l58 ∧ Nq 0 l60 ∧ Nq 14 l58 ∧ Nq 14 l60 ∧ Nq 12 l58 ∧ Nq 12 l60 ∧ Nq l58 l60) ?_ ?_
     · refine TI.here ⟨l26, l28, ?_, ?_, ?_, ?_, ?_, ?_, ?_, ?_, ?_, ?_, ?_, ?_, ?_, ?_, ?_, ?_, ?_, ?_, ?_, ?_, ?_, ?_, ?_⟩
       all_goals try simp only [kk2, kk0, e16, e19, e39, e42, e44, e49, e55, Y_walk_Dirs, ↓EVd, isCall, sevalprocAttr]
       all_goals first | omega | exact lq (by omega) | exact nq (by omega) | rfl | (congr 1; omega)
     rintro I5 ⟨v57, v59, v61, v62⟩ T5 H5 x56 st5 ⟨l58, l60, kk5⟩ hm3 hI5 hO5
     dsimp only [Lq, Nq] at kk5
     simp only [m_walk_Dirs_b5] at hm3
     rcases iteE hm3 with ⟨e70, hm3⟩ | ⟨e70, hm3⟩
     · obtain ⟨v71, e73, hm3⟩ := ixE encEntry hm3
       simp only [kk5, kk2, kk0, e16, e19, e39, e42, e44, e49, e55, e70, e73, Y_walk_Dirs, ↓EVd, isCall, sevalprocAttr]
       refine S1_call (acallF fc_walk_trail_node (by simp) ?_) rfl
       unfold c_walk_trail_node
       have g115 := And.intro (And.intro (And.intro ((e16)) ((e19))) (And.intro ((e39)) ((e42)))) (And.intro (And.intro ((e44)) ((e49))) (And.intro ((e55)) (And.intro ((e70)) ((e73)))))
       rcases iteE hm3 with ⟨e75, hm3⟩ | ⟨e75, hm3⟩
       · have e76 : ((0 : Int) = 1) = False := by decide
         obtain rfl := Option.some.inj hm3
         simp only [kk5, kk2, kk0, g115, e75, e76, Y_walk_Dirs, ↓EVd, isCall, sevalprocAttr]
         refine TI.here (hI5 _ rfl _ ⟨l58, l60, ?_, ?_, ?_, ?_, ?_, ?_, ?_, ?_, ?_, ?_, ?_, ?_, ?_, ?_, ?_, ?_, ?_, ?_, ?_, ?_, ?_, ?_, ?_⟩)
         all_goals try simp only [kk5, kk2, kk0, g115, e75, e76, Y_walk_Dirs, ↓EVd, isCall, sevalprocAttr]
         all_goals first | omega | exact lq (by omega) | exact nq (by omega) | rfl | (congr 1; omega)
       rcases iteE hm3 with ⟨e78, hm3⟩ | ⟨e78, hm3⟩
       · have e79 : ((0 : Int) = 1) = False := by decide
         obtain rfl := Option.some.inj hm3
         simp only [kk5, kk2, kk0, g115, e75, e78, e79, Y_walk_Dirs, ↓EVd, isCall, sevalprocAttr]
         refine TI.here (hI5 _ rfl _ ⟨l58, l60, ?_, ?_, ?_, ?_, ?_, ?_, ?_, ?_, ?_, ?_, ?_, ?_, ?_, ?_, ?_, ?_, ?_, ?_, ?_, ?_, ?_, ?_, ?_⟩)
         all_goals try simp only [kk5, kk2, kk0, g115, e75, e78, e79, Y_walk_Dirs, ↓EVd, isCall, sevalprocAttr]
         all_goals first | omega | exact lq (by omega) | exact nq (by omega) | rfl | (congr 1; omega)
       obtain ⟨v80, e82, hm3⟩ := ixE encNode hm3
       rcases iteE hm3 with ⟨e84, hm3⟩ | ⟨e84, hm3⟩
       · have e85 : (.agg [int v71.ino, int v25, str v71.name] : AV) = encWay (⟨v71.ino, v25, v71.name⟩ : Way) := _root_.id rfl
         simp only [kk5, kk2, kk0, g115, e75, e78, e82, e84, e85, Y_walk_Dirs, ↓EVd, isCall, sevalprocAttr]
         refine S1_call (acallF fc_walk_trail_come (by simp) ?_) rfl
         unfold c_walk_trail_come
         rcases iteE hm3 with ⟨e87, hm3⟩ | ⟨e87, hm3⟩
         · have e88 : (.agg [int v40.ino, int v71.slot] : AV) = encAr2_Int (⟨v40.ino, v71.slot⟩ : Ar2_Int) := _root_.id rfl
           obtain ⟨e91, hm3⟩ := apE hm3
           try simp only [ZL] at e91
           obtain rfl := Option.some.inj hm3
           simp only [kk5, kk2, kk0, g115, e75, e78, e82, e84, e85, e87, e88, e91, Y_walk_Dirs, ↓EVd, isCall, sevalprocAttr]
           refine TI.here (hI5 _ rfl _ ⟨l58, (x56 + 66), ?_, ?_, ?_, ?_, ?_, ?_, ?_, ?_, ?_, ?_, ?_, ?_, ?_, ?_, ?_, ?_, ?_, ?_, ?_, ?_, ?_, ?_, ?_⟩)
           all_goals try simp only [kk5, kk2, kk0, g115, e75, e78, e82, e84, e85, e87, e88, e91, Y_walk_Dirs, ↓EVd, isCall, sevalprocAttr]
           all_goals first | omega | exact lq (by omega) | exact nq (by omega) | rfl | (congr 1; omega)
         obtain ⟨e95, hm3⟩ := apE hm3
         try simp only [ZL] at e95
         obtain rfl := Option.some.inj hm3
         simp only [kk5, kk2, kk0, g115, e75, e78, e82, e84, e85, e87, e95, Y_walk_Dirs, ↓EVd, isCall, sevalprocAttr]
         refine TI.here (hI5 _ rfl _ ⟨(x56 + 71), l60, ?_, ?_, ?_, ?_, ?_, ?_, ?_, ?_, ?_, ?_, ?_, ?_, ?_, ?_, ?_, ?_, ?_, ?_, ?_, ?_, ?_, ?_, ?_⟩)
         all_goals try simp only [kk5, kk2, kk0, g115, e75, e78, e82, e84, e85, e87, e95, Y_walk_Dirs, ↓EVd, isCall, sevalprocAttr]
         all_goals first | omega | exact lq (by omega) | exact nq (by omega) | rfl | (congr 1; omega)
       obtain rfl := Option.some.inj hm3
       simp only [kk5, kk2, kk0, g115, e75, e78, e82, e84, Y_walk_Dirs, ↓EVd, isCall, sevalprocAttr]
       refine TI.here (hI5 _ rfl _ ⟨l58, l60, ?_, ?_, ?_, ?_, ?_, ?_, ?_, ?_, ?_, ?_, ?_, ?_, ?_, ?_, ?_, ?_, ?_, ?_, ?_, ?_, ?_, ?_, ?_⟩)
       all_goals try simp only [kk5, kk2, kk0, g115, e75, e78, e82, e84, Y_walk_Dirs, ↓EVd, isCall, sevalprocAttr]
       all_goals first | omega | exact lq (by omega) | exact nq (by omega) | rfl | (congr 1; omega)
     obtain rfl := Option.some.inj hm3
     simp only [kk5, kk2, kk0, e16, e19, e39, e42, e44, e49, e55, e70, Y_walk_Dirs, ↓EVd, isCall, sevalprocAttr]
     refine TI.here (hJ5_0 _ ⟨v59, v62, v61, l58, l60, ⟨?_, ?_, ?_, ?_, ?_, ?_, ?_, ?_, ?_, ?_, ?_, ?_, ?_, ?_, ?_, ?_, ?_⟩, hO5 _ rfl⟩)
     all_goals try simp only [kk5, kk2, kk0, e16, e19, e39, e42, e44, e49, e55, e70, Y_walk_Dirs, ↓EVd, isCall, sevalprocAttr]
     all_goals first | omega | exact lq (by omega) | exact nq (by omega) | rfl | (congr 1; omega)
   obtain rfl := Option.some.inj hm2
   simp only [kk2, kk0, e16, e19, e39, Y_walk_Dirs, ↓EVd, isCall, sevalprocAttr]
   refine TI.here (hJ2_0 _ ⟨v27, v30, v29, v25, l26, l28, ⟨?_, ?_, ?_, ?_, ?_, ?_, ?_, ?_, ?_, ?_, ?_, ?_, ?_, ?_, ?_, ?_, ?_, ?_, ?_, ?_, ?_, ?_⟩, hO2 _ rfl⟩)
   all_goals try simp only [kk2, kk0, e16, e19, e39, Y_walk_Dirs, ↓EVd, isCall, sevalprocAttr]
   all_goals first | omega | exact lq (by omega) | exact nq (by omega) | rfl | (congr 1; omega)
 obtain rfl := Option.some.inj hm1
 simp only [kk0, e16, Y_walk_Dirs, ↓EVd, isCall, sevalprocAttr]
 refine TI.here (hJ0_0 _ ⟨v5, v8, v7, l4, l6, ⟨?_, ?_, ?_, ?_, ?_, ?_, ?_, ?_, ?_, ?_, ?_, ?_, ?_, ?_, ?_, ?_, ?_, ?_⟩, hO0 _ rfl⟩)
 all_goals try simp only [kk0, e16, Y_walk_Dirs, ↓EVd, isCall, sevalprocAttr]
 all_goals first | omega | exact lq (by omega) | exact nq (by omega) | rfl | (congr 1; omega)
end Go.Proofs.Ytnmljicimdhpmaa.AL

/- Plain laws, part 2: the program's walk is the document's: as walk_Dirs has it. -/
set_option linter.all false
namespace Go.Proofs.Ytnmljicimdhpmaa.AL
open Go Go.Proofs

theorem my_enter_walk_Dirs {b : Branch} (hb : PB b) {k : Nat} {t : MS} (h : LI b k t.1) (hm : SM t) (hk : k < t.1.1.length) (w : Way) (hw : w.ino = wIno t.1 k) :
    iter (m_walk_Dirs_b5 b (k : Int) w (nodeP b (wIno t.1 k))) big (0, t.1.1, t.1.2, t.2) = some ((wStepM b k t).1.1, (wStepM b k t).2, (wStepM b k t).1.2) ∧ SM (wStepM b k t) := by
  have hlen := nodeP_ents hb (wIno t.1 k)
  have hn := hb.len
  have key := (iter_fold (B := m_walk_Dirs_b5 b (k : Int) w (nodeP b (wIno t.1 k))) (fun (i : Nat) (s : MS) => ((i : Int), s.1.1, s.1.2, s.2)) (nodeP b (wIno t.1 k)).entries (eStepM b k (wIno t.1 k)) (fun s => (s.1.1, s.2, s.1.2))
    (fun i u => WI b u.1.1 ∧ u.1.2.length ≤ t.1.2.length + i ∧ SM u) (by
    rintro i u hi ⟨w1, w2, w3⟩
    have htl := w1.len
    have hs2 := h.tw
    have hsl := h.wi.len
    have hat := h.at'
    obtain ⟨a1, a2, a3, a4⟩ := eStep_inv (k := k) (ino := wIno t.1 k) (e := (nodeP b (wIno t.1 k)).entries[i]) w1
    refine ⟨?_, a1, by show (eStep _ _ _ _ _).2.length ≤ _; omega, eStepM_sm w3⟩
    simp only [m_walk_Dirs_b5]
    rw [if_pos (by omega), ix_at hi]
    simp only [Option.bind_some]
    generalize (nodeP b (wIno t.1 k)).entries[i] = e
    unfold eStepM eStep
    by_cases h1 : e.ino < 1
    · rw [if_pos h1, nodeP_out (.inl h1), if_neg kind_zero, if_neg (fun h => kind_zero h.1), wr_suc (by omega)]
    · rw [if_neg h1]
      by_cases h2 : (b.nodes.length : Int) < e.ino
      · rw [if_pos h2, nodeP_out (.inr h2), if_neg kind_zero, if_neg (fun h => kind_zero h.1), wr_suc (by omega)]
      · rw [if_neg h2, nodeP_in h1 h2 hn]
        simp only [Option.bind_some]
        by_cases hkd : (nodeP b e.ino).kind = 1
        · rw [if_pos hkd, if_pos hkd]
          have hg := w3 e.ino
          by_cases hs : seenB u.1.1 e.ino = true
          · rw [if_pos (by rw [hg, if_pos hs]; omega), if_pos hs, if_neg (by rw [hs]; simp), ap_of (by simp; omega) (by omega), wr_suc (by omega), hw]
            rfl
          · have hs' : seenB u.1.1 e.ino = false := by simpa using hs
            rw [if_neg (by rw [hg, if_neg hs]; omega), if_neg hs, if_pos ⟨hkd, hs'⟩, ap_of (by simp; omega) (by omega), wr_suc (by omega), hg, if_neg hs, wr_in (by omega) (by omega)]
            rfl
        · rw [if_neg hkd, if_neg hkd, if_neg (fun h => hkd h.1), wr_suc (by omega)]) (by
    rintro u ⟨w1, w2, w3⟩
    simp only [m_walk_Dirs_b5]
    rw [if_neg (by omega)]) (s0 := t) ⟨h.wi, by omega, hm⟩ (fuel := big) (by rw [big_eq]; omega))
  exact ⟨key.1, key.2.2.2⟩
theorem my_loop_walk_Dirs {b : Branch} (hb : PB b) {k : Nat} {t : MS} (h : LI b k t.1) (hm : SM t) :
    iter (m_walk_Dirs_b2 b) (big + 1) ((k : Int), t.1.1, t.1.2, t.2) = some ((wLoopM b k t).2.1.1, (wLoopM b k t).2.2, (wLoopM b k t).2.1.2, ((wLoopM b k t).1 : Int)) ∧ (LI b (wLoopM b k t).1 (wLoopM b k t).2.1 ∧ SM (wLoopM b k t).2) ∧ (wLoopM b k t).1 = (wLoopM b k t).2.1.1.length := by
  have hn := hb.len
  refine iter_wl (B := m_walk_Dirs_b2 b) (fun (k : Nat) (t : MS) => ((k : Int), t.1.1, t.1.2, t.2)) (wStepM b) (fun t => t.1.1.length) (fun k t => (t.1.1, t.2, t.1.2, (k : Int))) (fun k t => LI b k t.1 ∧ SM t) 24 (fun k s h => ⟨h.1.at', Nat.le_trans h.1.wi.len hn⟩) ?_ ?_ 25 k t (big + 1) ⟨h, hm⟩ (by omega) (by rw [big_eq]; omega)
  · rintro k t ⟨h, hm⟩ hk
    have hl := h.wi.len
    have he : t.1.1[k].ino = wIno t.1 k := by unfold wIno; rw [List.getElem?_eq_getElem hk]; rfl
    obtain ⟨r1, r2⟩ := nodeP_kind (h.wi.dir _ (List.getElem_mem hk))
    obtain ⟨e1, e2⟩ := my_enter_walk_Dirs hb h hm hk t.1.1[k] he
    refine ⟨?_, by rw [wStepM_fst]; exact wStep_inv hb h hk, e2⟩
    simp only [m_walk_Dirs_b2]
    rw [if_pos (by omega), ix_at hk]
    simp only [Option.bind_some]
    rw [if_neg (by omega), if_neg (by omega), nodeP_in (by omega) (by omega) hn, he]
    simp only [Option.bind_some]
    rw [e1, wr_suc (by omega)]
    rfl
  · rintro k t ⟨h, hm⟩ hk
    simp only [m_walk_Dirs_b2]
    rw [if_neg (by omega)]
theorem my_push_walk_Dirs {b : Branch} (hb : PB b) {t : Nat × MS} (h : FI b (t.1, t.2.1)) (hm : SM t.2) (r : Int) :
    m_walk_Dirs_p1 b t.2.1.1 t.2.2 r = some (if (nodeP b r).kind = 1 ∧ seenB t.2.1.1 r = false then (t.2.1.1 ++ [⟨r, -1, noBytes⟩], mset t.2.2 r 1) else (t.2.1.1, t.2.2)) := by
  have hn := hb.len
  have hl := h.li.wi.len
  simp only at hl
  unfold m_walk_Dirs_p1
  by_cases h1 : r < 1
  · rw [if_pos h1, nodeP_out (.inl h1), if_neg (fun h => kind_zero h.1)]
  · rw [if_neg h1]
    by_cases h2 : (b.nodes.length : Int) < r
    · rw [if_pos h2, nodeP_out (.inr h2), if_neg (fun h => kind_zero h.1)]
    · rw [if_neg h2, nodeP_in h1 h2 hn]
      simp only [Option.bind_some]
      by_cases hk : (nodeP b r).kind = 1
      · rw [if_pos hk]
        have hg := hm r
        by_cases hs : seenB t.2.1.1 r = true
        · rw [if_pos (by rw [hg, if_pos hs]; omega), if_neg (by rw [hs]; simp)]
        · have hs' : seenB t.2.1.1 r = false := by simpa using hs
          rw [if_neg (by rw [hg, if_neg hs]; omega), if_pos ⟨hk, hs'⟩, ap_of (by simp; omega) (by omega), hg, if_neg hs, wr_in (by omega) (by omega)]
          rfl
      · rw [if_neg hk, if_neg (fun h => hk h.1)]
theorem my_walk_walk_Dirs {b : Branch} (hb : PB b) {fr : List Int} (hf : fr.length ≤ 1000) : ∃ M, iter (m_walk_Dirs_b0 b fr) big (0, 0, [], [], ([] : List (Int × Int))) = some ((walkP b fr).2.1, M, (walkP b fr).2.2) := by
  have hn := hb.len
  have key := iter_fold (B := m_walk_Dirs_b0 b fr) (fun (i : Nat) (t : Nat × MS) => ((t.1 : Int), (i : Int), t.2.1.1, t.2.1.2, t.2.2)) fr (fStepM b) (fun t => (t.2.1.1, t.2.2, t.2.1.2)) (fun _ t => FI b (t.1, t.2.1) ∧ SM t.2) (by
    rintro i t hi ⟨h, hm⟩
    have hl := h.li.wi.len
    have hi2 : FI b ((fStepM b t fr[i]).1, (fStepM b t fr[i]).2.1) := by rw [fStepM_fst]; exact fStep_inv hb h _
    simp only [m_walk_Dirs_b0]
    rw [if_pos (by omega), ix_at hi]
    simp only [Option.bind_some]
    rw [my_push_walk_Dirs hb h hm]
    unfold fStepM at hi2 ⊢
    by_cases hc : (nodeP b fr[i]).kind = 1 ∧ seenB t.2.1.1 fr[i] = false
    · rw [if_pos hc] at hi2
      rw [if_pos hc, if_pos hc]
      have hp := h.li.push (w := ⟨fr[i], -1, noBytes⟩) hc.1 hc.2
      obtain ⟨q1, q2, q3⟩ := my_loop_walk_Dirs hb (k := t.1) (t := ((t.2.1.1 ++ [⟨fr[i], -1, noBytes⟩], t.2.1.2), mset t.2.2 fr[i] 1)) hp (hm.push _ hc.2)
      simp only [Option.bind_some]
      simp only at q1
      rw [q1, wr_suc (by omega)]
      exact ⟨rfl, hi2, q2.2⟩
    · rw [if_neg hc] at hi2
      rw [if_neg hc, if_neg hc]
      obtain ⟨q1, q2, q3⟩ := my_loop_walk_Dirs hb (k := t.1) (t := t.2) h.li hm
      have hd : wLoopM b t.1 t.2 = (t.1, t.2) := wl_done (by have := h.all; simp only at this; omega)
      rw [hd] at q1
      simp only [Option.bind_some]
      simp only at q1
      rw [q1, wr_suc (by omega)]
      exact ⟨rfl, hi2, hm⟩) (by
    rintro t ⟨h, hm⟩
    simp only [m_walk_Dirs_b0]
    rw [if_neg (by omega)]) (s0 := (0, (([], []), []))) ⟨FI.nil b, fun i => by simp [mget, seenB]⟩ (fuel := big) (by rw [big_eq]; omega)
  have hfst : ∀ (l : List Int) (t : Nat × MS), ((l.foldl (fStepM b) t).1, (l.foldl (fStepM b) t).2.1) = l.foldl (fStep b) (t.1, t.2.1) := by
    intro l
    induction l with
    | nil => intro t; rfl
    | cons x l ih => intro t; rw [List.foldl_cons, List.foldl_cons, ih, fStepM_fst]
  have h2 := hfst fr (0, (([], []), []))
  have h3 : (fr.foldl (fStepM b) (0, (([], []), []))).2.1 = (walkP b fr).2 := by
    unfold walkP
    rw [← h2]
  refine ⟨(fr.foldl (fStepM b) (0, (([], []), []))).2.2, ?_⟩
  have h1 := key.1
  rw [← h3]
  exact h1

end Go.Proofs.Ytnmljicimdhpmaa.AL

/- Plain laws, part 2: the program's walk is the document's: as walk_Twice has it. -/
set_option linter.all false
namespace Go.Proofs.Ytnmljicimdhpmaa.AL
open Go Go.Proofs

end Go.Proofs.Ytnmljicimdhpmaa.AL

/- Plain laws, part 4: the guards. -/
set_option linter.all false
namespace Go.Proofs.Ytnmljicimdhpmaa.AL
open Go Go.Proofs

/-! ### Whether one is so -/
/-! ### Names -/
theorem letter_tot (n : Int) : ∃ r, m_ref03_letter n = some r := by
  unfold m_ref03_letter
  repeat' split
  all_goals exact ⟨_, rfl⟩
theorem right_tot (s : ByteArray) : ∃ r, m_ref03_Right s = some r := by
  unfold m_ref03_Right
  by_cases h1 : (s.size : Int) < 1
  · rw [if_pos h1]; exact ⟨_, rfl⟩
  rw [if_neg h1]
  by_cases h2 : 12 < (s.size : Int)
  · rw [if_pos h2]; exact ⟨_, rfl⟩
  rw [if_neg h2]
  split
  · exact ⟨_, rfl⟩
  split
  · exact ⟨_, rfl⟩
  obtain ⟨r, h3, _⟩ := iter_term (B := m_ref03_Right_b0 s) (R := fun _ => True) (fun i t => t = (i : Int) ∧ i ≤ s.size) s.size (by
    rintro i t ⟨rfl, hi⟩
    refine ⟨hi, ?_⟩
    simp only [m_ref03_Right_b0]
    by_cases hlt : i < s.size
    · rw [if_pos (by omega)]
      have hx : ixB s (i : Int) = some s[i] := by
        unfold ixB
        rw [if_pos (by omega)]
        simp [hlt]
      rw [hx]
      simp only [Option.bind_some]
      obtain ⟨r, hr⟩ := letter_tot (s[i].toNat : Int)
      rw [hr]
      simp only [Option.bind_some]
      split
      · exact .inr ⟨_, rfl, trivial⟩
      · rw [wr_suc (by omega)]
        exact .inl ⟨_, rfl, rfl, by omega⟩
    · rw [if_neg (by omega)]
      exact .inr ⟨_, rfl, trivial⟩) big 0 0 ⟨rfl, by omega⟩ (by rw [big_eq]; omega)
  rw [h3]
  cases r with
  | inl u => exact ⟨_, rfl⟩
  | inr r => exact ⟨_, rfl⟩
theorem odd_tot (e : Entry) : ∃ r, m_plain_odd e = some r := by
  unfold m_plain_odd
  obtain ⟨r, hr⟩ := right_tot e.name
  rw [hr]
  exact ⟨_, rfl⟩
/-! ### Nodes -/
structure NB (x : Node) : Prop where
  ents : x.entries.length ≤ 16
  has0 : 0 ≤ x.attr.has
  has1 : x.attr.has ≤ 31
theorem node_tot (x : Node) : ∃ r, m_plain_Node x = some r ∧ (r = true → NB x) := by
  unfold m_plain_Node
  obtain ⟨r, h3, h4⟩ := iter_term (B := m_plain_Node_b0 x) (R := fun r => match r with | .inl _ => True | .inr r => r = false) (fun i t => t = (i : Int) ∧ i ≤ x.entries.length ∧ ∀ (h : 0 < i) (h' : i - 1 < x.entries.length), (i : Int) - 1 ≤ x.entries[i - 1].slot ∧ x.entries[i - 1].slot < 16) 16 (by
    rintro i t ⟨rfl, hi, hp⟩
    refine ⟨?_, ?_⟩
    · by_cases h0 : 0 < i
      · have := hp h0 (by omega); omega
      · omega
    simp only [m_plain_Node_b0]
    by_cases hlt : i < x.entries.length
    · have hi16 : i ≤ 16 := by
        by_cases h0 : 0 < i
        · have := hp h0 (by omega); omega
        · omega
      rw [if_pos (by omega), ix_at hlt]
      simp only [Option.bind_some]
      by_cases c1 : x.entries[i].slot < 0
      · rw [if_pos c1]; exact .inr ⟨_, rfl, rfl⟩
      rw [if_neg c1]
      by_cases c2 : 16 ≤ x.entries[i].slot
      · rw [if_pos c2]; exact .inr ⟨_, rfl, rfl⟩
      rw [if_neg c2]
      by_cases c3 : 0 < i
      · have hw : wr ((i : Int) - 1) = ((i - 1 : Nat) : Int) := by rw [wr_in (by omega) (by omega)]; omega
        have hlt' : i - 1 < x.entries.length := by omega
        rw [if_pos (by omega), hw, ix_at hlt']
        simp only [Option.bind_some]
        by_cases c4 : x.entries[i].slot ≤ x.entries[i - 1].slot
        · rw [if_pos c4]; exact .inr ⟨_, rfl, rfl⟩
        · rw [if_neg c4, wr_suc (by omega)]
          refine .inl ⟨_, rfl, rfl, by omega, fun h h' => ?_⟩
          have := hp c3 hlt'
          simp only [Nat.add_sub_cancel]
          omega
      · rw [if_neg (by omega), wr_suc (by omega)]
        refine .inl ⟨_, rfl, rfl, by omega, fun h h' => ?_⟩
        simp only [Nat.add_sub_cancel]
        omega
    · rw [if_neg (by omega)]
      exact .inr ⟨_, rfl, trivial⟩) big 0 0 ⟨rfl, by omega, fun h => by omega⟩ (by rw [big_eq]; omega)
  rw [h3]
  cases r with
  | inr r => simp only at h4; subst h4; exact ⟨_, rfl, fun h => by cases h⟩
  | inl u =>
    simp only [Option.bind_some]
    repeat' (first
      | exact ⟨_, rfl, fun h => by cases h⟩
      | split)
    rename_i c1 c2 c3 c4 c5 c6 c7 c8 c9
    obtain ⟨f, hf⟩ := tot_fun odd_tot
    rw [contains_tot (f := f) x.entries (fun y _ => hf y) (by omega)]
    exact ⟨_, rfl, fun _ => ⟨by omega, c5, c6⟩⟩
theorem branch_tot (b : Branch) : ∃ r, m_plain_Branch b 24 = some r ∧ (r = true → b.nodes.length ≤ 24 ∧ ∀ x ∈ b.nodes, NB x) := by
  unfold m_plain_Branch
  by_cases h : (b.nodes.length : Int) ≤ 24
  · rw [if_pos h]
    have ht : ∀ x, ∃ r, m_plain_Branch_1 x = some r := fun x => by
      obtain ⟨r, h1, _⟩ := node_tot x
      unfold m_plain_Branch_1
      rw [h1]
      exact ⟨_, rfl⟩
    obtain ⟨f, hf⟩ := tot_fun ht
    rw [contains_tot (f := f) b.nodes (fun y _ => hf y) (by omega)]
    refine ⟨_, rfl, fun hr => ⟨by omega, fun x hx => ?_⟩⟩
    have hx' : f x = false := by
      simp only [Bool.not_eq_true', List.any_eq_false] at hr
      simpa using hr x hx
    obtain ⟨r, h1, h2⟩ := node_tot x
    have := hf x
    unfold m_plain_Branch_1 at this
    rw [h1, hx'] at this
    simp only [Option.bind_some, Option.some.injEq, Bool.not_eq_false'] at this
    exact h2 this
  · rw [if_neg h]
    exact ⟨_, rfl, fun h => by cases h⟩
structure SB (s : Stack) : Prop where
  low : s.lowers.length ≤ 3
  up : s.upper.nodes.length ≤ 24 ∧ ∀ x ∈ s.upper.nodes, NB x
  lows : ∀ b ∈ s.lowers, b.nodes.length ≤ 24 ∧ ∀ x ∈ b.nodes, NB x
theorem SB.pb {s : Stack} (h : SB s) : PB s.upper := ⟨h.up.1, fun x hx => (h.up.2 x hx).ents⟩
end Go.Proofs.Ytnmljicimdhpmaa.AL

/- Models of functions, and that the functions are as their models: written by gen.py. -/
set_option linter.all false
set_option maxRecDepth 100000
namespace Go.Proofs.Ytnmljicimdhpmaa.AL
open Go Go.Proofs
def m_slices_Equal_api_Way_api_Way_b0 (a0 : List Way) (a1 : List Way) : Int → Option (St (Int) ((Unit) ⊕ (Bool)))
 | v4 => if v4 < (a0.length : Int) then (ix a0 v4).bind fun v8 => (ix a1 v4).bind fun v11 => if (decide (v8 = v11)) = true then some (.nx (wr (v4 + 1)))
 else some (.out (.inr false))
 else some (.out (.inl ()))
def m_slices_Equal_api_Way_api_Way (a0 : List Way) (a1 : List Way) : Option (Bool) := if (a0.length : Int) = (a1.length : Int) then (iter (m_slices_Equal_api_Way_api_Way_b0 a0 a1) big 0).bind fun o => (match o with
 | (.inl _) => some true
 | (.inr r) => some r)
 else some false
def Y_slices_Equal_api_Way_api_Way := And.intro (And.intro ((@EV)) (And.intro ((@R3)) ((@R49)))) (And.intro (And.intro ((@R52)) ((@DWay))) (And.intro ((@eq52)) ((@mixed))))
set_option maxHeartbeats 2000000 in
theorem ok_slices_Equal_api_Way_api_Way (a0 : List Way) (a1 : List Way) (r : Bool) (hm0 : m_slices_Equal_api_Way_api_Way a0 a1 = some r) : Ok Try.prog 39 [.sl 3 (a0.map encWay), .sl 3 (a1.map encWay)] (bool r) := by
 unfold m_slices_Equal_api_Way_api_Way at hm0
 refine okG fc_slices_Equal_api_Way_api_Way ?_
 unfold c_slices_Equal_api_Way_api_Way
 rcases iteE hm0 with ⟨e2, hm0⟩ | ⟨e2, hm0⟩
 · obtain ⟨o0, ho0, hm0⟩ := bsE hm0
   simp only [e2, Y_slices_Equal_api_Way_api_Way, ↓EVd, isCall, sevalprocAttr]
   refine cwp_cx 0 (fun s => (.inl ()) = o0) ?_ fun J0_0 hJ0_0 => ?_
   · rintro T0 H0 x5 rfl
     try dsimp only at hm0
     obtain rfl := Option.some.inj hm0
     simp only [e2, Y_slices_Equal_api_Way_api_Way, ↓EVd, isCall, sevalprocAttr]
     all_goals first | done | rfl
   refine cwp_lp ho0 (fun v4 s => s.T 0 = .sl 3 (a0.map encWay) ∧ s.T 1 = .sl 3 (a1.map encWay) ∧ s.T 12 = int (a0.length : Int) ∧ s.T 13 = int v4) ?_ ?_
   · refine TI.here ⟨?_, ?_, ?_, ?_⟩
     all_goals try simp only [e2, Y_slices_Equal_api_Way_api_Way, ↓EVd, isCall, sevalprocAttr]
     all_goals first | omega | exact lq (by omega) | exact nq (by omega) | rfl | (congr 1; omega)
   rintro I0 v4 T0 H0 x3 st0 kk0 hm1 hI0 hO0
   dsimp only [Lq, Nq] at kk0
   simp only [m_slices_Equal_api_Way_api_Way_b0] at hm1
   rcases iteE hm1 with ⟨e7, hm1⟩ | ⟨e7, hm1⟩
   · obtain ⟨v8, e10, hm1⟩ := ixE encWay hm1
     obtain ⟨v11, e13, hm1⟩ := ixE encWay hm1
     rcases itbE hm1 with ⟨e15, hm1⟩ | ⟨e15, hm1⟩
     · obtain rfl := Option.some.inj hm1
       simp only [kk0, e2, e7, e10, e13, e15, Y_slices_Equal_api_Way_api_Way, ↓EVd, isCall, sevalprocAttr]
       refine TI.here (hI0 _ rfl _ ⟨?_, ?_, ?_, ?_⟩)
       all_goals try simp only [kk0, e2, e7, e10, e13, e15, Y_slices_Equal_api_Way_api_Way, ↓EVd, isCall, sevalprocAttr]
       all_goals first | omega | exact lq (by omega) | exact nq (by omega) | rfl | (congr 1; omega)
     obtain rfl := Option.some.inj hm1
     obtain rfl := hO0 _ rfl
     try dsimp only at hm0
     obtain rfl := Option.some.inj hm0
     simp only [kk0, e2, e7, e10, e13, e15, Y_slices_Equal_api_Way_api_Way, ↓EVd, isCall, sevalprocAttr]
     all_goals first | done | rfl
   obtain rfl := Option.some.inj hm1
   simp only [kk0, e2, e7, Y_slices_Equal_api_Way_api_Way, ↓EVd, isCall, sevalprocAttr]
   refine TI.here (hJ0_0 _ (hO0 _ rfl))
 obtain rfl := Option.some.inj hm0
 simp only [e2, Y_slices_Equal_api_Way_api_Way, ↓EVd, isCall, sevalprocAttr]
 all_goals first | done | rfl
def m_slices_Index_int_int_b0 (a0 : List Int) (a1 : Int) : Int → Option (St (Int) ((Unit) ⊕ (Int)))
 | v2 => if v2 < (a0.length : Int) then (ix a0 v2).bind fun v6 => if a1 = v6 then some (.out (.inr v2))
 else some (.nx (wr (v2 + 1)))
 else some (.out (.inl ()))
def m_slices_Index_int_int (a0 : List Int) (a1 : Int) : Option (Int) := (iter (m_slices_Index_int_int_b0 a0 a1) big 0).bind fun o => (match o with
 | (.inl _) => some (-1)
 | (.inr r) => some r)
def Y_slices_Index_int_int := And.intro ((@EV)) (And.intro ((@R3)) ((@R63)))
set_option maxHeartbeats 2000000 in
theorem ok_slices_Index_int_int (a0 : List Int) (a1 : Int) (r : Int) (hm0 : m_slices_Index_int_int a0 a1 = some r) : Ok Try.prog 84 [.sl 1 (a0.map int), int a1] (int r) := by
 unfold m_slices_Index_int_int at hm0
 refine okG fc_slices_Index_int_int ?_
 unfold c_slices_Index_int_int
 obtain ⟨o0, ho0, hm0⟩ := bsE hm0
 simp only [Y_slices_Index_int_int, ↓EVd, isCall, sevalprocAttr]
 refine cwp_cx 0 (fun s => (.inl ()) = o0) ?_ fun J0_0 hJ0_0 => ?_
 · rintro T0 H0 x3 rfl
   try dsimp only at hm0
   obtain rfl := Option.some.inj hm0
   simp only [Y_slices_Index_int_int, ↓EVd, isCall, sevalprocAttr]
   all_goals first | done | rfl
 refine cwp_lp ho0 (fun v2 s => s.T 0 = .sl 1 (a0.map int) ∧ s.T 1 = int a1 ∧ s.T 7 = int (a0.length : Int) ∧ s.T 8 = int v2) ?_ ?_
 · refine TI.here ⟨?_, ?_, ?_, ?_⟩
   all_goals try simp only [Y_slices_Index_int_int, ↓EVd, isCall, sevalprocAttr]
   all_goals first | omega | exact lq (by omega) | exact nq (by omega) | rfl | (congr 1; omega)
 rintro I0 v2 T0 H0 x1 st0 kk0 hm1 hI0 hO0
 dsimp only [Lq, Nq] at kk0
 simp only [m_slices_Index_int_int_b0] at hm1
 rcases iteE hm1 with ⟨e5, hm1⟩ | ⟨e5, hm1⟩
 · obtain ⟨v6, e8, hm1⟩ := ixE int hm1
   rcases iteE hm1 with ⟨e10, hm1⟩ | ⟨e10, hm1⟩
   · obtain rfl := Option.some.inj hm1
     obtain rfl := hO0 _ rfl
     try dsimp only at hm0
     obtain rfl := Option.some.inj hm0
     simp only [kk0, e5, e8, e10, Y_slices_Index_int_int, ↓EVd, isCall, sevalprocAttr]
     all_goals first | done | rfl
   obtain rfl := Option.some.inj hm1
   simp only [kk0, e5, e8, e10, Y_slices_Index_int_int, ↓EVd, isCall, sevalprocAttr]
   refine TI.here (hI0 _ rfl _ ⟨?_, ?_, ?_, ?_⟩)
   all_goals try simp only [kk0, e5, e8, e10, Y_slices_Index_int_int, ↓EVd, isCall, sevalprocAttr]
   all_goals first | omega | exact lq (by omega) | exact nq (by omega) | rfl | (congr 1; omega)
 obtain rfl := Option.some.inj hm1
 simp only [kk0, e5, Y_slices_Index_int_int, ↓EVd, isCall, sevalprocAttr]
 refine TI.here (hJ0_0 _ (hO0 _ rfl))
def m_slices_Contains_int_int (a0 : List Int) (a1 : Int) : Option (Bool) := (m_slices_Index_int_int a0 a1).bind fun v1 => if 0 ≤ v1 then some true
 else some false
def Y_slices_Contains_int_int := And.intro ((@EV)) (And.intro ((@R3)) ((@R63)))
set_option maxHeartbeats 2000000 in
theorem ok_slices_Contains_int_int (a0 : List Int) (a1 : Int) (r : Bool) (hm0 : m_slices_Contains_int_int a0 a1 = some r) : Ok Try.prog 51 [.sl 1 (a0.map int), int a1] (bool r) := by
 unfold m_slices_Contains_int_int at hm0
 refine okG fc_slices_Contains_int_int ?_
 unfold c_slices_Contains_int_int
 obtain ⟨v1, h2, hm0⟩ := bsE hm0
 simp only [Y_slices_Contains_int_int, ↓EVd, isCall, sevalprocAttr]
 refine qc (ok_slices_Index_int_int _ _ _ h2) rfl ?_
 rcases iteE hm0 with ⟨e4, hm0⟩ | ⟨e4, hm0⟩
 · obtain rfl := Option.some.inj hm0
   simp only [e4, Y_slices_Contains_int_int, ↓EVd, isCall, sevalprocAttr]
   all_goals first | done | rfl
 obtain rfl := Option.some.inj hm0
 simp only [e4, Y_slices_Contains_int_int, ↓EVd, isCall, sevalprocAttr]
 all_goals first | done | rfl
def m_law13_WalkOnce_1 (a0 : Way) (a1 : Way) : Option (Bool) := if a0.ino = a1.ino then some true
 else some false
def Y_law13_WalkOnce_1 := And.intro (And.intro ((@EV)) ((@R3))) (And.intro ((@R52)) ((@DWay)))
set_option maxHeartbeats 2000000 in
theorem ok_law13_WalkOnce_1 (a0 : Way) (a1 : Way) (r : Bool) (hm0 : m_law13_WalkOnce_1 a0 a1 = some r) : Ok Try.prog 50 [encWay a0, .ptr (encWay a1) 0] (bool r) := by
 unfold m_law13_WalkOnce_1 at hm0
 refine okG fc_law13_WalkOnce_1 ?_
 unfold c_law13_WalkOnce_1
 rcases iteE hm0 with ⟨e2, hm0⟩ | ⟨e2, hm0⟩
 · obtain rfl := Option.some.inj hm0
   simp only [e2, Y_law13_WalkOnce_1, ↓EVd, isCall, sevalprocAttr]
   all_goals first | done | rfl
 obtain rfl := Option.some.inj hm0
 simp only [e2, Y_law13_WalkOnce_1, ↓EVd, isCall, sevalprocAttr]
 all_goals first | done | rfl
end Go.Proofs.Ytnmljicimdhpmaa.AL

/- Models of functions, and that the functions are as their models: written by gen.py. -/
set_option linter.all false
set_option maxRecDepth 100000
namespace Go.Proofs.Ytnmljicimdhpmaa.AL
open Go Go.Proofs
end Go.Proofs.Ytnmljicimdhpmaa.AL

/- Plain laws: WalkTells. -/
set_option linter.all false
namespace Go.Proofs.Ytnmljicimdhpmaa.AL
open Go Go.Proofs

theorem equal_Way {a b : List Way} (h : a.length ≤ 1000000000) : m_slices_Equal_api_Way_api_Way a b = some (decide (a = b)) := by
  unfold m_slices_Equal_api_Way_api_Way
  by_cases hl : a.length = b.length
  · rw [if_pos (by omega), eqLoop hl h]
    · by_cases he : a = b <;> simp [he]
    · intro i h1 h2
      simp only [m_slices_Equal_api_Way_api_Way_b0]
      rw [if_pos (by omega), ix_at h1, ix_at h2]
      simp only [Option.bind_some, decide_eq_true_eq]
      rw [wr_suc (by omega)]
    · simp only [m_slices_Equal_api_Way_api_Way_b0]
      rw [if_neg (by omega)]
  · rw [if_neg (by omega)]
    have : ¬ a = b := by rintro rfl; exact hl rfl
    simp [this]
theorem myDirs_eq {b : Branch} (hb : PB b) {fr : List Int} (hf : fr.length ≤ 1000) : m_walk_Dirs b fr = some (walkP b fr).2.1 := by
  obtain ⟨M, hM⟩ := my_walk_walk_Dirs hb hf
  unfold m_walk_Dirs
  rw [hM]
  rfl
theorem ways_len {b : Branch} (hb : PB b) {fr : List Int} (hf : fr.length ≤ 1000) : (walkP b fr).2.1.length ≤ 24 := Nat.le_trans (ref_walk hb hf).2.li.wi.len hb.len
theorem branch_pb {b : Branch} (h : b.nodes.length ≤ 24 ∧ ∀ x ∈ b.nodes, NB x) : PB b := ⟨h.1, fun x hx => (h.2 x hx).ents⟩
end Go.Proofs.Ytnmljicimdhpmaa.AL

/- Models of functions, and that the functions are as their models: written by gen.py. -/
set_option linter.all false
set_option maxRecDepth 100000
namespace Go.Proofs.Ytnmljicimdhpmaa.AL
open Go Go.Proofs
def m_law13_WalkOnce_b0 (a0 : Branch) (a1 : List Int) (v11 : List Way) : Int → Option (St (Int) ((Unit) ⊕ (Bool)))
 | v14 => if v14 < (v11.length : Int) then (ix v11 v14).bind fun v18 => (slM v11 none (some v14)).bind fun v21 => (containsM (fun z => m_law13_WalkOnce_1 z v18) v21).bind fun v24 => if v24 = true then some (.out (.inr false))
 else if v14 ≤ v18.up then some (.out (.inr false))
 else if v18.ino < 1 then some (.out (.inr false))
 else if (a0.nodes.length : Int) < v18.ino then some (.out (.inr false))
 else if v18.up < 0 then (m_slices_Contains_int_int a1 v18.ino).bind fun v36 => if (!v36) = true then some (.out (.inr false))
 else some (.nx (wr (v14 + 1)))
 else some (.nx (wr (v14 + 1)))
 else some (.out (.inl ()))
def m_law13_WalkOnce_b1 (v40 : List Bool) (v48 : List Bool) : Int → Option (St (Int) ((Unit) ⊕ (Bool)))
 | v55 => if v55 < (v40.length : Int) then (ix v40 v55).bind fun v59 => if v59 = true then (ix v48 v55).bind fun v64 => if (!v64) = true then some (.out (.inr false))
 else some (.nx (wr (v55 + 1)))
 else some (.nx (wr (v55 + 1)))
 else some (.out (.inl ()))
def m_law13_WalkOnce (a0 : Branch) (a1 : List Int) (a2 : Int) : Option (Bool) := (m_plain_Branch a0 24).bind fun v1 => if (!v1) = true then (m_law13_awake ).bind fun v5 => some v5
 else if 10 < (a1.length : Int) then (m_law13_awake ).bind fun v9 => some v9
 else (m_walk_Dirs a0 a1).bind fun v11 => (iter (m_law13_WalkOnce_b0 a0 a1 v11) big 0).bind fun o => (match o with
 | (.inl _) => (m_walk_Reach a0 a1).bind fun v40 => (cloneM 8 a1).bind fun v42 => (ap 8 v42 ([a2] : List Int)).bind fun _ => (m_walk_Reach a0 (v42 ++ ([a2] : List Int))).bind fun v48 => if (v40.length : Int) = (a0.nodes.length : Int) then if (v48.length : Int) = (v40.length : Int) then (iter (m_law13_WalkOnce_b1 v40 v48) big 0).bind fun o => (match o with
 | (.inl _) => (cloneM 8 a1).bind fun v69 => (ap 8 v69 ([a2] : List Int)).bind fun _ => (m_walk_Dirs a0 (v69 ++ ([a2] : List Int))).bind fun v75 => if (v11.length : Int) ≤ (v75.length : Int) then (slM v75 none (some (v11.length : Int))).bind fun v79 => (m_slices_Equal_api_Way_api_Way v79 v11).bind fun v82 => if v82 = true then (m_law13_awake ).bind fun v86 => some v86
 else some false
 else some false
 | (.inr r) => some r)
 else some false
 else some false
 | (.inr r) => some r)
def Y_law13_WalkOnce := And.intro (And.intro (And.intro (And.intro ((@EV)) ((@R3))) (And.intro ((@R4)) ((@R24)))) (And.intro (And.intro ((@R26)) ((@R46))) (And.intro ((@R49)) (And.intro ((@R52)) ((@R63)))))) (And.intro (And.intro (And.intro ((@R72)) ((@R81))) (And.intro ((@DBranch)) ((@DOrigin)))) (And.intro (And.intro ((@DAttr)) ((@DNode))) (And.intro ((@DWay)) (And.intro ((@DEntry)) ((@mixed))))))
set_option maxHeartbeats 2000000 in
theorem ok_law13_WalkOnce (a0 : Branch) (a1 : List Int) (a2 : Int) (r : Bool) (hm0 : m_law13_WalkOnce a0 a1 a2 = some r) : Ok Try.prog 11 [encBranch a0, .sl 1 (a1.map int), int a2] (bool r) := by
 unfold m_law13_WalkOnce at hm0
 refine okG fc_law13_WalkOnce ?_
 unfold c_law13_WalkOnce
 obtain ⟨v1, h2, hm0⟩ := bsE hm0
 simp only [Y_law13_WalkOnce, ↓EVd, isCall, sevalprocAttr]
 refine qc (ok_plain_Branch _ _ _ h2) rfl ?_
 rcases itbE hm0 with ⟨e4, hm0⟩ | ⟨e4, hm0⟩
 · obtain ⟨v5, h6, hm0⟩ := bsE hm0
   simp only [e4, Y_law13_WalkOnce, ↓EVd, isCall, sevalprocAttr]
   refine qc (ok_law13_awake  _ h6) rfl ?_
   obtain rfl := Option.some.inj hm0
   simp only [e4, Y_law13_WalkOnce, ↓EVd, isCall, sevalprocAttr]
   all_goals first | done | rfl
 rcases iteE hm0 with ⟨e8, hm0⟩ | ⟨e8, hm0⟩
 · obtain ⟨v9, h10, hm0⟩ := bsE hm0
   simp only [e4, e8, Y_law13_WalkOnce, ↓EVd, isCall, sevalprocAttr]
   refine qc (ok_law13_awake  _ h10) rfl ?_
   obtain rfl := Option.some.inj hm0
   simp only [e4, e8, Y_law13_WalkOnce, ↓EVd, isCall, sevalprocAttr]
   all_goals first | done | rfl
 obtain ⟨v11, h12, hm0⟩ := bsE hm0
 simp only [e4, e8, Y_law13_WalkOnce, ↓EVd, isCall, sevalprocAttr]
 refine qc (ok_walk_Dirs _ _ _ h12) rfl ?_
 obtain ⟨o0, ho0, hm0⟩ := bsE hm0
 simp only [e4, e8, Y_law13_WalkOnce, ↓EVd, isCall, sevalprocAttr]
 refine cwp_cx 0 (fun s => (s.T 1 = .sl 1 (a1.map int) ∧ s.T 2 = int a2 ∧ s.T 3 = .loc 0 1 0 0 ∧ s.T 7 = .sl 3 (v11.map encWay) ∧ s.H 0 = some (.row 26 1 [encBranch a0]) ∧ Lq 0 s.nx) ∧ (.inl ()) = o0) ?_ fun J0_0 hJ0_0 => ?_
 · rintro T0 H0 x15 ⟨kk0_0, rfl⟩
   dsimp only [Lq, Nq] at kk0_0
   try dsimp only at hm0
   simp only [kk0_0, e4, e8, Y_law13_WalkOnce, ↓EVd, isCall, sevalprocAttr]
   refine fineI [([0], []), ([], []), ([], []), ([0], []), ([], []), ([], []), ([], []), ([], []), ([(x15 + 7)], [(x15 + 5)]), ([], [(x15 + 8)]), ([], []), ([], [])] rfl (by simp only [MT, sevalprocAttr]; first | done | omega) ?_
   obtain ⟨v40, h41, hm0⟩ := bsE hm0
   simp only [kk0_0, e4, e8, Y_law13_WalkOnce, ↓EVd, isCall, sevalprocAttr]
   refine qv (ok_walk_Reach _ _ _ h41) rfl ?_
   obtain ⟨v42, h43, hm0⟩ := bsE hm0
   simp only [kk0_0, e4, e8, Y_law13_WalkOnce, ↓EVd, isCall, sevalprocAttr]
   refine qvo (cloneO_ok fc_slices_Clone_int_int elemOfT_63 aggN_3 bytesOfT_3 zero_3 rfl (by decide) int _ _ h43 (fun z => by simp only [CLO])) rfl ?_
   obtain ⟨e46, hm0⟩ := apE hm0
   try simp only [ZL] at e46
   obtain ⟨v48, h49, hm0⟩ := bsE hm0
   simp only [kk0_0, e4, e8, e46, Y_law13_WalkOnce, ↓EVd, isCall, sevalprocAttr]
   refine qvk (ok_walk_Reach _ _ _ h49) rfl (by simp only [kk0_0, e4, e8, e46, FK, CLO, Y_law13_WalkOnce, ↓EVd, isCall, sevalprocAttr]; first | done | rfl) (by simp only [kk0_0, e4, e8, e46, FU, CLO, Y_law13_WalkOnce, ↓EVd, isCall, sevalprocAttr]; first | done | rfl) ?_
   simp only [kk0_0, e4, e8, e46, FU, CLO, Y_law13_WalkOnce, ↓EVd, isCall, sevalprocAttr]
   rcases iteE hm0 with ⟨e51, hm0⟩ | ⟨e51, hm0⟩
   · rcases iteE hm0 with ⟨e53, hm0⟩ | ⟨e53, hm0⟩
     · obtain ⟨o1, ho1, hm0⟩ := bsE hm0
       simp only [kk0_0, e4, e8, e46, e51, e53, Y_law13_WalkOnce, ↓EVd, isCall, sevalprocAttr]
       refine cwp_cx 2 (fun s => (s.T 1 = .sl 1 (a1.map int) ∧ s.T 2 = int a2 ∧ s.T 3 = .loc 0 1 0 0 ∧ s.T 7 = .sl 3 (v11.map encWay) ∧ s.H 0 = some (.row 26 1 [encBranch a0]) ∧ Lq 0 s.nx) ∧ (.inl ()) = o1) ?_ fun J1_0 hJ1_0 => ?_
       · rintro T1 H1 x56 ⟨kk1_0, rfl⟩
         dsimp only [Lq, Nq] at kk1_0
         try dsimp only at hm0
         simp only [kk1_0, e4, e8, e46, e51, e53, Y_law13_WalkOnce, ↓EVd, isCall, sevalprocAttr]
         refine fineI [([0], []), ([], []), ([], []), ([], []), ([], []), ([(x56 + 4)], [(x56 + 2)]), ([], [(x56 + 5)]), ([], [])] rfl (by simp only [MT, sevalprocAttr]; first | done | omega) ?_
         obtain ⟨v69, h70, hm0⟩ := bsE hm0
         simp only [kk1_0, e4, e8, e46, e51, e53, Y_law13_WalkOnce, ↓EVd, isCall, sevalprocAttr]
         refine qvo (cloneO_ok fc_slices_Clone_int_int elemOfT_63 aggN_3 bytesOfT_3 zero_3 rfl (by decide) int _ _ h70 (fun z => by simp only [CLO])) rfl ?_
         obtain ⟨e73, hm0⟩ := apE hm0
         try simp only [ZL] at e73
         obtain ⟨v75, h76, hm0⟩ := bsE hm0
         simp only [kk1_0, e4, e8, e46, e51, e53, e73, Y_law13_WalkOnce, ↓EVd, isCall, sevalprocAttr]
         refine qvk (ok_walk_Dirs _ _ _ h76) rfl (by simp only [kk1_0, e4, e8, e46, e51, e53, e73, FK, CLO, Y_law13_WalkOnce, ↓EVd, isCall, sevalprocAttr]; first | done | rfl) (by simp only [kk1_0, e4, e8, e46, e51, e53, e73, FU, CLO, Y_law13_WalkOnce, ↓EVd, isCall, sevalprocAttr]; first | done | rfl) ?_
         simp only [kk1_0, e4, e8, e46, e51, e53, e73, FU, CLO, Y_law13_WalkOnce, ↓EVd, isCall, sevalprocAttr]
         rcases iteE hm0 with ⟨e78, hm0⟩ | ⟨e78, hm0⟩
         · obtain ⟨v79, h80, hm0⟩ := bsE hm0
           have e81 := show evalSlice Try.prog 49 (.sl 3 (v75.map encWay)) none (some (int (v11.length : Int))) none = some (.sl 3 (v79.map encWay)) from slice_fact elemOfT_49 aggN_52 encWay h80
           have g88 := And.intro (And.intro (And.intro ((e4)) ((e8))) (And.intro ((e46)) ((e51)))) (And.intro (And.intro ((e53)) ((e73))) (And.intro ((e78)) ((e81))))
           obtain ⟨v82, h83, hm0⟩ := bsE hm0
           simp only [kk1_0, g88, Y_law13_WalkOnce, ↓EVd, isCall, sevalprocAttr]
           refine qc (ok_slices_Equal_api_Way_api_Way _ _ _ h83) rfl ?_
           rcases itbE hm0 with ⟨e85, hm0⟩ | ⟨e85, hm0⟩
           · obtain ⟨v86, h87, hm0⟩ := bsE hm0
             simp only [kk1_0, g88, e85, Y_law13_WalkOnce, ↓EVd, isCall, sevalprocAttr]
             refine qc (ok_law13_awake  _ h87) rfl ?_
             obtain rfl := Option.some.inj hm0
             simp only [kk1_0, g88, e85, Y_law13_WalkOnce, ↓EVd, isCall, sevalprocAttr]
             all_goals first | done | rfl
           obtain rfl := Option.some.inj hm0
           simp only [kk1_0, g88, e85, Y_law13_WalkOnce, ↓EVd, isCall, sevalprocAttr]
           all_goals first | done | rfl
         obtain rfl := Option.some.inj hm0
         simp only [kk1_0, e4, e8, e46, e51, e53, e73, e78, Y_law13_WalkOnce, ↓EVd, isCall, sevalprocAttr]
         all_goals first | done | rfl
       refine cwp_lp ho1 (fun v55 s => s.T 1 = .sl 1 (a1.map int) ∧ s.T 2 = int a2 ∧ s.T 3 = .loc 0 1 0 0 ∧ s.T 7 = .sl 3 (v11.map encWay) ∧ s.T 10 = .sl 1 (v40.map bool) ∧ s.T 11 = .sl 1 (v48.map bool) ∧ s.T 94 = int (v40.length : Int) ∧ s.T 95 = int v55 ∧ s.H 0 = some (.row 26 1 [encBranch a0]) ∧ Lq 0 s.nx) ?_ ?_
       · refine TI.here ⟨?_, ?_, ?_, ?_, ?_, ?_, ?_, ?_, ?_, ?_⟩
         all_goals try simp only [kk0_0, e4, e8, e46, e51, e53, Y_law13_WalkOnce, ↓EVd, isCall, sevalprocAttr]
         all_goals first | omega | exact lq (by omega) | exact nq (by omega) | rfl | (congr 1; omega)
       rintro I1 v55 T1 H1 x54 st1 kk1 hm1 hI1 hO1
       dsimp only [Lq, Nq] at kk1
       simp only [m_law13_WalkOnce_b1] at hm1
       rcases iteE hm1 with ⟨e58, hm1⟩ | ⟨e58, hm1⟩
       · obtain ⟨v59, e61, hm1⟩ := ixE bool hm1
         rcases itbE hm1 with ⟨e63, hm1⟩ | ⟨e63, hm1⟩
         · obtain ⟨v64, e66, hm1⟩ := ixE bool hm1
           have g89 := And.intro (And.intro (And.intro ((e4)) ((e8))) (And.intro ((e46)) ((e51)))) (And.intro (And.intro ((e53)) ((e58))) (And.intro ((e61)) (And.intro ((e63)) ((e66)))))
           rcases itbE hm1 with ⟨e68, hm1⟩ | ⟨e68, hm1⟩
           · obtain rfl := Option.some.inj hm1
             obtain rfl := hO1 _ rfl
             try dsimp only at hm0
             obtain rfl := Option.some.inj hm0
             simp only [kk1, g89, e68, Y_law13_WalkOnce, ↓EVd, isCall, sevalprocAttr]
             all_goals first | done | rfl
           obtain rfl := Option.some.inj hm1
           simp only [kk1, g89, e68, Y_law13_WalkOnce, ↓EVd, isCall, sevalprocAttr]
           refine TI.here (hI1 _ rfl _ ⟨?_, ?_, ?_, ?_, ?_, ?_, ?_, ?_, ?_, ?_⟩)
           all_goals try simp only [kk1, g89, e68, Y_law13_WalkOnce, ↓EVd, isCall, sevalprocAttr]
           all_goals first | omega | exact lq (by omega) | exact nq (by omega) | rfl | (congr 1; omega)
         obtain rfl := Option.some.inj hm1
         simp only [kk1, e4, e8, e46, e51, e53, e58, e61, e63, Y_law13_WalkOnce, ↓EVd, isCall, sevalprocAttr]
         refine TI.here (hI1 _ rfl _ ⟨?_, ?_, ?_, ?_, ?_, ?_, ?_, ?_, ?_, ?_⟩)
         all_goals try simp only [kk1, e4, e8, e46, e51, e53, e58, e61, e63, Y_law13_WalkOnce, ↓EVd, isCall, sevalprocAttr]
         all_goals first | omega | exact lq (by omega) | exact nq (by omega) | rfl | (congr 1; omega)
       obtain rfl := Option.some.inj hm1
       simp only [kk1, e4, e8, e46, e51, e53, e58, Y_law13_WalkOnce, ↓EVd, isCall, sevalprocAttr]
       refine TI.here (hJ1_0 _ ⟨⟨?_, ?_, ?_, ?_, ?_, ?_⟩, hO1 _ rfl⟩)
       all_goals try simp only [kk1, e4, e8, e46, e51, e53, e58, Y_law13_WalkOnce, ↓EVd, isCall, sevalprocAttr]
       all_goals first | omega | exact lq (by omega) | exact nq (by omega) | rfl | (congr 1; omega)
     obtain rfl := Option.some.inj hm0
     simp only [kk0_0, e4, e8, e46, e51, e53, Y_law13_WalkOnce, ↓EVd, isCall, sevalprocAttr]
     all_goals first | done | rfl
   obtain rfl := Option.some.inj hm0
   simp only [kk0_0, e4, e8, e46, e51, Y_law13_WalkOnce, ↓EVd, isCall, sevalprocAttr]
   all_goals first | done | rfl
 refine cwp_lp ho0 (fun v14 s => s.T 1 = .sl 1 (a1.map int) ∧ s.T 2 = int a2 ∧ s.T 3 = .loc 0 1 0 0 ∧ s.T 7 = .sl 3 (v11.map encWay) ∧ s.T 26 = .sl 3 (v11.map encWay) ∧ s.T 27 = int (v11.length : Int) ∧ s.T 28 = int v14 ∧ s.H 0 = some (.row 26 1 [encBranch a0]) ∧ Lq 0 s.nx) ?_ ?_
 · refine TI.here ⟨?_, ?_, ?_, ?_, ?_, ?_, ?_, ?_, ?_⟩
   all_goals try simp only [e4, e8, Y_law13_WalkOnce, ↓EVd, isCall, sevalprocAttr]
   all_goals first | omega | exact lq (by omega) | exact nq (by omega) | rfl | (congr 1; omega)
 rintro I0 v14 T0 H0 x13 st0 kk0 hm1 hI0 hO0
 dsimp only [Lq, Nq] at kk0
 simp only [m_law13_WalkOnce_b0] at hm1
 rcases iteE hm1 with ⟨e17, hm1⟩ | ⟨e17, hm1⟩
 · obtain ⟨v18, e20, hm1⟩ := ixE encWay hm1
   obtain ⟨v21, h22, hm1⟩ := bsE hm1
   have e23 := show evalSlice Try.prog 49 (.sl 3 (v11.map encWay)) none (some (int v14)) none = some (.sl 3 (v21.map encWay)) from slice_fact elemOfT_49 aggN_52 encWay h22
   obtain ⟨v24, h25, hm1⟩ := bsE hm1
   simp only [kk0, e4, e8, e17, e20, e23, Y_law13_WalkOnce, ↓EVd, isCall, sevalprocAttr]
   refine qcb (containsM_ok fc_slices_ContainsFunc_api_Way_api_Way fc_slices_IndexFunc_api_Way_api_Way elemOfT_49 aggN_52 (fi := []) (ca := [.ptr (encWay v18) 0]) encWay v21 (fun z => m_law13_WalkOnce_1 z v18) _ h25 (fun z b hz => ok_law13_WalkOnce_1 z v18 b hz) (fun z => by simp only [CLO]) rfl (by simp only [CLO]) (fun z => by simp only [Y_law13_WalkOnce, ↓EVd, isCall, sevalprocAttr])) rfl (by simp only [kk0, e4, e8, e17, e20, e23, FZ, CLO, Y_law13_WalkOnce, ↓EVd, isCall, sevalprocAttr]) ?_
   rcases itbE hm1 with ⟨e27, hm1⟩ | ⟨e27, hm1⟩
   · obtain rfl := Option.some.inj hm1
     obtain rfl := hO0 _ rfl
     try dsimp only at hm0
     obtain rfl := Option.some.inj hm0
     simp only [kk0, e4, e8, e17, e20, e23, e27, Y_law13_WalkOnce, ↓EVd, isCall, sevalprocAttr]
     all_goals first | done | rfl
   rcases iteE hm1 with ⟨e29, hm1⟩ | ⟨e29, hm1⟩
   · obtain rfl := Option.some.inj hm1
     obtain rfl := hO0 _ rfl
     try dsimp only at hm0
     obtain rfl := Option.some.inj hm0
     simp only [kk0, e4, e8, e17, e20, e23, e27, e29, Y_law13_WalkOnce, ↓EVd, isCall, sevalprocAttr]
     all_goals first | done | rfl
   rcases iteE hm1 with ⟨e31, hm1⟩ | ⟨e31, hm1⟩
   · obtain rfl := Option.some.inj hm1
     obtain rfl := hO0 _ rfl
     try dsimp only at hm0
     obtain rfl := Option.some.inj hm0
     simp only [kk0, e4, e8, e17, e20, e23, e27, e29, e31, Y_law13_WalkOnce, ↓EVd, isCall, sevalprocAttr]
     all_goals first | done | rfl
   have g90 := And.intro (And.intro (And.intro ((e4)) ((e8))) (And.intro ((e17)) ((e20)))) (And.intro (And.intro ((e23)) ((e27))) (And.intro ((e29)) ((e31))))
   rcases iteE hm1 with ⟨e33, hm1⟩ | ⟨e33, hm1⟩
   · obtain rfl := Option.some.inj hm1
     obtain rfl := hO0 _ rfl
     try dsimp only at hm0
     obtain rfl := Option.some.inj hm0
     simp only [kk0, g90, e33, Y_law13_WalkOnce, ↓EVd, isCall, sevalprocAttr]
     all_goals first | done | rfl
   rcases iteE hm1 with ⟨e35, hm1⟩ | ⟨e35, hm1⟩
   · obtain ⟨v36, h37, hm1⟩ := bsE hm1
     simp only [kk0, g90, e33, e35, Y_law13_WalkOnce, ↓EVd, isCall, sevalprocAttr]
     refine qc (ok_slices_Contains_int_int _ _ _ h37) rfl ?_
     rcases itbE hm1 with ⟨e39, hm1⟩ | ⟨e39, hm1⟩
     · obtain rfl := Option.some.inj hm1
       obtain rfl := hO0 _ rfl
       try dsimp only at hm0
       obtain rfl := Option.some.inj hm0
       simp only [kk0, g90, e33, e35, e39, Y_law13_WalkOnce, ↓EVd, isCall, sevalprocAttr]
       all_goals first | done | rfl
     obtain rfl := Option.some.inj hm1
     simp only [kk0, g90, e33, e35, e39, Y_law13_WalkOnce, ↓EVd, isCall, sevalprocAttr]
     refine TI.here (hI0 _ rfl _ ⟨?_, ?_, ?_, ?_, ?_, ?_, ?_, ?_, ?_⟩)
     all_goals try simp only [kk0, g90, e33, e35, e39, Y_law13_WalkOnce, ↓EVd, isCall, sevalprocAttr]
     all_goals first | omega | exact lq (by omega) | exact nq (by omega) | rfl | (congr 1; omega)
   obtain rfl := Option.some.inj hm1
   simp only [kk0, g90, e33, e35, Y_law13_WalkOnce, ↓EVd, isCall, sevalprocAttr]
   refine TI.here (hI0 _ rfl _ ⟨?_, ?_, ?_, ?_, ?_, ?_, ?_, ?_, ?_⟩)
   all_goals try simp only [kk0, g90, e33, e35, Y_law13_WalkOnce, ↓EVd, isCall, sevalprocAttr]
   all_goals first | omega | exact lq (by omega) | exact nq (by omega) | rfl | (congr 1; omega)
 obtain rfl := Option.some.inj hm1
 simp only [kk0, e4, e8, e17, Y_law13_WalkOnce, ↓EVd, isCall, sevalprocAttr]
 refine TI.here (hJ0_0 _ ⟨⟨?_, ?_, ?_, ?_, ?_, ?_⟩, hO0 _ rfl⟩)
 all_goals try simp only [kk0, e4, e8, e17, Y_law13_WalkOnce, ↓EVd, isCall, sevalprocAttr]
 all_goals first | omega | exact lq (by omega) | exact nq (by omega) | rfl | (congr 1; omega)
end Go.Proofs.Ytnmljicimdhpmaa.AL

/- Plain laws: WalkOnce. -/
set_option linter.all false
namespace Go.Proofs.Ytnmljicimdhpmaa.AL
open Go Go.Proofs

/-! ### Where each stands -/
def UpI (fr : List Int) (ws : List Way) : Prop := ∀ (i : Nat) (w : Way), ws[i]? = some w → w.up < (i : Int) ∧ (w.up < 0 → w.ino ∈ fr)
theorem UpI.push {fr : List Int} {ws : List Way} (h : UpI fr ws) {w : Way} (h1 : w.up < (ws.length : Int)) (h2 : w.up < 0 → w.ino ∈ fr) : UpI fr (ws ++ [w]) := by
  intro i v hv
  rw [List.getElem?_append] at hv
  split at hv
  · exact h i v hv
  · rename_i hi
    have hi2 : i - ws.length = 0 := by
      have := (List.getElem?_eq_some_iff.1 hv).1
      simp at this
      omega
    rw [hi2] at hv
    obtain rfl : w = v := by simpa using hv
    exact ⟨by omega, h2⟩
theorem eStep_up {b : Branch} {fr : List Int} {k : Nat} {ino : Int} {s : WS} {e : Entry} (h : UpI fr s.1) (hk : k < s.1.length) : UpI fr (eStep b k ino s e).1 ∧ k < (eStep b k ino s e).1.length := by
  unfold eStep
  split
  · split
    · exact ⟨h, hk⟩
    · exact ⟨h.push (w := ⟨e.ino, k, e.name⟩) (by simp only; omega) (fun h0 => absurd h0 (by simp only; omega)), by simp; omega⟩
  · exact ⟨h, hk⟩
theorem eFold_up {b : Branch} {fr : List Int} {k : Nat} {ino : Int} : ∀ (es : List Entry) (s : WS), UpI fr s.1 → k < s.1.length → UpI fr (es.foldl (eStep b k ino) s).1
  | [], s, h, _ => h
  | e :: es, s, h, hk => by
    obtain ⟨h1, h2⟩ := eStep_up (b := b) (ino := ino) (e := e) h hk
    rw [List.foldl_cons]
    exact eFold_up es _ h1 h2
theorem wl_up {b : Branch} {fr : List Int} : ∀ (f k : Nat) (s : WS), UpI fr s.1 → UpI fr (wl (wStep b) (fun s => s.1.length) f k s).2.1
  | 0, k, s, h => h
  | f + 1, k, s, h => by
    unfold wl
    split
    · rename_i hk; exact wl_up f (k + 1) _ (eFold_up _ _ h hk)
    · exact h
theorem fStep_up {b : Branch} {fr : List Int} {t : Nat × WS} {r : Int} (h : UpI fr t.2.1) (hr : r ∈ fr) : UpI fr (fStep b t r).2.1 := by
  unfold fStep
  split
  · exact wl_up _ _ _ (h.push (w := ⟨r, -1, noBytes⟩) (by simp only; omega) (fun _ => hr))
  · exact h
theorem fFold_up {b : Branch} {fr : List Int} : ∀ (l : List Int) (t : Nat × WS), (∀ r ∈ l, r ∈ fr) → UpI fr t.2.1 → UpI fr (l.foldl (fStep b) t).2.1
  | [], t, _, h => h
  | r :: l, t, hl, h => by
    rw [List.foldl_cons]
    exact fFold_up l _ (fun x hx => hl x (by simp [hx])) (fStep_up h (hl r (by simp)))
theorem walk_up (b : Branch) (fr : List Int) : UpI fr (walkP b fr).2.1 := fFold_up fr _ (fun _ h => h) (fun i w h => by simp at h)
/-! ### From more -/
theorem walk_more (b : Branch) (fr : List Int) (more : Int) : (walkP b fr).2.1 <+: (walkP b (fr ++ [more])).2.1 := by
  unfold walkP
  rw [List.foldl_append]
  exact (fStep_le b (fr.foldl (fStep b) (0, [], [])) more).1.pw
theorem reach_more (b : Branch) (fr : List Int) (more : Int) {j : Nat} (h : (reachP b fr)[j]? = some true) : (reachP b (fr ++ [more]))[j]? = some true := by
  unfold reachP reachW at h ⊢
  rw [setT_get] at h ⊢
  have hj : j < b.nodes.length := by
    split at h
    · cases hh : (List.replicate b.nodes.length false)[j]? with
      | none => rw [hh] at h; cases h
      | some x => have := (List.getElem?_eq_some_iff.1 hh).1; simpa using this
    · have := (List.getElem?_eq_some_iff.1 h).1; simpa using this
  have hr : (List.replicate b.nodes.length false)[j]? = some false := by simp [hj]
  rw [hr] at h ⊢
  split at h
  · rename_i hm
    rw [if_pos]
    · rfl
    · unfold reachL at hm ⊢
      obtain ⟨w, hw, hjw⟩ := List.mem_flatMap.1 hm
      exact List.mem_flatMap.2 ⟨w, (walk_more b fr more).subset hw, hjw⟩
  · cases h
/-! ### The law -/
theorem contains_int {l : List Int} (x : Int) (hl : l.length ≤ 1000000) : ∃ b, m_slices_Contains_int_int l x = some b ∧ (b = true ↔ x ∈ l) := by
  unfold m_slices_Contains_int_int m_slices_Index_int_int
  obtain ⟨r, h1, h2⟩ := iter_term (B := m_slices_Index_int_int_b0 l x) (R := fun r => (r = .inl () ∧ x ∉ l) ∨ ∃ i : Nat, r = .inr (i : Int) ∧ x ∈ l) (fun i t => t = (i : Int) ∧ i ≤ l.length ∧ ∀ q (h : q < l.length), q < i → ¬ x = l[q]) l.length (by
    rintro i t ⟨rfl, hi, hq⟩
    refine ⟨hi, ?_⟩
    simp only [m_slices_Index_int_int_b0]
    by_cases hlt : i < l.length
    · rw [if_pos (by omega), ix_at hlt]
      simp only [Option.bind_some]
      by_cases he : x = l[i]
      · rw [if_pos he]
        exact .inr ⟨_, rfl, .inr ⟨i, rfl, by rw [he]; exact List.getElem_mem hlt⟩⟩
      · rw [if_neg he, wr_suc (by omega)]
        refine .inl ⟨_, rfl, rfl, by omega, fun q h hqi => ?_⟩
        by_cases e : q = i
        · subst e; exact he
        · exact hq q h (by omega)
    · rw [if_neg (by omega)]
      refine .inr ⟨_, rfl, .inl ⟨rfl, fun hm => ?_⟩⟩
      obtain ⟨q, hql, rfl⟩ := List.getElem_of_mem hm
      exact hq q hql (by omega) rfl) big 0 0 ⟨rfl, by omega, fun q h hq => by omega⟩ (by rw [big_eq]; omega)
  rw [h1]
  simp only [Option.bind_some]
  rcases h2 with ⟨rfl, h2⟩ | ⟨i, rfl, h2⟩
  · exact ⟨false, rfl, by simp [h2]⟩
  · simp only [Option.bind_some]
    rw [if_pos (by omega)]
    exact ⟨true, rfl, by simp [h2]⟩
theorem head_slM {α : Type} {xs : List α} {i : Nat} (h : i ≤ xs.length) : slM xs none (some (i : Int)) = some (xs.take i) := by
  unfold slM
  simp only [Option.getD_none, Option.getD_some]
  rw [if_pos (by omega)]
  simp
theorem clone_int {l : List Int} (h : l.length ≤ 1000) : cloneM 8 l = some l := by
  unfold cloneM
  rw [ap_of (by simp; omega) (by decide)]
  rfl
theorem law_walkOnce (b : Branch) (fr : List Int) (more : Int) : m_law13_WalkOnce b fr more = some true := by
  unfold m_law13_WalkOnce
  obtain ⟨r, h1, h2⟩ := branch_tot b
  rw [h1]
  simp only [Option.bind_some]
  cases r with
  | false => rfl
  | true =>
    have hb := branch_pb (h2 rfl)
    rw [if_neg (by simp)]
    by_cases hf : 10 < (fr.length : Int)
    · rw [if_pos hf]; rfl
    rw [if_neg hf, myDirs_eq hb (by omega)]
    simp only [Option.bind_some]
    have hw := ways_len hb (fr := fr) (by omega)
    have hn := hb.len
    have hwi := (ref_walk hb (fr := fr) (by omega)).2.li.wi
    have hup := walk_up b fr
    have hm := walk_more b fr more
    have hw2 := ways_len hb (fr := fr ++ [more]) (by simp; omega)
    obtain ⟨r, g1, g2⟩ := iter_term (B := m_law13_WalkOnce_b0 b fr (walkP b fr).2.1) (R := fun r => r = .inl ()) (fun i t => t = (i : Int) ∧ i ≤ (walkP b fr).2.1.length) (walkP b fr).2.1.length (by
      rintro i t ⟨rfl, hi⟩
      refine ⟨hi, ?_⟩
      simp only [m_law13_WalkOnce_b0]
      by_cases hlt : i < (walkP b fr).2.1.length
      · rw [if_pos (by omega), ix_at hlt]
        simp only [Option.bind_some]
        rw [head_slM (by omega)]
        simp only [Option.bind_some]
        obtain ⟨w, hwe⟩ : ∃ w, w = (walkP b fr).2.1[i] := ⟨_, rfl⟩
        have hwa : (walkP b fr).2.1[i]? = some w := by rw [hwe]; exact List.getElem?_eq_getElem hlt
        rw [← hwe]
        obtain ⟨u1, u2⟩ := hup i w hwa
        have hk := nodeP_kind (hwi.dir w (by rw [hwe]; exact List.getElem_mem hlt))
        rw [contains_tot (f := fun z : Way => decide (z.ino = w.ino)) _ (fun z _ => by
          unfold m_law13_WalkOnce_1
          by_cases hz : z.ino = w.ino <;> simp [hz]) (by rw [List.length_take]; omega)]
        have hany : (((walkP b fr).2.1.take i).any fun z => decide (z.ino = w.ino)) = false := by
          rw [List.any_eq_false]
          intro z hz
          obtain ⟨j, hj, rfl⟩ := List.getElem_of_mem hz
          have hj' : j < i := by simp at hj; omega
          rw [List.getElem_take]
          intro he
          have := ino_inj hwi (List.getElem?_eq_getElem (show j < (walkP b fr).2.1.length by omega)) hwa (by simpa using he)
          omega
        rw [hany]
        simp only [Option.bind_some, Bool.false_eq_true, if_false]
        rw [if_neg (by omega), if_neg (by omega), if_neg (by omega)]
        by_cases h0 : w.up < 0
        · rw [if_pos h0]
          obtain ⟨c, c1, c2⟩ := contains_int (l := fr) w.ino (by omega)
          have hc : c = true := c2.2 (u2 h0)
          rw [c1, hc, wr_suc (by omega)]
          exact .inl ⟨_, rfl, rfl, by omega⟩
        · rw [if_neg h0, wr_suc (by omega)]
          exact .inl ⟨_, rfl, rfl, by omega⟩
      · rw [if_neg (by omega)]
        exact .inr ⟨_, rfl, rfl⟩) big 0 0 ⟨rfl, by omega⟩ (by rw [big_eq]; omega)
    subst g2
    rw [g1]
    simp only [Option.bind_some]
    have hl1 := reachP_len b fr
    have hl2 := reachP_len b (fr ++ [more])
    rw [walkReach_eq hb (by omega), clone_int (by omega)]
    simp only [Option.bind_some]
    rw [ap_of (by simp; omega) (by decide)]
    simp only [Option.bind_some]
    rw [walkReach_eq hb (by simp; omega)]
    simp only [Option.bind_some]
    rw [if_pos (by omega), if_pos (by omega)]
    obtain ⟨r, g3, g4⟩ := iter_term (B := m_law13_WalkOnce_b1 (reachP b fr) (reachP b (fr ++ [more]))) (R := fun r => r = .inl ()) (fun i t => t = (i : Int) ∧ i ≤ (reachP b fr).length) (reachP b fr).length (by
      rintro i t ⟨rfl, hi⟩
      refine ⟨hi, ?_⟩
      simp only [m_law13_WalkOnce_b1]
      by_cases hlt : i < (reachP b fr).length
      · rw [if_pos (by omega), ix_at hlt]
        simp only [Option.bind_some]
        by_cases ht : (reachP b fr)[i] = true
        · have h3 := reach_more b fr more (j := i) (by rw [List.getElem?_eq_getElem hlt, ht])
          rw [if_pos ht, ix_at (show i < (reachP b (fr ++ [more])).length by omega)]
          have h4 : (reachP b (fr ++ [more]))[i]'(by omega) = true := by
            rw [List.getElem?_eq_getElem (show i < (reachP b (fr ++ [more])).length by omega)] at h3
            exact Option.some.inj h3
          rw [h4, wr_suc (by omega)]
          exact .inl ⟨_, rfl, rfl, by omega⟩
        · rw [if_neg ht, wr_suc (by omega)]
          exact .inl ⟨_, rfl, rfl, by omega⟩
      · rw [if_neg (by omega)]
        exact .inr ⟨_, rfl, rfl⟩) big 0 0 ⟨rfl, by omega⟩ (by rw [big_eq]; omega)
    subst g4
    rw [g3]
    simp only [Option.bind_some]
    rw [myDirs_eq hb (by simp; omega)]
    simp only [Option.bind_some]
    have hml := hm.length_le
    rw [if_pos (by omega), head_slM hml]
    simp only [Option.bind_some]
    have htk : (walkP b (fr ++ [more])).2.1.take (walkP b fr).2.1.length = (walkP b fr).2.1 := List.prefix_iff_eq_take.1 hm ▸ rfl
    rw [htk, equal_Way (by omega)]
    simp
    rfl
theorem ok_walkOnce (b : Branch) (fr : List Int) (i : Int) : Ok Try.prog 11 [encBranch b, .sl 1 (fr.map int), int i] (bool true) := ok_law13_WalkOnce b fr i true (law_walkOnce b fr i)
end Go.Proofs.Ytnmljicimdhpmaa.AL

/- Each directory is come to once; each but those where it begins stands behind the one that names it; what is reached from some is reached from more: for every layer, every list of inodes and every number. -/
namespace Go.Proofs.Ytnmljicimdhpmaa
theorem walkOnce_holds : Rows.WalkOnceSaid := holds_walkOnce_of fun b fr i _ _ _ => AL.ok_walkOnce b fr i
#print axioms walkOnce_holds
end Go.Proofs.Ytnmljicimdhpmaa

