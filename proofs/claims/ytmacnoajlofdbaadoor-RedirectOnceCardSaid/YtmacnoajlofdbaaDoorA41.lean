/- A law of the given program is proved: part 41 of 49. -/
import Derived.Test.YtmacnoajlofdbaaDoorA40
set_option linter.all false
/- Models of functions, and that the functions are as their models: written by gen.py. -/
set_option linter.all false
set_option maxRecDepth 100000
namespace Go.Proofs.YtmacnoajlofdbaaDoor.AL
open Go Go.Proofs
def x6h (a0 : Branch) (v5 : List Way) (v8 : List (Int × Int)) (v17 : Int) : Option (List Way × List (Int × Int)) := if v17 < 1 then some (v5, v8)
 else if (a0.nodes.length : Int) < v17 then some (v5, v8)
 else (ix a0.nodes (wr (v17 - 1))).bind fun v103 => if v103.kind = 1 then if 0 < (mget v8 v17) then some (v5, v8)
 else (ap 32 v5 ([(⟨v17, (-1), xl⟩ : Way)] : List Way)).bind fun _ => some ((v5 ++ ([(⟨v17, (-1), xl⟩ : Way)] : List Way)), (mset v8 v17 (wr ((mget v8 v17) + 1))))
 else some (v5, v8)
def xdn  : Unit → Option (St (Unit) (Unit))
 | _ => some (.out ())
def x5m  : Unit → Option (St (Unit) (Unit))
 | _ => some (.out ())
def x6e (a0 : Branch) (v25 : Int) (v40 : Way) (v53 : Node) : (Int × List Way × List Ar2_Int × List (Int × Int)) → Option (St (Int × List Way × List Ar2_Int × List (Int × Int)) (List Way × List (Int × Int) × List Ar2_Int))
 | (v57, v59, v61, v62) => if v57 < (v53.entries.length : Int) then (ix v53.entries v57).bind fun v71 => if v71.ino < 1 then some (.nx ((wr (v57 + 1)), v59, v61, v62))
 else if (a0.nodes.length : Int) < v71.ino then some (.nx ((wr (v57 + 1)), v59, v61, v62))
 else (ix a0.nodes (wr (v71.ino - 1))).bind fun v80 => if v80.kind = 1 then if 0 < (mget v62 v71.ino) then (ap 16 v61 ([(⟨v40.ino, v71.slot⟩ : Ar2_Int)] : List Ar2_Int)).bind fun _ => some (.nx ((wr (v57 + 1)), v59, (v61 ++ ([(⟨v40.ino, v71.slot⟩ : Ar2_Int)] : List Ar2_Int)), v62))
 else (ap 32 v59 ([(⟨v71.ino, v25, v71.name⟩ : Way)] : List Way)).bind fun _ => some (.nx ((wr (v57 + 1)), (v59 ++ ([(⟨v71.ino, v25, v71.name⟩ : Way)] : List Way)), v61, (mset v62 v71.ino (wr ((mget v62 v71.ino) + 1)))))
 else some (.nx ((wr (v57 + 1)), v59, v61, v62))
 else some (.out (v59, v62, v61))
def x7e (a0 : Branch) : (Int × List Way × List Ar2_Int × List (Int × Int)) → Option (St (Int × List Way × List Ar2_Int × List (Int × Int)) (List Way × List (Int × Int) × List Ar2_Int × Int))
 | (v25, v27, v29, v30) => if v25 < (v27.length : Int) then (ix v27 v25).bind fun v40 => if v40.ino < 1 then (iter (xdn) big ()).bind fun o => (match o with
 | _ => some (.nx ((wr (v25 + 1)), v27, v29, v30)))
 else if (a0.nodes.length : Int) < v40.ino then (iter (x5m) big ()).bind fun o => (match o with
 | _ => some (.nx ((wr (v25 + 1)), v27, v29, v30)))
 else (ix a0.nodes (wr (v40.ino - 1))).bind fun v53 => (iter (x6e a0 v25 v40 v53) big (0, v27, v29, v30)).bind fun o => (match o with
 | (v65, v66, v68) => some (.nx ((wr (v25 + 1)), v65, v68, v66)))
 else some (.out (v27, v30, v29, v25))
def x9e (a0 : Branch) (a1 : List Int) : (Int × Int × List Way × List Ar2_Int × List (Int × Int)) → Option (St (Int × Int × List Way × List Ar2_Int × List (Int × Int)) (List Way × List (Int × Int) × List Ar2_Int))
 | (v2, v3, v5, v7, v8) => if v3 < (a1.length : Int) then (ix a1 v3).bind fun v17 => (x6h a0 v5 v8 v17).bind fun o => (match o with
 | (v22, v23) => (iter (x7e a0) (big + 1) (v2, v22, v7, v23)).bind fun o => (match o with
 | (v33, v34, v36, v37) => some (.nx (v37, (wr (v3 + 1)), v33, v36, v34))))
 else some (.out (v5, v8, v7))
def x1i (a0 : Branch) (a1 : List Int) : Option (List Way) := (iter (x9e a0 a1) big (0, 0, [], [], ([] : List (Int × Int)))).bind fun o => (match o with
 | (v11, v12, v14) => some v11)
def xh := aI (aI (aI (aI (@EV) (aI (@R3) (@R9))) (aI (@R24) (aI (@R26) (@R34)))) (aI (aI (@R41) (aI (@R47) (@R68))) (aI (@R71) (aI (@R74) (@R79))))) (aI (aI (aI (@R94) (aI (@R101) (@R114))) (aI (@R122) (aI (@DBranch) (@DOrigin)))) (aI (aI (@DAttr) (aI (@DNode) (@DWay))) (aI (@DEntry) (aI (@xet) (@mixed)))))
set_option maxHeartbeats 2000000 in
theorem x9y (a0 : Branch) (a1 : List Int) (r : List Way) (hm0 : x1i a0 a1 = some r) : Ok Tryd.prog 53 [xk a0, .sl 1 (a1.map int)] (.sl 3 (r.map encWay)) := by
 unfold x1i at hm0
 refine okG xtz ?_
 unfold xns
 simp only [xh, ↓EVd, isCall, sevalprocAttr]
 refine xtc (acallF xtr (by simp) ?_) rfl
 unfold xwm
 obtain ⟨o0, ho0, hm0⟩ := bsE hm0
 simp only [xh, ↓EVd, isCall, sevalprocAttr]
 refine cwp_cx 0 (fun s => ∃ v11 : List Way, ∃ v12 : List (Int × Int), ∃ v14 : List Ar2_Int, ∃ l10 : Nat, ∃ l13 : Nat, (s.T 5 = .loc 14 4 0 0 ∧ s.H 0 = some (.row 26 1 [xk a0]) ∧ s.H 14 = some (.row 122 4 [.agg [.sl 13 (a0.nodes.map xe), .msl l10 v11.length, .mp 12, .msl l13 v14.length]]) ∧ s.H l10 = some (.row 71 3 (v11.map encWay)) ∧ s.H 12 = some (.map (v12.map (kI .i64)) (v12.map fun p => .val (.int .i64 p.2))) ∧ s.H l13 = some (.row 114 2 (v14.map xw)) ∧ Lq 0 s.nx ∧ Lq 14 s.nx ∧ Lq l10 s.nx ∧ Lq 12 s.nx ∧ Lq l13 s.nx ∧ Nq 0 l10 ∧ Nq 0 l13 ∧ Nq 14 l10 ∧ Nq 14 l13 ∧ Nq l10 12 ∧ Nq l10 l13 ∧ Nq 12 l13) ∧ (v11, v12, v14) = o0) ?_ fun J0_0 hJ0_0 => ?_
 · rintro T0 H0 x9 ⟨v11, v12, v14, l10, l13, kk0_0, rfl⟩
   dsimp only [Lq, Nq] at kk0_0
   try dsimp only at hm0
   obtain rfl := Option.some.inj hm0
   simp only [kk0_0, xh, ↓EVd, isCall, sevalprocAttr]
   all_goals first | done | rfl | exact frzR_e (by simp only [kk0_0, FZ, CLO, xh, ↓EVd, isCall, sevalprocAttr])
 refine cwp_lp ho0 (fun (v2, v3, v5, v7, v8) s => ∃ l4 : Nat, ∃ l6 : Nat, s.T 5 = .loc 14 4 0 0 ∧ s.T 6 = int v2 ∧ s.T 13 = .sl 1 (a1.map int) ∧ s.T 14 = int (a1.length : Int) ∧ s.T 15 = int v3 ∧ s.H 0 = some (.row 26 1 [xk a0]) ∧ s.H 12 = some (.map (v8.map (kI .i64)) (v8.map fun p => .val (.int .i64 p.2))) ∧ s.H 14 = some (.row 122 4 [.agg [.sl 13 (a0.nodes.map xe), .msl l4 v5.length, .mp 12, .msl l6 v7.length]]) ∧ s.H l4 = some (.row 71 3 (v5.map encWay)) ∧ s.H l6 = some (.row 114 2 (v7.map xw)) ∧ Lq 0 s.nx ∧ Lq 12 s.nx ∧ Lq 14 s.nx ∧ Lq l4 s.nx ∧ Lq l6 s.nx ∧ Nq 0 l4 ∧ Nq 0 l6 ∧ Nq 12 l4 ∧ Nq 12 l6 ∧ Nq 14 l4 ∧ Nq 14 l6 ∧ Nq l4 l6) ?_ ?_
 · refine TI.by (Tn.adoptC 14 1 122 4 71 3 [.sl 13 (a0.nodes.map xe), nilS, .mp 12, nilS] (by simp only [xh, ↓EVd, isCall, sevalprocAttr]) rfl) ?_
   refine TI.by (Tn.adoptC 14 3 122 4 114 2 [.sl 13 (a0.nodes.map xe), .msl 20 ([] : List Way).length, .mp 12, nilS] (by simp only [xh, ↓EVd, isCall, sevalprocAttr]) rfl) ?_
   refine TI.here ⟨20, 21, ?_, ?_, ?_, ?_, ?_, ?_, ?_, ?_, ?_, ?_, ?_, ?_, ?_, ?_, ?_, ?_, ?_, ?_, ?_, ?_, ?_, ?_⟩
   all_goals try simp only [xh, ↓EVd, isCall, sevalprocAttr]
   all_goals first | omega | exact lq (by omega) | exact nq (by omega) | rfl | (congr 1; omega)
 rintro I0 ⟨v2, v3, v5, v7, v8⟩ T0 H0 x1 st0 ⟨l4, l6, kk0⟩ hm1 hI0 hO0
 dsimp only [Lq, Nq] at kk0
 simp only [x9e] at hm1
 rcases iteE hm1 with ⟨e16, hm1⟩ | ⟨e16, hm1⟩
 · obtain ⟨v17, e19, hm1⟩ := ixE int hm1
   obtain ⟨⟨v22, v23⟩, hp2, hm1⟩ := bsE hm1
   try dsimp only at hm1
   obtain ⟨o2, ho2, hm1⟩ := bsE hm1
   simp only [kk0, e16, e19, xh, ↓EVd, isCall, sevalprocAttr]
   refine cwp_cn (fun s => ∃ v33 : List Way, ∃ v34 : List (Int × Int), ∃ v36 : List Ar2_Int, ∃ v37 : Int, ∃ l32 : Nat, ∃ l35 : Nat, (s.T 5 = .loc 14 4 0 0 ∧ s.T 6 = int v37 ∧ s.T 13 = .sl 1 (a1.map int) ∧ s.T 14 = int (a1.length : Int) ∧ s.T 15 = int v3 ∧ s.H 0 = some (.row 26 1 [xk a0]) ∧ s.H 14 = some (.row 122 4 [.agg [.sl 13 (a0.nodes.map xe), .msl l32 v33.length, .mp 12, .msl l35 v36.length]]) ∧ s.H l32 = some (.row 71 3 (v33.map encWay)) ∧ s.H 12 = some (.map (v34.map (kI .i64)) (v34.map fun p => .val (.int .i64 p.2))) ∧ s.H l35 = some (.row 114 2 (v36.map xw)) ∧ Lq 0 s.nx ∧ Lq 14 s.nx ∧ Lq l32 s.nx ∧ Lq 12 s.nx ∧ Lq l35 s.nx ∧ Nq 0 l32 ∧ Nq 0 l35 ∧ Nq 14 l32 ∧ Nq 14 l35 ∧ Nq l32 12 ∧ Nq l32 l35 ∧ Nq 12 l35) ∧ (v33, v34, v36, v37) = o2) ?_ fun J2_0 hJ2_0 => ?_
   · rintro T2 H2 x31 ⟨v33, v34, v36, v37, l32, l35, kk2_0, rfl⟩
     dsimp only [Lq, Nq] at kk2_0
     try dsimp only at hm1
     obtain rfl := Option.some.inj hm1
     simp only [kk2_0, kk0, e16, e19, xh, ↓EVd, isCall, sevalprocAttr]
     refine TI.here (hI0 _ rfl _ ⟨l32, l35, ?_, ?_, ?_, ?_, ?_, ?_, ?_, ?_, ?_, ?_, ?_, ?_, ?_, ?_, ?_, ?_, ?_, ?_, ?_, ?_, ?_, ?_⟩)
     all_goals try simp only [kk2_0, kk0, e16, e19, xh, ↓EVd, isCall, sevalprocAttr]
     all_goals first | omega | exact lq (by omega) | exact nq (by omega) | rfl | (congr 1; omega)
   refine cwp_sl 0 ho2 (fun (v25, v27, v29, v30) s => ∃ l26 : Nat, ∃ l28 : Nat, s.T 5 = .loc 14 4 0 0 ∧ s.T 6 = int v25 ∧ s.T 13 = .sl 1 (a1.map int) ∧ s.T 14 = int (a1.length : Int) ∧ s.T 15 = int v3 ∧ s.H 0 = some (.row 26 1 [xk a0]) ∧ s.H 14 = some (.row 122 4 [.agg [.sl 13 (a0.nodes.map xe), .msl l26 v27.length, .mp 12, .msl l28 v29.length]]) ∧ s.H 12 = some (.map (v30.map (kI .i64)) (v30.map fun p => .val (.int .i64 p.2))) ∧ s.H l26 = some (.row 71 3 (v27.map encWay)) ∧ s.H l28 = some (.row 114 2 (v29.map xw)) ∧ Lq 0 s.nx ∧ Lq 14 s.nx ∧ Lq 12 s.nx ∧ Lq l26 s.nx ∧ Lq l28 s.nx ∧ Nq 0 l26 ∧ Nq 0 l28 ∧ Nq 14 l26 ∧ Nq 14 l28 ∧ Nq 12 l26 ∧ Nq 12 l28 ∧ Nq l26 l28) rfl ?_ ?_
   · intro K2 hK2
     have hm2 := hp2
     unfold x6h at hm2
     simp only [kk0, e16, e19, xh, ↓EVd, isCall, sevalprocAttr]
     refine xtc (acallF xxc (by simp) ?_) rfl
     unfold xrc
     rcases iteE hm2 with ⟨e98, hm2⟩ | ⟨e98, hm2⟩
     · have e99 : ((0 : Int) = 1) = False := by decide
       simp only [Option.some.injEq, Prod.mk.injEq] at hm2
       obtain ⟨rfl, rfl⟩ := hm2
       simp only [kk0, e16, e19, e98, e99, xh, ↓EVd, isCall, sevalprocAttr]
       apply hK2
       refine TI.here ⟨l4, l6, ?_, ?_, ?_, ?_, ?_, ?_, ?_, ?_, ?_, ?_, ?_, ?_, ?_, ?_, ?_, ?_, ?_, ?_, ?_, ?_, ?_, ?_⟩
       all_goals try simp only [kk0, e16, e19, e98, e99, xh, ↓EVd, isCall, sevalprocAttr]
       all_goals first | omega | exact lq (by omega) | exact nq (by omega) | rfl | (congr 1; omega)
     rcases iteE hm2 with ⟨e101, hm2⟩ | ⟨e101, hm2⟩
     · have e102 : ((0 : Int) = 1) = False := by decide
       simp only [Option.some.injEq, Prod.mk.injEq] at hm2
       obtain ⟨rfl, rfl⟩ := hm2
       simp only [kk0, e16, e19, e98, e101, e102, xh, ↓EVd, isCall, sevalprocAttr]
       apply hK2
       refine TI.here ⟨l4, l6, ?_, ?_, ?_, ?_, ?_, ?_, ?_, ?_, ?_, ?_, ?_, ?_, ?_, ?_, ?_, ?_, ?_, ?_, ?_, ?_, ?_, ?_⟩
       all_goals try simp only [kk0, e16, e19, e98, e101, e102, xh, ↓EVd, isCall, sevalprocAttr]
       all_goals first | omega | exact lq (by omega) | exact nq (by omega) | rfl | (congr 1; omega)
     obtain ⟨v103, e105, hm2⟩ := ixE xe hm2
     rcases iteE hm2 with ⟨e107, hm2⟩ | ⟨e107, hm2⟩
     · have e108 : (.agg [int v17, int (-1), str xl] : AV) = encWay (⟨v17, (-1), xl⟩ : Way) := _root_.id rfl
       simp only [kk0, e16, e19, e98, e101, e105, e107, e108, xh, ↓EVd, isCall, sevalprocAttr]
       refine xtc (acallF xxf (by simp) ?_) rfl
       unfold xwe
       rcases iteE hm2 with ⟨e110, hm2⟩ | ⟨e110, hm2⟩
       · simp only [Option.some.injEq, Prod.mk.injEq] at hm2
         obtain ⟨rfl, rfl⟩ := hm2
         simp only [kk0, e16, e19, e98, e101, e105, e107, e108, e110, xh, ↓EVd, isCall, sevalprocAttr]
         apply hK2
         refine TI.here ⟨l4, l6, ?_, ?_, ?_, ?_, ?_, ?_, ?_, ?_, ?_, ?_, ?_, ?_, ?_, ?_, ?_, ?_, ?_, ?_, ?_, ?_, ?_, ?_⟩
         all_goals try simp only [kk0, e16, e19, e98, e101, e105, e107, e108, e110, xh, ↓EVd, isCall, sevalprocAttr]
         all_goals first | omega | exact lq (by omega) | exact nq (by omega) | rfl | (congr 1; omega)
       obtain ⟨e113, hm2⟩ := apE hm2
       try simp only [ZL] at e113
       simp only [Option.some.injEq, Prod.mk.injEq] at hm2
       obtain ⟨rfl, rfl⟩ := hm2
       simp only [kk0, e16, e19, e98, e101, e105, e107, e108, e110, e113, xh, ↓EVd, isCall, sevalprocAttr]
       apply hK2
       refine TI.here ⟨(x1 + 62), l6, ?_, ?_, ?_, ?_, ?_, ?_, ?_, ?_, ?_, ?_, ?_, ?_, ?_, ?_, ?_, ?_, ?_, ?_, ?_, ?_, ?_, ?_⟩
       all_goals try simp only [kk0, e16, e19, e98, e101, e105, e107, e108, e110, e113, xh, ↓EVd, isCall, sevalprocAttr]
       all_goals first | omega | exact lq (by omega) | exact nq (by omega) | rfl | (congr 1; omega)
     simp only [Option.some.injEq, Prod.mk.injEq] at hm2
     obtain ⟨rfl, rfl⟩ := hm2
     simp only [kk0, e16, e19, e98, e101, e105, e107, xh, ↓EVd, isCall, sevalprocAttr]
     apply hK2
     refine TI.here ⟨l4, l6, ?_, ?_, ?_, ?_, ?_, ?_, ?_, ?_, ?_, ?_, ?_, ?_, ?_, ?_, ?_, ?_, ?_, ?_, ?_, ?_, ?_, ?_⟩
     all_goals try simp only [kk0, e16, e19, e98, e101, e105, e107, xh, ↓EVd, isCall, sevalprocAttr]
     all_goals first | omega | exact lq (by omega) | exact nq (by omega) | rfl | (congr 1; omega)
   rintro I2 ⟨v25, v27, v29, v30⟩ T2 H2 x24 st2 ⟨l26, l28, kk2⟩ hm2 hI2 hO2
   dsimp only [Lq, Nq] at kk2
   simp only [x7e] at hm2
   rcases iteE hm2 with ⟨e39, hm2⟩ | ⟨e39, hm2⟩
   · simp only [kk2, kk0, e16, e19, e39, xh, ↓EVd, isCall, sevalprocAttr]
     refine xtc (acallF xbk (by simp) ?_) rfl
     unfold xkh
     obtain ⟨v40, e42, hm2⟩ := ixE encWay hm2
     simp only [kk2, kk0, e16, e19, e39, e42, xh, ↓EVd, isCall, sevalprocAttr]
     refine xtc (acallF xxc (by simp) ?_) rfl
     unfold xrc
     rcases iteE hm2 with ⟨e44, hm2⟩ | ⟨e44, hm2⟩
     · obtain ⟨o3, ho3, hm2⟩ := bsE hm2
       simp only [kk2, kk0, e16, e19, e39, e42, e44, xh, ↓EVd, isCall, sevalprocAttr]
       refine cwp_cx 0 (fun s => (s.H 0 = some (.row 26 1 [xk a0]) ∧ s.H 14 = some (.row 122 4 [.agg [.sl 13 (a0.nodes.map xe), .msl l26 v27.length, .mp 12, .msl l28 v29.length]]) ∧ s.H l26 = some (.row 71 3 (v27.map encWay)) ∧ s.H 12 = some (.map (v30.map (kI .i64)) (v30.map fun p => .val (.int .i64 p.2))) ∧ s.H l28 = some (.row 114 2 (v29.map xw)) ∧ Lq 0 s.nx ∧ Lq 14 s.nx ∧ Lq l26 s.nx ∧ Lq 12 s.nx ∧ Lq l28 s.nx ∧ Nq 0 l26 ∧ Nq 0 l28 ∧ Nq 14 l26 ∧ Nq 14 l28 ∧ Nq l26 12 ∧ Nq l26 l28 ∧ Nq 12 l28) ∧ () = o3) ?_ fun J3_0 hJ3_0 => ?_
       · rintro T3 H3 x46 ⟨kk3_0, rfl⟩
         dsimp only [Lq, Nq] at kk3_0
         try dsimp only at hm2
         obtain rfl := Option.some.inj hm2
         simp only [kk3_0, kk2, kk0, e16, e19, e39, e42, e44, xh, ↓EVd, isCall, sevalprocAttr]
         refine TI.here (hI2 _ rfl _ ⟨l26, l28, ?_, ?_, ?_, ?_, ?_, ?_, ?_, ?_, ?_, ?_, ?_, ?_, ?_, ?_, ?_, ?_, ?_, ?_, ?_, ?_, ?_, ?_⟩)
         all_goals try simp only [kk3_0, kk2, kk0, e16, e19, e39, e42, e44, xh, ↓EVd, isCall, sevalprocAttr]
         all_goals first | omega | exact lq (by omega) | exact nq (by omega) | rfl | (congr 1; omega)
       refine cwp_lp ho3 (fun (_ : Unit) s => s.T 0 = .loc 14 4 0 0 ∧ s.T 1 = int v25 ∧ s.T 4 = int v40.ino ∧ s.T 18 = nilS ∧ s.T 19 = int 0 ∧ s.T 20 = int 0 ∧ s.H 0 = some (.row 26 1 [xk a0]) ∧ s.H 14 = some (.row 122 4 [.agg [.sl 13 (a0.nodes.map xe), .msl l26 v27.length, .mp 12, .msl l28 v29.length]]) ∧ s.H 12 = some (.map (v30.map (kI .i64)) (v30.map fun p => .val (.int .i64 p.2))) ∧ s.H l26 = some (.row 71 3 (v27.map encWay)) ∧ s.H l28 = some (.row 114 2 (v29.map xw)) ∧ Lq 0 s.nx ∧ Lq 14 s.nx ∧ Lq 12 s.nx ∧ Lq l26 s.nx ∧ Lq l28 s.nx ∧ Nq 0 l26 ∧ Nq 0 l28 ∧ Nq 14 l26 ∧ Nq 14 l28 ∧ Nq 12 l26 ∧ Nq 12 l28 ∧ Nq l26 l28) ?_ ?_
       · refine TI.here ⟨?_, ?_, ?_, ?_, ?_, ?_, ?_, ?_, ?_, ?_, ?_, ?_, ?_, ?_, ?_, ?_, ?_, ?_, ?_, ?_, ?_, ?_, ?_⟩
         all_goals try simp only [kk2, kk0, e16, e19, e39, e42, e44, xh, ↓EVd, isCall, sevalprocAttr]
         all_goals first | omega | exact lq (by omega) | exact nq (by omega) | rfl | (congr 1; omega)
       rintro I3 _ T3 H3 x45 st3 kk3 hm3 hI3 hO3
       dsimp only [Lq, Nq] at kk3
       simp only [xdn] at hm3
       have e47 : ((0 : Int) < 0) = False := by decide
       obtain rfl := Option.some.inj hm3
       simp only [kk3, kk2, kk0, e16, e19, e39, e42, e44, e47, xh, ↓EVd, isCall, sevalprocAttr]
       refine TI.here (hJ3_0 _ ⟨⟨?_, ?_, ?_, ?_, ?_, ?_, ?_, ?_, ?_, ?_, ?_, ?_, ?_, ?_, ?_, ?_, ?_⟩, hO3 _ rfl⟩)
       all_goals try simp only [kk3, kk2, kk0, e16, e19, e39, e42, e44, e47, xh, ↓EVd, isCall, sevalprocAttr]
       all_goals first | omega | exact lq (by omega) | exact nq (by omega) | rfl | (congr 1; omega)
     rcases iteE hm2 with ⟨e49, hm2⟩ | ⟨e49, hm2⟩
     · obtain ⟨o4, ho4, hm2⟩ := bsE hm2
       simp only [kk2, kk0, e16, e19, e39, e42, e44, e49, xh, ↓EVd, isCall, sevalprocAttr]
       refine cwp_cx 0 (fun s => (s.H 0 = some (.row 26 1 [xk a0]) ∧ s.H 14 = some (.row 122 4 [.agg [.sl 13 (a0.nodes.map xe), .msl l26 v27.length, .mp 12, .msl l28 v29.length]]) ∧ s.H l26 = some (.row 71 3 (v27.map encWay)) ∧ s.H 12 = some (.map (v30.map (kI .i64)) (v30.map fun p => .val (.int .i64 p.2))) ∧ s.H l28 = some (.row 114 2 (v29.map xw)) ∧ Lq 0 s.nx ∧ Lq 14 s.nx ∧ Lq l26 s.nx ∧ Lq 12 s.nx ∧ Lq l28 s.nx ∧ Nq 0 l26 ∧ Nq 0 l28 ∧ Nq 14 l26 ∧ Nq 14 l28 ∧ Nq l26 12 ∧ Nq l26 l28 ∧ Nq 12 l28) ∧ () = o4) ?_ fun J4_0 hJ4_0 => ?_
       · rintro T4 H4 x51 ⟨kk4_0, rfl⟩
         dsimp only [Lq, Nq] at kk4_0
         try dsimp only at hm2
         obtain rfl := Option.some.inj hm2
         simp only [kk4_0, kk2, kk0, e16, e19, e39, e42, e44, e49, xh, ↓EVd, isCall, sevalprocAttr]
         refine TI.here (hI2 _ rfl _ ⟨l26, l28, ?_, ?_, ?_, ?_, ?_, ?_, ?_, ?_, ?_, ?_, ?_, ?_, ?_, ?_, ?_, ?_, ?_, ?_, ?_, ?_, ?_, ?_⟩)
         all_goals try simp only [kk4_0, kk2, kk0, e16, e19, e39, e42, e44, e49, xh, ↓EVd, isCall, sevalprocAttr]
         all_goals first | omega | exact lq (by omega) | exact nq (by omega) | rfl | (congr 1; omega)
       refine cwp_lp ho4 (fun (_ : Unit) s => s.T 0 = .loc 14 4 0 0 ∧ s.T 1 = int v25 ∧ s.T 4 = int v40.ino ∧ s.T 18 = nilS ∧ s.T 19 = int 0 ∧ s.T 20 = int 0 ∧ s.H 0 = some (.row 26 1 [xk a0]) ∧ s.H 14 = some (.row 122 4 [.agg [.sl 13 (a0.nodes.map xe), .msl l26 v27.length, .mp 12, .msl l28 v29.length]]) ∧ s.H 12 = some (.map (v30.map (kI .i64)) (v30.map fun p => .val (.int .i64 p.2))) ∧ s.H l26 = some (.row 71 3 (v27.map encWay)) ∧ s.H l28 = some (.row 114 2 (v29.map xw)) ∧ Lq 0 s.nx ∧ Lq 14 s.nx ∧ Lq 12 s.nx ∧ Lq l26 s.nx ∧ Lq l28 s.nx ∧ Nq 0 l26 ∧ Nq 0 l28 ∧ Nq 14 l26 ∧ Nq 14 l28 ∧ Nq 12 l26 ∧ Nq 12 l28 ∧ Nq l26 l28) ?_ ?_
       · refine TI.here ⟨?_, ?_, ?_, ?_, ?_, ?_, ?_, ?_, ?_, ?_, ?_, ?_, ?_, ?_, ?_, ?_, ?_, ?_, ?_, ?_, ?_, ?_, ?_⟩
         all_goals try simp only [kk2, kk0, e16, e19, e39, e42, e44, e49, xh, ↓EVd, isCall, sevalprocAttr]
         all_goals first | omega | exact lq (by omega) | exact nq (by omega) | rfl | (congr 1; omega)
       rintro I4 _ T4 H4 x50 st4 kk4 hm3 hI4 hO4
       dsimp only [Lq, Nq] at kk4
       simp only [x5m] at hm3
       have e52 : ((0 : Int) < 0) = False := by decide
       obtain rfl := Option.some.inj hm3
       simp only [kk4, kk2, kk0, e16, e19, e39, e42, e44, e49, e52, xh, ↓EVd, isCall, sevalprocAttr]
       refine TI.here (hJ4_0 _ ⟨⟨?_, ?_, ?_, ?_, ?_, ?_, ?_, ?_, ?_, ?_, ?_, ?_, ?_, ?_, ?_, ?_, ?_⟩, hO4 _ rfl⟩)
       all_goals try simp only [kk4, kk2, kk0, e16, e19, e39, e42, e44, e49, e52, xh, ↓EVd, isCall, sevalprocAttr]
       all_goals first | omega | exact lq (by omega) | exact nq (by omega) | rfl | (congr 1; omega)
     obtain ⟨v53, e55, hm2⟩ := ixE xe hm2
     obtain ⟨o5, ho5, hm2⟩ := bsE hm2
     simp only [kk2, kk0, e16, e19, e39, e42, e44, e49, e55, xh, ↓EVd, isCall, sevalprocAttr]
     refine cwp_cx 0 (fun s => ∃ v65 : List Way, ∃ v66 : List (Int × Int), ∃ v68 : List Ar2_Int, ∃ l64 : Nat, ∃ l67 : Nat, (s.H 0 = some (.row 26 1 [xk a0]) ∧ s.H 14 = some (.row 122 4 [.agg [.sl 13 (a0.nodes.map xe), .msl l64 v65.length, .mp 12, .msl l67 v68.length]]) ∧ s.H l64 = some (.row 71 3 (v65.map encWay)) ∧ s.H 12 = some (.map (v66.map (kI .i64)) (v66.map fun p => .val (.int .i64 p.2))) ∧ s.H l67 = some (.row 114 2 (v68.map xw)) ∧ Lq 0 s.nx ∧ Lq 14 s.nx ∧ Lq l64 s.nx ∧ Lq 12 s.nx ∧ Lq l67 s.nx ∧ Nq 0 l64 ∧ Nq 0 l67 ∧ Nq 14 l64 ∧ Nq 14 l67 ∧ Nq l64 12 ∧ Nq l64 l67 ∧ Nq 12 l67) ∧ (v65, v66, v68) = o5) ?_ fun J5_0 hJ5_0 => ?_
     · rintro T5 H5 x63 ⟨v65, v66, v68, l64, l67, kk5_0, rfl⟩
       dsimp only [Lq, Nq] at kk5_0
       try dsimp only at hm2
       obtain rfl := Option.some.inj hm2
       simp only [kk5_0, kk2, kk0, e16, e19, e39, e42, e44, e49, e55, xh, ↓EVd, isCall, sevalprocAttr]
       refine TI.here (hI2 _ rfl _ ⟨l64, l67, ?_, ?_, ?_, ?_, ?_, ?_, ?_, ?_, ?_, ?_, ?_, ?_, ?_, ?_, ?_, ?_, ?_, ?_, ?_, ?_, ?_, ?_⟩)
       all_goals try simp only [kk5_0, kk2, kk0, e16, e19, e39, e42, e44, e49, e55, xh, ↓EVd, isCall, sevalprocAttr]
       all_goals first | omega | exact lq (by omega) | exact nq (by omega) | rfl | (congr 1; omega)
     refine cwp_lp ho5 (fun (v57, v59, v61, v62) s => ∃ l58 : Nat, ∃ l60 : Nat, s.T 0 = .loc 14 4 0 0 ∧ s.T 1 = int v25 ∧ s.T 4 = int v40.ino ∧ s.T 18 = .sl 3 (v53.entries.map xp) ∧ s.T 19 = int (v53.entries.length : Int) ∧ s.T 20 = int v57 ∧ s.H 0 = some (.row 26 1 [xk a0]) ∧ s.H 14 = some (.row 122 4 [.agg [.sl 13 (a0.nodes.map xe), .msl l58 v59.length, .mp 12, .msl l60 v61.length]]) ∧ s.H 12 = some (.map (v62.map (kI .i64)) (v62.map fun p => .val (.int .i64 p.2))) ∧ s.H l58 = some (.row 71 3 (v59.map encWay)) ∧ s.H l60 = some (.row 114 2 (v61.map xw)) ∧ Lq 0 s.nx ∧ Lq 14 s.nx ∧ Lq 12 s.nx ∧ Lq l58 s.nx ∧ Lq l60 s.nx ∧ Nq 0 l58 ∧ Nq 0 l60 ∧ Nq 14 l58 ∧ Nq 14 l60 ∧ Nq 12 l58 ∧ Nq 12 l60 ∧ Nq l58 l60) ?_ ?_
     · refine TI.here ⟨l26, l28, ?_, ?_, ?_, ?_, ?_, ?_, ?_, ?_, ?_, ?_, ?_, ?_, ?_, ?_, ?_, ?_, ?_, ?_, ?_, ?_, ?_, ?_, ?_⟩
       all_goals try simp only [kk2, kk0, e16, e19, e39, e42, e44, e49, e55, xh, ↓EVd, isCall, sevalprocAttr]
       all_goals first | omega | exact lq (by omega) | exact nq (by omega) | rfl | (congr 1; omega)
     rintro I5 ⟨v57, v59, v61, v62⟩ T5 H5 x56 st5 ⟨l58, l60, kk5⟩ hm3 hI5 hO5
     dsimp only [Lq, Nq] at kk5
     simp only [x6e] at hm3
     rcases iteE hm3 with ⟨e70, hm3⟩ | ⟨e70, hm3⟩
     · obtain ⟨v71, e73, hm3⟩ := ixE xp hm3
       simp only [kk5, kk2, kk0, e16, e19, e39, e42, e44, e49, e55, e70, e73, xh, ↓EVd, isCall, sevalprocAttr]
       refine xtc (acallF xxc (by simp) ?_) rfl
       unfold xrc
       have g115 := And.intro (And.intro (And.intro ((e16)) ((e19))) (And.intro ((e39)) ((e42)))) (And.intro (And.intro ((e44)) ((e49))) (And.intro ((e55)) (And.intro ((e70)) ((e73)))))
       rcases iteE hm3 with ⟨e75, hm3⟩ | ⟨e75, hm3⟩
       · have e76 : ((0 : Int) = 1) = False := by decide
         obtain rfl := Option.some.inj hm3
         simp only [kk5, kk2, kk0, g115, e75, e76, xh, ↓EVd, isCall, sevalprocAttr]
         refine TI.here (hI5 _ rfl _ ⟨l58, l60, ?_, ?_, ?_, ?_, ?_, ?_, ?_, ?_, ?_, ?_, ?_, ?_, ?_, ?_, ?_, ?_, ?_, ?_, ?_, ?_, ?_, ?_, ?_⟩)
         all_goals try simp only [kk5, kk2, kk0, g115, e75, e76, xh, ↓EVd, isCall, sevalprocAttr]
         all_goals first | omega | exact lq (by omega) | exact nq (by omega) | rfl | (congr 1; omega)
       rcases iteE hm3 with ⟨e78, hm3⟩ | ⟨e78, hm3⟩
       · have e79 : ((0 : Int) = 1) = False := by decide
         obtain rfl := Option.some.inj hm3
         simp only [kk5, kk2, kk0, g115, e75, e78, e79, xh, ↓EVd, isCall, sevalprocAttr]
         refine TI.here (hI5 _ rfl _ ⟨l58, l60, ?_, ?_, ?_, ?_, ?_, ?_, ?_, ?_, ?_, ?_, ?_, ?_, ?_, ?_, ?_, ?_, ?_, ?_, ?_, ?_, ?_, ?_, ?_⟩)
         all_goals try simp only [kk5, kk2, kk0, g115, e75, e78, e79, xh, ↓EVd, isCall, sevalprocAttr]
         all_goals first | omega | exact lq (by omega) | exact nq (by omega) | rfl | (congr 1; omega)
       obtain ⟨v80, e82, hm3⟩ := ixE xe hm3
       rcases iteE hm3 with ⟨e84, hm3⟩ | ⟨e84, hm3⟩
       · have e85 : (.agg [int v71.ino, int v25, str v71.name] : AV) = encWay (⟨v71.ino, v25, v71.name⟩ : Way) := _root_.id rfl
         simp only [kk5, kk2, kk0, g115, e75, e78, e82, e84, e85, xh, ↓EVd, isCall, sevalprocAttr]
         refine xtc (acallF xxf (by simp) ?_) rfl
         unfold xwe
         rcases iteE hm3 with ⟨e87, hm3⟩ | ⟨e87, hm3⟩
         · have e88 : (.agg [int v40.ino, int v71.slot] : AV) = xw (⟨v40.ino, v71.slot⟩ : Ar2_Int) := _root_.id rfl
           obtain ⟨e91, hm3⟩ := apE hm3
           try simp only [ZL] at e91
           obtain rfl := Option.some.inj hm3
           simp only [kk5, kk2, kk0, g115, e75, e78, e82, e84, e85, e87, e88, e91, xh, ↓EVd, isCall, sevalprocAttr]
           refine TI.here (hI5 _ rfl _ ⟨l58, (x56 + 66), ?_, ?_, ?_, ?_, ?_, ?_, ?_, ?_, ?_, ?_, ?_, ?_, ?_, ?_, ?_, ?_, ?_, ?_, ?_, ?_, ?_, ?_, ?_⟩)
           all_goals try simp only [kk5, kk2, kk0, g115, e75, e78, e82, e84, e85, e87, e88, e91, xh, ↓EVd, isCall, sevalprocAttr]
           all_goals first | omega | exact lq (by omega) | exact nq (by omega) | rfl | (congr 1; omega)
         obtain ⟨e95, hm3⟩ := apE hm3
         try simp only [ZL] at e95
         obtain rfl := Option.some.inj hm3
         simp only [kk5, kk2, kk0, g115, e75, e78, e82, e84, e85, e87, e95, xh, ↓EVd, isCall, sevalprocAttr]
         refine TI.here (hI5 _ rfl _ ⟨(x56 + 71), l60, ?_, ?_, ?_, ?_, ?_, ?_, ?_, ?_, ?_, ?_, ?_, ?_, ?_, ?_, ?_, ?_, ?_, ?_, ?_, ?_, ?_, ?_, ?_⟩)
         all_goals try simp only [kk5, kk2, kk0, g115, e75, e78, e82, e84, e85, e87, e95, xh, ↓EVd, isCall, sevalprocAttr]
         all_goals first | omega | exact lq (by omega) | exact nq (by omega) | rfl | (congr 1; omega)
       obtain rfl := Option.some.inj hm3
       simp only [kk5, kk2, kk0, g115, e75, e78, e82, e84, xh, ↓EVd, isCall, sevalprocAttr]
       refine TI.here (hI5 _ rfl _ ⟨l58, l60, ?_, ?_, ?_, ?_, ?_, ?_, ?_, ?_, ?_, ?_, ?_, ?_, ?_, ?_, ?_, ?_, ?_, ?_, ?_, ?_, ?_, ?_, ?_⟩)
       all_goals try simp only [kk5, kk2, kk0, g115, e75, e78, e82, e84, xh, ↓EVd, isCall, sevalprocAttr]
       all_goals first | omega | exact lq (by omega) | exact nq (by omega) | rfl | (congr 1; omega)
     obtain rfl := Option.some.inj hm3
     simp only [kk5, kk2, kk0, e16, e19, e39, e42, e44, e49, e55, e70, xh, ↓EVd, isCall, sevalprocAttr]
     refine TI.here (hJ5_0 _ ⟨v59, v62, v61, l58, l60, ⟨?_, ?_, ?_, ?_, ?_, ?_, ?_, ?_, ?_, ?_, ?_, ?_, ?_, ?_, ?_, ?_, ?_⟩, hO5 _ rfl⟩)
     all_goals try simp only [kk5, kk2, kk0, e16, e19, e39, e42, e44, e49, e55, e70, xh, ↓EVd, isCall, sevalprocAttr]
     all_goals first | omega | exact lq (by omega) | exact nq (by omega) | rfl | (congr 1; omega)
   obtain rfl := Option.some.inj hm2
   simp only [kk2, kk0, e16, e19, e39, xh, ↓EVd, isCall, sevalprocAttr]
   refine TI.here (hJ2_0 _ ⟨v27, v30, v29, v25, l26, l28, ⟨?_, ?_, ?_, ?_, ?_, ?_, ?_, ?_, ?_, ?_, ?_, ?_, ?_, ?_, ?_, ?_, ?_, ?_, ?_, ?_, ?_, ?_⟩, hO2 _ rfl⟩)
   all_goals try simp only [kk2, kk0, e16, e19, e39, xh, ↓EVd, isCall, sevalprocAttr]
   all_goals first | omega | exact lq (by omega) | exact nq (by omega) | rfl | (congr 1; omega)
 obtain rfl := Option.some.inj hm1
 simp only [kk0, e16, xh, ↓EVd, isCall, sevalprocAttr]
 refine TI.here (hJ0_0 _ ⟨v5, v8, v7, l4, l6, ⟨?_, ?_, ?_, ?_, ?_, ?_, ?_, ?_, ?_, ?_, ?_, ?_, ?_, ?_, ?_, ?_, ?_, ?_⟩, hO0 _ rfl⟩)
 all_goals try simp only [kk0, e16, xh, ↓EVd, isCall, sevalprocAttr]
 all_goals first | omega | exact lq (by omega) | exact nq (by omega) | rfl | (congr 1; omega)
def x5h (a0 : List Way) : (Int × List ByteArray) → Option (St (Int × List ByteArray) (List ByteArray))
 | (v2, v4) => if 0 ≤ v2 then if v2 < (a0.length : Int) then (ix a0 v2).bind fun v12 => if v12.up < 0 then some (.out v4)
 else if v2 ≤ v12.up then some (.out v4)
 else (ap 16 v4 ([v12.name] : List ByteArray)).bind fun _ => some (.nx (v12.up, (v4 ++ ([v12.name] : List ByteArray))))
 else some (.out v4)
 else some (.out v4)
def x3i (a0 : List Way) (a1 : Int) : Option (List ByteArray) := (iter (x5h a0) big (a1, [])).bind fun o => (match o with
 | v7 => (revM v7).bind fun v23 => some v23)
def xtb := aI (aI (aI (@EV) (@R3)) (aI (@R9) (@R61))) (aI (aI (@R68) (@R71)) (aI (@DWay) (@mixed)))
set_option maxHeartbeats 2000000 in
theorem x2y (a0 : List Way) (a1 : Int) (r : List ByteArray) (hm0 : x3i a0 a1 = some r) : Ok Tryd.prog 57 [.sl 3 (a0.map encWay), int a1] (.sl 1 (r.map str)) := by
 unfold x3i at hm0
 refine okG xqz ?_
 unfold x2s
 obtain ⟨o0, ho0, hm0⟩ := bsE hm0
 simp only [xtb, ↓EVd, isCall, sevalprocAttr]
 refine cwp_cx 0 (fun s => ∃ v7 : List ByteArray, ∃ l6 : Nat, (s.T 5 = .msl l6 v7.length ∧ s.H l6 = some (.row 9 1 (v7.map str)) ∧ Lq l6 s.nx) ∧ v7 = o0) ?_ fun J0_0 hJ0_0 => ?_
 · rintro T0 H0 x5 ⟨v7, l6, kk0_0, rfl⟩
   dsimp only [Lq, Nq] at kk0_0
   try dsimp only at hm0
   obtain ⟨v23, h24, hm0⟩ := bsE hm0
   have e25 := xr8 h24
   simp only [kk0_0, e25, xtb, ↓EVd, isCall, sevalprocAttr]
   refine qci (rev_ok xmj xnf aggN_9 mixed str _ _ h24 (fun z => by simp only [CLO]) (fun z => by simp only [xtb, ↓EVd, isCall, sevalprocAttr]) (fun z w => by simp only [xtb, ↓EVd, isCall, sevalprocAttr]) (fun z => by simp only [xtb, ↓EVd, isCall, sevalprocAttr]) _) rfl (by simp only [kk0_0, e25, FZ, CLO, xtb, ↓EVd, isCall, sevalprocAttr]) (by simp only [kk0_0, e25, FZ, CLO, xtb, ↓EVd, isCall, sevalprocAttr]) (fun _ _ => by simp only [inK, inKs]) ?_
   obtain rfl := Option.some.inj hm0
   simp only [kk0_0, e25, xtb, ↓EVd, isCall, sevalprocAttr]
   all_goals first | done | rfl | exact frzR_e (by simp only [kk0_0, e25, FZ, CLO, xtb, ↓EVd, isCall, sevalprocAttr])
 refine cwp_lp ho0 (fun (v2, v4) s => ∃ l3 : Nat, s.T 0 = .sl 3 (a0.map encWay) ∧ s.T 1 = int v2 ∧ s.T 5 = .msl l3 v4.length ∧ s.H l3 = some (.row 9 1 (v4.map str)) ∧ Lq l3 s.nx) ?_ ?_
 · refine TI.by (Tn.adopt 5 9 1 (by simp only [xtb, ↓EVd, isCall, sevalprocAttr])) ?_
   refine TI.here ⟨2, ?_, ?_, ?_, ?_, ?_⟩
   all_goals try simp only [xtb, ↓EVd, isCall, sevalprocAttr]
   all_goals first | omega | exact lq (by omega) | exact nq (by omega) | rfl | (congr 1; omega)
 rintro I0 ⟨v2, v4⟩ T0 H0 x1 st0 ⟨l3, kk0⟩ hm1 hI0 hO0
 dsimp only [Lq, Nq] at kk0
 simp only [x5h] at hm1
 rcases iteE hm1 with ⟨e9, hm1⟩ | ⟨e9, hm1⟩
 · rcases iteE hm1 with ⟨e11, hm1⟩ | ⟨e11, hm1⟩
   · obtain ⟨v12, e14, hm1⟩ := ixE encWay hm1
     rcases iteE hm1 with ⟨e16, hm1⟩ | ⟨e16, hm1⟩
     · obtain rfl := Option.some.inj hm1
       simp only [kk0, e9, e11, e14, e16, xtb, ↓EVd, isCall, sevalprocAttr]
       refine TI.here (hJ0_0 _ ⟨v4, l3, ⟨?_, ?_, ?_⟩, hO0 _ rfl⟩)
       all_goals try simp only [kk0, e9, e11, e14, e16, xtb, ↓EVd, isCall, sevalprocAttr]
       all_goals first | omega | exact lq (by omega) | exact nq (by omega) | rfl | (congr 1; omega)
     rcases iteE hm1 with ⟨e18, hm1⟩ | ⟨e18, hm1⟩
     · obtain rfl := Option.some.inj hm1
       simp only [kk0, e9, e11, e14, e16, e18, xtb, ↓EVd, isCall, sevalprocAttr]
       refine TI.here (hJ0_0 _ ⟨v4, l3, ⟨?_, ?_, ?_⟩, hO0 _ rfl⟩)
       all_goals try simp only [kk0, e9, e11, e14, e16, e18, xtb, ↓EVd, isCall, sevalprocAttr]
       all_goals first | omega | exact lq (by omega) | exact nq (by omega) | rfl | (congr 1; omega)
     obtain ⟨e21, hm1⟩ := apE hm1
     try simp only [ZL] at e21
     obtain rfl := Option.some.inj hm1
     simp only [kk0, e9, e11, e14, e16, e18, e21, xtb, ↓EVd, isCall, sevalprocAttr]
     refine TI.here (hI0 _ rfl _ ⟨(x1 + 27), ?_, ?_, ?_, ?_, ?_⟩)
     all_goals try simp only [kk0, e9, e11, e14, e16, e18, e21, xtb, ↓EVd, isCall, sevalprocAttr]
     all_goals first | omega | exact lq (by omega) | exact nq (by omega) | rfl | (congr 1; omega)
   obtain rfl := Option.some.inj hm1
   simp only [kk0, e9, e11, xtb, ↓EVd, isCall, sevalprocAttr]
   refine TI.here (hJ0_0 _ ⟨v4, l3, ⟨?_, ?_, ?_⟩, hO0 _ rfl⟩)
   all_goals try simp only [kk0, e9, e11, xtb, ↓EVd, isCall, sevalprocAttr]
   all_goals first | omega | exact lq (by omega) | exact nq (by omega) | rfl | (congr 1; omega)
 obtain rfl := Option.some.inj hm1
 simp only [kk0, e9, xtb, ↓EVd, isCall, sevalprocAttr]
 refine TI.here (hJ0_0 _ ⟨v4, l3, ⟨?_, ?_, ?_⟩, hO0 _ rfl⟩)
 all_goals try simp only [kk0, e9, xtb, ↓EVd, isCall, sevalprocAttr]
 all_goals first | omega | exact lq (by omega) | exact nq (by omega) | rfl | (congr 1; omega)
end Go.Proofs.YtmacnoajlofdbaaDoor.AL

