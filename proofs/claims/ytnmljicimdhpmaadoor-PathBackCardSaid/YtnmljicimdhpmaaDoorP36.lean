/- A law of the given program is proved: part 36 of 36. -/
import Derived.Test.YtnmljicimdhpmaaDoorRows
import Derived.Test.YtnmljicimdhpmaaDoorTie
import Derived.Test.YtnmljicimdhpmaaDoorCards
import Derived.PinnedBridge
import Derived.Lay
import Derived.SevenTiedAt
import Derived.Deep.DeepHandedRow
import Derived.Lib.Join
import Derived.Test.YtnmljicimdhpmaaDoorP35
set_option linter.all false
/- From the contract of the law to the given statement, a tied card: the frame, printed by lawgend.py. -/
set_option linter.all false
namespace Go.Proofs.YtnmljicimdhpmaaDoor
open AL Go Go.RowKit Go.ChangeShapes Go.WideShapes Go.ChangeAt
theorem own_pathBack : ownKnob Tryd.prog.godebug = none := by kernel_rfl
theorem laidOut_pathBack : laidOutB Tryd.prog = true := by kernel_rfl
set_option maxRecDepth 100000 in
theorem lifted_pathBack (h : ∀ y0 : ByteArray, (fun s : ByteArray => s.size ≤ maxLen) y0 → Ok Tryd.prog 5 [str y0] (bool true)) (os : Os) (started : os.Started) (H : Type) (enc : TypeId × Value → H) :
    ReturnsInHanded {} Tryd.checked os 5 .any (fun w args => (Rows.pathBackSpec.pre enc Tryd.prog Tryd.f5 [] false w args ∧ laidMetH Tryd.prog Rows.pathBackRow.laid w) ∧ sizedMet enc Tryd.prog Tryd.f5 (OpenSpec.ofChange Rows.pathBackSpec) false w args) (Rows.pathBackSpec.post enc Tryd.prog Tryd.f5 false true false false) := by
  refine returns_shaped (C := Tryd.checked) (X := fun w _ => laidMetH Tryd.prog Rows.pathBackRow.laid w) (fun _ _ _ hh h => h.of_heap hh) own_pathBack started (by kernel_rfl) Tryd.func5
    (ChangeSpec.witness_shaped (enc := enc) (C := Tryd.checked) (os := os) (X := fun w _ => laidMetH Tryd.prog Rows.pathBackRow.laid w) false (World.laidAll Tryd.prog os Rows.pathBackRow.laid) #[.string ⟨#[]⟩] 8 (World.laidAll_os _ _ _)
      (World.shaped_of_ZipB (by kernel_rfl) (by kernel_rfl)) (by kernel_rfl) (by kernel_rfl) (by kernel_rfl)
      (by rw [MakeChecks.laidMetH_plain _ _ _ (by kernel_rfl)]; exact laidMet_laidAll _ (by kernel_rfl) (by kernel_rfl))) ?_
  intro W base args ds gs before hval0 hW hcnd hwt hL hsh _
  have hval : ∀ (j : Nat) t v, Tryd.f5.params[j]? = some t → args[j]? = some v → Value.okWide Tryd.prog W .any base t v := hval0
  have hgw : GW W := gw_of_shaped hsh
  have hW' := hW
  obtain ⟨p, q, hA0, hV, rfl, hfz, hnd⟩ := hW
  have hA : DataW.TrodAll enc Tryd.prog W 0 (fun _ => true) true [9] args.toList ds p := hA0
  have hval : ∀ (j : Nat) t v, (#[9] : Array Nat)[j]? = some t → args[j]? = some v → Value.okWide Tryd.prog W .any base t v := hval
  obtain ⟨v0, vs0, d0, ds0, p0, q0, hargs, rfl, rfl, h0, r0⟩ := trodAll_cons hA
  obtain ⟨rfl, rfl, rfl⟩ := trodAll_nil r0
  obtain rfl : args = #[v0] := by cases args; simp_all
  obtain ⟨rfl, rfl⟩ := trodVars_none hV
  have lt0 : ∀ x ∈ p0, x.block < W.heap.size := by obtain ⟨m, hm⟩ := h0; exact DataW.trod_lt m _ _ _ hm
  obtain ⟨n0, rfl, rfl, rfl, _⟩ := Go.ChangeMaps.open_string (show Program.underlying Tryd.prog 9 = some .string by kernel_rfl) (hval 0 9 v0 rfl rfl) h0
  obtain ⟨x0, w0, o0⟩ := arg_one rd_9 rfl h0
  have hvr : VReps (Ew W) [str x0] [_] := .cons w0 (.nil)
  refine (law_of_ok hgw (h x0 o0) hvr).mono fun e W' ⟨he, bel⟩ => ?_
  subst he
  exact ⟨_, rfl, _, _, _, [], _, [], hW', trodAll_mk1 (shut_bool (show Program.underlying Tryd.prog 4 = some .bool by kernel_rfl) _), (trodAll_cons_mk (Below.trod laidOut_pathBack (by kernel_rfl) (of_decide_eq_true (by kernel_rfl)) h0 bel lt0) trodAll_mk0), rfl, bel.frame _, fun h => by cases h⟩
theorem holds_pathBack_of (h : ∀ y0 : ByteArray, (fun s : ByteArray => s.size ≤ maxLen) y0 → Ok Tryd.prog 5 [str y0] (bool true)) : Rows.PathBackSaid :=
  OpenClaim.holds_of_wide 5 Tryd.f5 rfl rfl rfl rfl rfl rfl rfl ⟨rfl, rfl, rfl, rfl, rfl⟩ rfl rfl rfl rfl rfl (by kernel_rfl) Tryd.func5 (by kernel_rfl)
    (of_decide_eq_true (by kernel_rfl)) (by unfold Func.isWrapper; first | (rw [if_pos (by decide +kernel)]; kernel_rfl) | (rw [if_neg (by decide +kernel)]; exact ⟨rfl, rfl⟩))
    (fun os started H enc _ => lifted_pathBack h os started H enc)
theorem card_pathBack_of (hs : Rows.PathBackSaid) : Rows.PathBackCardSaid :=
  Claim7.holds_tied_plain_at .later [] [.data, .pinned] true (true, "ca1756caa6b165a2350b7674200ef0918e0f8d5d5c2914fdef93dfb8e3d654d4") false hs (fun _ h => by cases h) (by kernel_rfl) (fun _ h => by cases h) pathBack_row_tie rfl ⟨rfl, rfl⟩ (by kernel_rfl) rfl
    (fun f fn hf hfn => by
      obtain rfl : f = 5 := Option.some.inj ((show Tryd.prog.funcNamed "craquelure/craquelurelaw04.PathBack" = some 5 by kernel_rfl).symm.trans hf) |>.symm
      obtain rfl : fn = Tryd.f5 := (Option.some.inj (Tryd.func5.symm.trans hfn)).symm
      exact ⟨by kernel_rfl, fun j t ht => by
        have hm : t ∈ [9] := by have := Array.mem_of_getElem? (xs := (#[9] : Array Nat)) (show (#[9] : Array Nat)[j]? = some t from ht); simpa using this
        have hall : ([9].all fun u => !Tryd.prog.wantsStandIn u) = true := by kernel_rfl
        exact (show Tryd.prog.wantsStandIn t = false by simpa using List.all_eq_true.1 hall t hm)⟩)
    (by kernel_rfl)
end Go.Proofs.YtnmljicimdhpmaaDoor

/- What Split takes is Join of its names, and is clean; what is clean is split, and is clean again: for every text. -/
namespace Go.Proofs.YtnmljicimdhpmaaDoor
theorem pathBack_holds : Rows.PathBackCardSaid := card_pathBack_of (holds_pathBack_of fun s _ => AL.ok_law04_PathBack s true (AL.law_pathBack s))
#print axioms pathBack_holds
end Go.Proofs.YtnmljicimdhpmaaDoor

/- Rows of texts, and how great what reads as them is. -/
set_option linter.all false
namespace Go.Proofs.YtnmljicimdhpmaaDoor.AL
open Go Go.Proofs Go.RowKit Go.ChangeShapes Go.WideShapes
theorem bulk_strs {H : Type} : ∀ x : List ByteArray, Rows.uptoBulkAll (x.map fun s => (DataW.lit (.string s.data.toList) : DataW H)) = Lib.lens (x.map fun s => s.data.toList) + x.length
  | [] => by simp [Rows.uptoBulkAll, Lib.lens]
  | s :: x => by
    have ih := bulk_strs (H := H) x
    simp only [List.map_cons, Rows.uptoBulkAll, Rows.uptoBulk, ih, Lib.lens, List.sum_cons, List.length_cons]
    simp only [Lib.lens] at ih
    omega
theorem strs_bulk {P : Program} {T e : Nat} (hT : P.underlying T = some (.slice e)) (hc : P.cellsOf e = 1) (he : P.underlying e = some .string) {H : Type} {enc : TypeId × Value → H} {w : World} (hg : GW w) {held : Bool} {v : Value} {d : DataW H} {ps : List MemPlace} {spare : Nat → Bool} (hv : v.oneCell' = true) (h : DataW.Trod enc P w 0 spare held T v d ps)
    {x : List ByteArray} (hx : VRep (Ew w) (.sl 1 (x.map str)) v) : Lib.lens (x.map fun s => s.data.toList) + x.length ≤ Rows.uptoBulk d := by
  obtain ⟨fuel, hf⟩ := h
  have h1 : v.cells.toList = [v] := by cases v <;> simp_all [Value.oneCell', Value.cells]
  rw [h1] at hf
  obtain ⟨A, cap, rfl, hcap, hcell⟩ := strs_at (Z := fun b => b < w.heap.size) (w := w) ⟨fun _ h => h, hg⟩ hx
  rcases Deep.open_slice1 hT hc hf with ⟨e1, e2⟩ | ⟨a, len, cap', m, nf, V, D, Pl, e1, hb, hl, hm, hmm, e2, hV⟩
  · simp only [List.cons.injEq, Value.slice.injEq] at e1
    have hl0 := e1.1.2.1
    obtain rfl := List.eq_nil_of_length_eq_zero hl0
    simp [Lib.lens]
  · simp only [List.cons.injEq, Value.slice.injEq] at e1
    obtain ⟨⟨rfl, e3, rfl⟩, _⟩ := e1
    have hlm : len ≤ m := by rw [hmm]; split <;> omega
    have hd : d = .slice ((List.range len).map D) ((List.range (m - len)).map fun j => D (len + j)) := congrArg Prod.fst e2
    have hmap : (List.range len).map D = x.map fun s => (DataW.lit (.string s.data.toList) : DataW H) := by
      refine List.ext_getElem (by simp [e3]) fun j h2 h3 => ?_
      simp only [List.length_map, List.length_range] at h2 h3
      simp only [List.getElem_map, List.getElem_range]
      obtain ⟨b, o, hab, _, hxx⟩ := hcell (by intro e; rw [e] at h3; simp at h3)
      obtain rfl := Option.some.inj hab
      obtain ⟨g1, g2⟩ := hV j (by omega)
      have g3 := hxx j _ (List.getElem?_eq_getElem h3)
      have g4 : w.cell? ⟨b, o + j, none⟩ = some (V j) := by rw [← g1, add_addr]
      rw [g3] at g4
      obtain g5 := Option.some.inj g4
      rw [← g5] at g2
      obtain ⟨s, k1, k2, _⟩ := DataW.trod_string he g2
      simp only [List.cons.injEq, Value.string.injEq, and_true] at k1
      have k3 := congrArg Prod.fst k2
      simp only at k3
      rw [k3, ← k1]
    rw [hd, hmap]
    have := bulk_strs (H := H) x
    simp only [Rows.uptoBulk]
    omega
theorem witness_row_shaped {H : Type} {enc : TypeId × Value → H} {C : Checked} {os : Os} {f : FuncId} {fn : Func} {s : OpenSpec} {conds : List PathCond} {apart : Bool} {laid : List (String × DataW Unit)} (w0 : World) (args : Array Value) (hos : w0.os = os)
    (hsh : (w0.forCall (fun _ _ => 0) ⟨#[], args, []⟩).Shaped C.prog)
    (hok : Input.okWideB C.prog (w0.forCall (fun _ _ => 0) ⟨#[], args, []⟩) f ⟨#[], args, []⟩ = true)
    (hrow : s.preRow enc C.prog fn conds apart laid (w0.forCall (fun _ _ => 0) ⟨#[], args, []⟩).memory args) :
    ∃ (w : World) (tape : Tape) (i : Input), w.os = os ∧ (w.forCall tape i).Shaped C.prog ∧ i.vars = [] ∧ Input.okWide C.prog (w.forCall tape i) .any w.heap.size f i ∧
      s.preRow enc C.prog fn conds apart laid (w.forCall tape i).memory i.args ∧ ({} : Assume).holds C.prog (lone (Frame.enter C.prog f i.args .normal) [] (w.forCall tape i)) :=
  ⟨w0, fun _ _ => 0, ⟨#[], args, []⟩, hos, hsh, (Input.okWide_of_okWideB (base := 0) hok).1, (Input.okWide_of_okWideB hok).2, hrow, by
    simp only [Assume.holds]
    exact ⟨by simp, by simp, by simp, by simp, by simp⟩⟩
theorem join_bulk (x : List ByteArray) : (Lib.join (x.map fun s => s.data.toList) [47]).length ≤ Lib.lens (x.map fun s => s.data.toList) + x.length := by
  cases x with
  | nil => simp [Lib.join_nil]
  | cons y r =>
    rw [List.map_cons, Lib.join_cons, List.length_append, Lib.joinTail_length]
    simp only [Lib.lens, List.map_cons, List.sum_cons, List.length_cons, List.length_nil, List.length_map]
    omega
end Go.Proofs.YtnmljicimdhpmaaDoor.AL

/- The names of any text, and the path of any names, are what the document says, where what is handed in is of bulk at most 1048576. -/
set_option linter.all false
namespace Go.Proofs.YtnmljicimdhpmaaDoor.upto
open AL Go Go.RowKit Go.ChangeShapes Go.WideShapes Go.ChangeAt
theorem own_ : ownKnob Tryd.prog.godebug = none := by kernel_rfl
theorem laidOut_ : laidOutB Tryd.prog = true := by kernel_rfl
theorem reads_ (os : Os) {H : Type} (enc : TypeId × Value → H) : ∃ places, DataW.whole enc Tryd.prog ((World.laidAll Tryd.prog os Rows.pathSplitsUptoRow.laid).forCall (fun _ _ => 0) ⟨#[], #[.string ⟨#[]⟩, .slice none 0 0, .slice none 0 0], []⟩).memory Tryd.f3.params.toList Rows.pathSplitsSpec.vars false [.string ⟨#[]⟩, .slice none 0 0, .slice none 0 0] 8 = some ([.lit (.string []), .nil, .nil], [], places) := ⟨[], by kernel_rfl⟩
set_option maxRecDepth 100000 in
theorem lifted_ (os : Os) (started : os.Started) (H : Type) (enc : TypeId × Value → H) (F : Stop.Interp) :
    ReturnsInHanded {} Tryd.checked os 3 .any ((Rows.OpenSpec.upto Rows.pathSplitsSpec).preRow enc Tryd.prog Tryd.f3 Rows.pathSplitsUptoRow.domain false Rows.pathSplitsUptoRow.laid) (((Rows.OpenSpec.upto Rows.pathSplitsSpec).at F).post enc Tryd.prog Tryd.f3 false true false false) := by
  obtain ⟨places, hx⟩ := reads_ os enc
  refine returnsInHanded_of_row (C := Tryd.checked) (s := Rows.OpenSpec.upto Rows.pathSplitsSpec) own_ started (by kernel_rfl) Tryd.func3
    (witness_row_shaped (enc := enc) (C := Tryd.checked) (World.laidAll Tryd.prog os Rows.pathSplitsUptoRow.laid) #[.string ⟨#[]⟩, .slice none 0 0, .slice none 0 0] (World.laidAll_os _ _ _)
      (World.shaped_of_ZipB (by kernel_rfl) (by kernel_rfl)) (by kernel_rfl)
      (OpenSpec.preRow_of_cond 8 hx (by kernel_rfl) (fun k hk => by cases hk; kernel_rfl) (by kernel_rfl)
        (by rw [MakeChecks.laidMetH_plain _ _ _ (by kernel_rfl)]; exact laidMet_laidAll _ (by kernel_rfl) (by kernel_rfl)))) ?_
  intro W base args ds gs before hval0 hW hcnd hcond hwt hL hsh _
  have hval : ∀ (j : Nat) t v, Tryd.f3.params[j]? = some t → args[j]? = some v → Value.okWide Tryd.prog W .any base t v := hval0
  have hgw : GW W := gw_of_shaped hsh
  have hW' := hW
  obtain ⟨p, q, hA0, hV, rfl, hfz, hnd⟩ := hW
  have hA : DataW.TrodAll enc Tryd.prog W 0 (fun _ => true) true [9, 22, 22] args.toList ds p := hA0
  have hval : ∀ (j : Nat) t v, (#[9, 22, 22] : Array Nat)[j]? = some t → args[j]? = some v → Value.okWide Tryd.prog W .any base t v := hval
  obtain ⟨v0, vs0, d0, ds0, p0, q0, hargs, rfl, rfl, h0, r0⟩ := trodAll_cons hA
  obtain ⟨v1, vs1, d1, ds1, p1, q1, rfl, rfl, rfl, h1, r1⟩ := trodAll_cons r0
  obtain ⟨v2, vs2, d2, ds2, p2, q2, rfl, rfl, rfl, h2, r2⟩ := trodAll_cons r1
  obtain ⟨rfl, rfl, rfl⟩ := trodAll_nil r2
  obtain rfl : args = #[v0, v1, v2] := by cases args; simp_all
  obtain ⟨rfl, rfl⟩ := trodVars_none hV
  have lt0 : ∀ x ∈ p0, x.block < W.heap.size := by obtain ⟨m, hm⟩ := h0; exact DataW.trod_lt m _ _ _ hm
  obtain ⟨n0, rfl, rfl, rfl, _⟩ := Go.ChangeMaps.open_string (show Program.underlying Tryd.prog 9 = some .string by kernel_rfl) (hval 0 9 v0 rfl rfl) h0
  obtain ⟨x0, w0, o0⟩ := arg_one rd_9 rfl h0
  have lt1 : ∀ x ∈ p1, x.block < W.heap.size := by obtain ⟨m, hm⟩ := h1; exact DataW.trod_lt m _ _ _ hm
  obtain ⟨a1, l1, c1, hv1⟩ := okWide_slice (elemOfT_eq elemOfT_22) (hval 1 22 v1 rfl rfl)
  subst hv1
  obtain ⟨x1, w1, o1⟩ := arg_one rd_22 rfl h1
  have lt2 : ∀ x ∈ p2, x.block < W.heap.size := by obtain ⟨m, hm⟩ := h2; exact DataW.trod_lt m _ _ _ hm
  obtain ⟨a2, l2, c2, hv2⟩ := okWide_slice (elemOfT_eq elemOfT_22) (hval 2 22 v2 rfl rfl)
  subst hv2
  obtain ⟨x2, w2, o2⟩ := arg_one rd_22 rfl h2
  have hvr : VReps (Ew W) [str x0, .sl 1 (x1.map str), .sl 1 (x2.map str)] [_, _, _] := .cons w0 (.cons w1 (.cons w2 (.nil)))
  have hb1 := strs_bulk (elemOfT_eq elemOfT_22) (by kernel_rfl) (by kernel_rfl) hgw rfl h1 w1
  have hj1 := join_bulk x1
  have hk := of_decide_eq_true (hcond _ rfl)
  simp only [List.append_nil, Rows.uptoBulkAll] at hk
  refine (law_of_ok hgw (ok_law04_PathSplits x0 x1 x2 true (law_pathSplits x0 x1 x2 fun _ => by omega)) hvr).mono fun e W' ⟨he, bel⟩ => ?_
  subst he
  exact ⟨_, rfl, _, _, _, [], _, [], hW', trodAll_mk1 (shut_bool (show Program.underlying Tryd.prog 4 = some .bool by kernel_rfl) _), (trodAll_cons_mk (Below.trod laidOut_ (by kernel_rfl) (of_decide_eq_true (by kernel_rfl)) h0 bel lt0) (trodAll_cons_mk (Below.trod laidOut_ (by kernel_rfl) (of_decide_eq_true (by kernel_rfl)) h1 bel lt1) (trodAll_cons_mk (Below.trod laidOut_ (by kernel_rfl) (of_decide_eq_true (by kernel_rfl)) h2 bel lt2) trodAll_mk0))), rfl, bel.frame _, fun h => by cases h⟩
theorem said_ : Rows.PathSplitsUptoSaid :=
  OpenClaim.holds_of_cond 3 Tryd.f3 rfl rfl rfl rfl rfl rfl rfl ⟨rfl, rfl, rfl, rfl, rfl⟩ rfl rfl rfl rfl rfl (by kernel_rfl) Tryd.func3 (by kernel_rfl)
    (of_decide_eq_true (by kernel_rfl)) (by unfold Func.isWrapper; first | (rw [if_pos (by decide +kernel)]; kernel_rfl) | (rw [if_neg (by decide +kernel)]; exact ⟨rfl, rfl⟩))
    (fun os started H enc _ F => by rw [OpenClaim.pre_eq_preRow]; exact lifted_ os started H enc F)
theorem plain_ (f : FuncId) (fn : Func) (hf : Tryd.pinned.checked.prog.funcNamed "craquelure/craquelurelaw04.PathSplits" = some f) (hfn : Tryd.pinned.checked.prog.funcs[f]? = some fn) :
    false = Tryd.pinned.checked.prog.looks [] ∧ ∀ (j : Nat) t, fn.params[j]? = some t → Tryd.pinned.checked.prog.wantsStandIn t = false := by
  obtain rfl : f = 3 := Option.some.inj ((show Tryd.prog.funcNamed "craquelure/craquelurelaw04.PathSplits" = some 3 by kernel_rfl).symm.trans hf) |>.symm
  obtain rfl : fn = Tryd.f3 := (Option.some.inj (Tryd.func3.symm.trans hfn)).symm
  refine ⟨by kernel_rfl, fun j t ht => ?_⟩
  have hm : t ∈ [9, 22, 22] := by have := Array.mem_of_getElem? (xs := (#[9, 22, 22] : Array Nat)) (show (#[9, 22, 22] : Array Nat)[j]? = some t from ht); simpa using this
  have hall : ([9, 22, 22].all fun u => !Tryd.prog.wantsStandIn u) = true := by kernel_rfl
  exact (show Tryd.prog.wantsStandIn t = false by simpa using List.all_eq_true.1 hall t hm)
theorem pathSplits_holds : Rows.PathSplitsUptoCardSaid :=
  Claim7.holds_tied_plain_at .later [] _ _ _ _ said_ (fun _ h => by cases h) (by kernel_rfl) (fun _ h => by cases h) pathSplitsUpto_row_tie rfl ⟨rfl, rfl⟩ (by kernel_rfl) rfl plain_ (by kernel_rfl)
#print axioms pathSplits_holds
end Go.Proofs.YtnmljicimdhpmaaDoor.upto

/- The laws of paths. -/
