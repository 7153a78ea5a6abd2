/- What any node of any stack should say of copies, and which say otherwise, is what the document says: part 50 of 51. -/
import Derived.Test.YtfefidkblgendaaGreatDoorRows
import Derived.Test.YtfefidkblgendaaGreatDoorTie
import Derived.Test.YtfefidkblgendaaGreatDoorCards
import Derived.PinnedBridge
import Derived.Lay
import Derived.SevenTiedAt
import Derived.Deep.DeepHandedRow
import Derived.Lib.Join
import Derived.Test.YtfefidkblgendaaGreatDoorA49
set_option linter.all false
/- From the contract of the law to the given statement, a tied card: the frame, printed by lawgend.py. -/
set_option linter.all false
namespace Go.Proofs.YtfefidkblgendaaGreatDoor
open AL Go Go.RowKit Go.ChangeShapes Go.WideShapes Go.ChangeAt
theorem xv0 : ownKnob Tryz.prog.godebug = none := by kernel_rfl
theorem xgi : laidOutB Tryz.prog = true := by kernel_rfl
set_option maxRecDepth 100000 in
theorem xfw (h : ∀ y0 : AL.Stack, ∀ y1 : List ByteArray, ∀ y2 : ByteArray, Stack.fine y0 → (fun l : List ByteArray => l.length ≤ maxLen ∧ ∀ x ∈ l, (fun s : ByteArray => s.size ≤ maxLen) x) y1 → (fun s : ByteArray => s.size ≤ maxLen) y2 → Ok Tryz.prog 4 [xf y0, (sll 1 str) y1, str y2] (bool true)) (os : Os) (started : os.Started) (H : Type) (enc : TypeId × Value → H) :
    ReturnsInHanded {} Tryz.checked os 4 .any (fun w args => (Rows.mergeNamesSpec.pre enc Tryz.prog Tryz.f4 [] false w args ∧ laidMetH Tryz.prog Rows.mergeNamesRow.laid w) ∧ sizedMet enc Tryz.prog Tryz.f4 (OpenSpec.ofChange Rows.mergeNamesSpec) false w args) (Rows.mergeNamesSpec.post enc Tryz.prog Tryz.f4 false true false false) := by
  refine xer (C := Tryz.checked) (X := fun w _ => laidMetH Tryz.prog Rows.mergeNamesRow.laid w) (fun _ _ _ hh h => h.of_heap hh) xv0 started (by kernel_rfl) Tryz.func4
    (ChangeSpec.witness_shaped (enc := enc) (C := Tryz.checked) (os := os) (X := fun w _ => laidMetH Tryz.prog Rows.mergeNamesRow.laid w) false (World.laidAll Tryz.prog os Rows.mergeNamesRow.laid) #[.agg #[.int .i64 0, .int .i64 0, .int .i64 0, .int .i64 0, .slice none 0 0, .slice none 0 0], .slice none 0 0, .string ⟨#[]⟩] 8 (World.laidAll_os _ _ _)
      (World.shaped_of_ZipB (by kernel_rfl) (by kernel_rfl)) (by kernel_rfl) (by kernel_rfl) (by kernel_rfl)
      (by rw [MakeChecks.laidMetH_plain _ _ _ (by kernel_rfl)]; exact laidMet_laidAll _ (by kernel_rfl) (by kernel_rfl))) ?_
  intro W base args ds gs before hval0 hW hcnd hwt hL hsh _
  have hval : ∀ (j : Nat) t v, Tryz.f4.params[j]? = some t → args[j]? = some v → Value.okWide Tryz.prog W .any base t v := hval0
  have hgw : GW W := xrp hsh
  have hW' := hW
  obtain ⟨p, q, hA0, hV, rfl, hfz, hnd⟩ := hW
  have hA : DataW.TrodAll enc Tryz.prog W 0 (fun _ => true) true [29, 31, 9] args.toList ds p := hA0
  have hval : ∀ (j : Nat) t v, (#[29, 31, 9] : Array Nat)[j]? = some t → args[j]? = some v → Value.okWide Tryz.prog W .any base t v := hval
  obtain ⟨v0, vs0, d0, ds0, p0, q0, hargs, rfl, rfl, h0, r0⟩ := trodAll_cons hA
  obtain ⟨v1, vs1, d1, ds1, p1, q1, rfl, rfl, rfl, h1, r1⟩ := trodAll_cons r0
  obtain ⟨v2, vs2, d2, ds2, p2, q2, rfl, rfl, rfl, h2, r2⟩ := trodAll_cons r1
  obtain ⟨rfl, rfl, rfl⟩ := trodAll_nil r2
  obtain rfl : args = #[v0, v1, v2] := by cases args; simp_all
  obtain ⟨rfl, rfl⟩ := trodVars_none hV
  have lt0 : ∀ x ∈ p0, x.block < W.heap.size := by obtain ⟨m, hm⟩ := h0; exact DataW.trod_lt m _ _ _ hm
  obtain ⟨cs0, hv0, _⟩ := okWide_struct (xbf xki).choose_spec (hval 0 29 v0 rfl rfl)
  subst hv0
  obtain ⟨x0, w0, o0⟩ := xvo rd_29 (fun _ => rfl) h0
  have lt1 : ∀ x ∈ p1, x.block < W.heap.size := by obtain ⟨m, hm⟩ := h1; exact DataW.trod_lt m _ _ _ hm
  obtain ⟨a1, l1, c1, hv1⟩ := okWide_slice (xec xsc) (hval 1 31 v1 rfl rfl)
  subst hv1
  obtain ⟨x1, w1, o1⟩ := x5v rd_31 rfl h1
  have lt2 : ∀ x ∈ p2, x.block < W.heap.size := by obtain ⟨m, hm⟩ := h2; exact DataW.trod_lt m _ _ _ hm
  obtain ⟨n2, rfl, rfl, rfl, _⟩ := Go.ChangeMaps.open_string (show Program.underlying Tryz.prog 9 = some .string by kernel_rfl) (hval 2 9 v2 rfl rfl) h2
  obtain ⟨x2, w2, o2⟩ := x5v rd_9 rfl h2
  have hvr : VReps (Ew W) [xf x0, (sll 1 str) x1, str x2] [_, _, _] := .cons w0 (.cons w1 (.cons w2 (.nil)))
  refine (xbu hgw (h x0 x1 x2 o0 o1 o2) hvr).mono fun e W' ⟨he, bel⟩ => ?_
  subst he
  exact ⟨_, rfl, _, _, _, [], _, [], hW', trodAll_mk1 (shut_bool (show Program.underlying Tryz.prog 4 = some .bool by kernel_rfl) _), (trodAll_cons_mk (Below.trod xgi (by kernel_rfl) (of_decide_eq_true (by kernel_rfl)) h0 bel lt0) (trodAll_cons_mk (Below.trod xgi (by kernel_rfl) (of_decide_eq_true (by kernel_rfl)) h1 bel lt1) (trodAll_cons_mk (Below.trod xgi (by kernel_rfl) (of_decide_eq_true (by kernel_rfl)) h2 bel lt2) trodAll_mk0))), rfl, bel.frame _, fun h => by cases h⟩
theorem xbt (h : ∀ y0 : AL.Stack, ∀ y1 : List ByteArray, ∀ y2 : ByteArray, Stack.fine y0 → (fun l : List ByteArray => l.length ≤ maxLen ∧ ∀ x ∈ l, (fun s : ByteArray => s.size ≤ maxLen) x) y1 → (fun s : ByteArray => s.size ≤ maxLen) y2 → Ok Tryz.prog 4 [xf y0, (sll 1 str) y1, str y2] (bool true)) : Rows.MergeNamesSaid :=
  OpenClaim.holds_of_wide 4 Tryz.f4 rfl rfl rfl rfl rfl rfl rfl ⟨rfl, rfl, rfl, rfl, rfl⟩ rfl rfl rfl rfl rfl (by kernel_rfl) Tryz.func4 (by kernel_rfl)
    (of_decide_eq_true (by kernel_rfl)) (by unfold Func.isWrapper; first | (rw [if_pos (by decide +kernel)]; kernel_rfl) | (rw [if_neg (by decide +kernel)]; exact ⟨rfl, rfl⟩))
    (fun os started H enc _ => xfw h os started H enc)
theorem xxv (hs : Rows.MergeNamesSaid) : Rows.MergeNamesCardSaid :=
  Claim7.holds_tied_plain_at .later [] [.data, .pinned] true (true, "ac9e7c723a4a25d76d06e7e6c1b0b6c7799cba2e1e8ee291859e72b20ac6a31e") false hs (fun _ h => by cases h) (by kernel_rfl) (fun _ h => by cases h) mergeNames_row_tie rfl ⟨rfl, rfl⟩ (by kernel_rfl) rfl
    (fun f fn hf hfn => by
      obtain rfl : f = 4 := Option.some.inj ((show Tryz.prog.funcNamed "craquelure/craquelurelaw18.MergeNames" = some 4 by kernel_rfl).symm.trans hf) |>.symm
      obtain rfl : fn = Tryz.f4 := (Option.some.inj (Tryz.func4.symm.trans hfn)).symm
      exact ⟨by kernel_rfl, fun j t ht => by
        have hm : t ∈ [29, 31, 9] := by have := Array.mem_of_getElem? (xs := (#[29, 31, 9] : Array Nat)) (show (#[29, 31, 9] : Array Nat)[j]? = some t from ht); simpa using this
        have hall : ([29, 31, 9].all fun u => !Tryz.prog.wantsStandIn u) = true := by kernel_rfl
        exact (show Tryz.prog.wantsStandIn t = false by simpa using List.all_eq_true.1 hall t hm)⟩)
    (by kernel_rfl)
end Go.Proofs.YtfefidkblgendaaGreatDoor

/- A path shows something just if its last name is one of those of the directory ahead of it; the root always does: for every stack, all names, and every last name. -/
namespace Go.Proofs.YtfefidkblgendaaGreatDoor
theorem mergeNames_holds : Rows.MergeNamesCardSaid := xxv (xbt fun s l t _ _ _ => AL.x4fb s l t)
#print axioms mergeNames_holds
end Go.Proofs.YtfefidkblgendaaGreatDoor

/- Rows of texts, and how great what reads as them is. -/
set_option linter.all false
namespace Go.Proofs.YtfefidkblgendaaGreatDoor.AL
open Go Go.Proofs Go.RowKit Go.ChangeShapes Go.WideShapes
theorem xt1 {H : Type} : ∀ x : List ByteArray, Rows.uptoBulkAll (x.map fun s => (DataW.lit (.string s.data.toList) : DataW H)) = Lib.lens (x.map fun s => s.data.toList) + x.length
  | [] => by simp [Rows.uptoBulkAll, Lib.lens]
  | s :: x => by
    have ih := xt1 (H := H) x
    simp only [List.map_cons, Rows.uptoBulkAll, Rows.uptoBulk, ih, Lib.lens, List.sum_cons, List.length_cons]
    simp only [Lib.lens] at ih
    omega
theorem x28 {P : Program} {T e : Nat} (hT : P.underlying T = some (.slice e)) (hc : P.cellsOf e = 1) (he : P.underlying e = some .string) {H : Type} {enc : TypeId × Value → H} {w : World} (hg : GW w) {held : Bool} {v : Value} {d : DataW H} {ps : List MemPlace} {spare : Nat → Bool} (hv : v.oneCell' = true) (h : DataW.Trod enc P w 0 spare held T v d ps)
    {x : List ByteArray} (hx : VRep (Ew w) (.sl 1 (x.map str)) v) : Lib.lens (x.map fun s => s.data.toList) + x.length ≤ Rows.uptoBulk d := by
  obtain ⟨fuel, hf⟩ := h
  have h1 : v.cells.toList = [v] := by cases v <;> simp_all [Value.oneCell', Value.cells]
  rw [h1] at hf
  obtain ⟨A, cap, rfl, hcap, hcell⟩ := x76 (Z := fun b => b < w.heap.size) (w := w) ⟨fun _ h => h, hg⟩ hx
  rcases Deep.open_slice1 hT hc hf with ⟨e1, e2⟩ | ⟨a, len, cap', m, nf, V, D, Pl, e1, hb, hl, hm, hmm, e2, hV⟩
  · simp only [List.cons.injEq, Value.slice.injEq] at e1
    have hl0 := e1.1.2.1
    obtain rfl := List.eq_nil_of_length_eq_zero hl0
    simp [Lib.lens]
  · simp only [List.cons.injEq, Value.slice.injEq] at e1
    obtain ⟨⟨rfl, e3, rfl⟩, _⟩ := e1
    have hlm : len ≤ m := by rw [hmm]; split <;> omega
    have hd : d = .slice ((List.range len).map D) ((List.range (m - len)).map fun j => D (len + j)) := congrArg Prod.fst e2
    have hmap : (List.range len).map D = x.map fun s => (DataW.lit (.string s.data.toList) : DataW H) := by
      refine List.ext_getElem (by simp [e3]) fun j h2 h3 => ?_
      simp only [List.length_map, List.length_range] at h2 h3
      simp only [List.getElem_map, List.getElem_range]
      obtain ⟨b, o, hab, _, hxx⟩ := hcell (by intro e; rw [e] at h3; simp at h3)
      obtain rfl := Option.some.inj hab
      obtain ⟨g1, g2⟩ := hV j (by omega)
      have g3 := hxx j _ (List.getElem?_eq_getElem h3)
      have g4 : w.cell? ⟨b, o + j, none⟩ = some (V j) := by rw [← g1, xvc]
      rw [g3] at g4
      obtain g5 := Option.some.inj g4
      rw [← g5] at g2
      obtain ⟨s, k1, k2, _⟩ := DataW.trod_string he g2
      simp only [List.cons.injEq, Value.string.injEq, and_true] at k1
      have k3 := congrArg Prod.fst k2
      simp only at k3
      rw [k3, ← k1]
    rw [hd, hmap]
    have := xt1 (H := H) x
    simp only [Rows.uptoBulk]
    omega
theorem xmv {H : Type} {enc : TypeId × Value → H} {C : Checked} {os : Os} {f : FuncId} {fn : Func} {s : OpenSpec} {conds : List PathCond} {apart : Bool} {laid : List (String × DataW Unit)} (w0 : World) (args : Array Value) (hos : w0.os = os)
    (hsh : (w0.forCall (fun _ _ => 0) ⟨#[], args, []⟩).Shaped C.prog)
    (hok : Input.okWideB C.prog (w0.forCall (fun _ _ => 0) ⟨#[], args, []⟩) f ⟨#[], args, []⟩ = true)
    (hrow : s.preRow enc C.prog fn conds apart laid (w0.forCall (fun _ _ => 0) ⟨#[], args, []⟩).memory args) :
    ∃ (w : World) (tape : Tape) (i : Input), w.os = os ∧ (w.forCall tape i).Shaped C.prog ∧ i.vars = [] ∧ Input.okWide C.prog (w.forCall tape i) .any w.heap.size f i ∧
      s.preRow enc C.prog fn conds apart laid (w.forCall tape i).memory i.args ∧ ({} : Assume).holds C.prog (lone (Frame.enter C.prog f i.args .normal) [] (w.forCall tape i)) :=
  ⟨w0, fun _ _ => 0, ⟨#[], args, []⟩, hos, hsh, (Input.okWide_of_okWideB (base := 0) hok).1, (Input.okWide_of_okWideB hok).2, hrow, by
    simp only [Assume.holds]
    exact ⟨by simp, by simp, by simp, by simp, by simp⟩⟩
theorem xd9 (x : List ByteArray) : (Lib.join (x.map fun s => s.data.toList) [47]).length ≤ Lib.lens (x.map fun s => s.data.toList) + x.length := by
  cases x with
  | nil => simp [Lib.join_nil]
  | cons y r =>
    rw [List.map_cons, Lib.join_cons, List.length_append, Lib.joinTail_length]
    simp only [Lib.lens, List.map_cons, List.sum_cons, List.length_cons, List.length_nil, List.length_map]
    omega
end Go.Proofs.YtfefidkblgendaaGreatDoor.AL

/- What any names, and any path, show in any stack, is what the document says, where what is handed in is of bulk at most 1048576. -/
set_option linter.all false
namespace Go.Proofs.YtfefidkblgendaaGreatDoor.upto
open AL Go Go.RowKit Go.ChangeShapes Go.WideShapes Go.ChangeAt
theorem own_ : ownKnob Tryz.prog.godebug = none := by kernel_rfl
theorem xgx : laidOutB Tryz.prog = true := by kernel_rfl
theorem reads_ (os : Os) {H : Type} (enc : TypeId × Value → H) : ∃ places, DataW.whole enc Tryz.prog ((World.laidAll Tryz.prog os Rows.mergeShowsUptoRow.laid).forCall (fun _ _ => 0) ⟨#[], #[.agg #[.int .i64 0, .int .i64 0, .int .i64 0, .int .i64 0, .slice none 0 0, .slice none 0 0], .slice none 0 0, .agg #[.int .i64 0, .int .i64 0]], []⟩).memory Tryz.f5.params.toList Rows.mergeShowsSpec.vars false [.agg #[.int .i64 0, .int .i64 0, .int .i64 0, .int .i64 0, .slice none 0 0, .slice none 0 0], .slice none 0 0, .agg #[.int .i64 0, .int .i64 0]] 8 = some ([.agg [.agg [.lit (.int .i64 0), .lit (.int .i64 0), .lit (.int .i64 0), .lit (.int .i64 0)], .agg [.nil], .nil], .nil, .agg [.lit (.int .i64 0), .lit (.int .i64 0)]], [], places) := ⟨[], by kernel_rfl⟩
set_option maxRecDepth 100000 in
theorem xidb (os : Os) (started : os.Started) (H : Type) (enc : TypeId × Value → H) (F : Stop.Interp) :
    ReturnsInHanded {} Tryz.checked os 5 .any ((Rows.OpenSpec.upto Rows.mergeShowsSpec).preRow enc Tryz.prog Tryz.f5 Rows.mergeShowsUptoRow.domain false Rows.mergeShowsUptoRow.laid) (((Rows.OpenSpec.upto Rows.mergeShowsSpec).at F).post enc Tryz.prog Tryz.f5 false true false false) := by
  obtain ⟨places, hx⟩ := reads_ os enc
  refine returnsInHanded_of_row (C := Tryz.checked) (s := Rows.OpenSpec.upto Rows.mergeShowsSpec) own_ started (by kernel_rfl) Tryz.func5
    (xmv (enc := enc) (C := Tryz.checked) (World.laidAll Tryz.prog os Rows.mergeShowsUptoRow.laid) #[.agg #[.int .i64 0, .int .i64 0, .int .i64 0, .int .i64 0, .slice none 0 0, .slice none 0 0], .slice none 0 0, .agg #[.int .i64 0, .int .i64 0]] (World.laidAll_os _ _ _)
      (World.shaped_of_ZipB (by kernel_rfl) (by kernel_rfl)) (by kernel_rfl)
      (OpenSpec.preRow_of_cond 8 hx (by kernel_rfl) (fun k hk => by cases hk; kernel_rfl) (by kernel_rfl)
        (by rw [MakeChecks.laidMetH_plain _ _ _ (by kernel_rfl)]; exact laidMet_laidAll _ (by kernel_rfl) (by kernel_rfl)))) ?_
  intro W base args ds gs before hval0 hW hcnd hcond hwt hL hsh _
  have hval : ∀ (j : Nat) t v, Tryz.f5.params[j]? = some t → args[j]? = some v → Value.okWide Tryz.prog W .any base t v := hval0
  have hgw : GW W := xrp hsh
  have hW' := hW
  obtain ⟨p, q, hA0, hV, rfl, hfz, hnd⟩ := hW
  have hA : DataW.TrodAll enc Tryz.prog W 0 (fun _ => true) true [29, 31, 44] args.toList ds p := hA0
  have hval : ∀ (j : Nat) t v, (#[29, 31, 44] : Array Nat)[j]? = some t → args[j]? = some v → Value.okWide Tryz.prog W .any base t v := hval
  obtain ⟨v0, vs0, d0, ds0, p0, q0, hargs, rfl, rfl, h0, r0⟩ := trodAll_cons hA
  obtain ⟨v1, vs1, d1, ds1, p1, q1, rfl, rfl, rfl, h1, r1⟩ := trodAll_cons r0
  obtain ⟨v2, vs2, d2, ds2, p2, q2, rfl, rfl, rfl, h2, r2⟩ := trodAll_cons r1
  obtain ⟨rfl, rfl, rfl⟩ := trodAll_nil r2
  obtain rfl : args = #[v0, v1, v2] := by cases args; simp_all
  obtain ⟨rfl, rfl⟩ := trodVars_none hV
  have lt0 : ∀ x ∈ p0, x.block < W.heap.size := by obtain ⟨m, hm⟩ := h0; exact DataW.trod_lt m _ _ _ hm
  obtain ⟨cs0, hv0, _⟩ := okWide_struct (xbf xki).choose_spec (hval 0 29 v0 rfl rfl)
  subst hv0
  obtain ⟨x0, w0, o0⟩ := xvo rd_29 (fun _ => rfl) h0
  have lt1 : ∀ x ∈ p1, x.block < W.heap.size := by obtain ⟨m, hm⟩ := h1; exact DataW.trod_lt m _ _ _ hm
  obtain ⟨a1, l1, c1, hv1⟩ := okWide_slice (xec xsc) (hval 1 31 v1 rfl rfl)
  subst hv1
  obtain ⟨x1, w1, o1⟩ := x5v rd_31 rfl h1
  have lt2 : ∀ x ∈ p2, x.block < W.heap.size := by obtain ⟨m, hm⟩ := h2; exact DataW.trod_lt m _ _ _ hm
  obtain ⟨cs2, hv2, _⟩ := okWide_struct (xbf xkl).choose_spec (hval 2 44 v2 rfl rfl)
  subst hv2
  obtain ⟨x2, w2, o2⟩ := xvo rd_44 (fun _ => rfl) h2
  have hvr : VReps (Ew W) [xf x0, .sl 1 (x1.map str), xc x2] [_, _, _] := .cons w0 (.cons w1 (.cons w2 (.nil)))
  have hb1 := x28 (xec xsc) (by kernel_rfl) (by kernel_rfl) hgw rfl h1 w1
  have hj1 := xd9 x1
  have hk := of_decide_eq_true (hcond _ rfl)
  simp only [List.append_nil, Rows.uptoBulkAll] at hk
  refine (xbu hgw (xz2 x0 x1 x2 (by omega)) hvr).mono fun e W' ⟨he, bel⟩ => ?_
  subst he
  exact ⟨_, rfl, _, _, _, [], _, [], hW', trodAll_mk1 (shut_bool (show Program.underlying Tryz.prog 4 = some .bool by kernel_rfl) _), (trodAll_cons_mk (Below.trod xgx (by kernel_rfl) (of_decide_eq_true (by kernel_rfl)) h0 bel lt0) (trodAll_cons_mk (Below.trod xgx (by kernel_rfl) (of_decide_eq_true (by kernel_rfl)) h1 bel lt1) (trodAll_cons_mk (Below.trod xgx (by kernel_rfl) (of_decide_eq_true (by kernel_rfl)) h2 bel lt2) trodAll_mk0))), rfl, bel.frame _, fun h => by cases h⟩
theorem said_ : Rows.MergeShowsUptoSaid :=
  OpenClaim.holds_of_cond 5 Tryz.f5 rfl rfl rfl rfl rfl rfl rfl ⟨rfl, rfl, rfl, rfl, rfl⟩ rfl rfl rfl rfl rfl (by kernel_rfl) Tryz.func5 (by kernel_rfl)
    (of_decide_eq_true (by kernel_rfl)) (by unfold Func.isWrapper; first | (rw [if_pos (by decide +kernel)]; kernel_rfl) | (rw [if_neg (by decide +kernel)]; exact ⟨rfl, rfl⟩))
    (fun os started H enc _ F => by rw [OpenClaim.pre_eq_preRow]; exact xidb os started H enc F)
theorem plain_ (f : FuncId) (fn : Func) (hf : Tryz.pinned.checked.prog.funcNamed "craquelure/craquelurelaw18.MergeShows" = some f) (hfn : Tryz.pinned.checked.prog.funcs[f]? = some fn) :
    false = Tryz.pinned.checked.prog.looks [] ∧ ∀ (j : Nat) t, fn.params[j]? = some t → Tryz.pinned.checked.prog.wantsStandIn t = false := by
  obtain rfl : f = 5 := Option.some.inj ((show Tryz.prog.funcNamed "craquelure/craquelurelaw18.MergeShows" = some 5 by kernel_rfl).symm.trans hf) |>.symm
  obtain rfl : fn = Tryz.f5 := (Option.some.inj (Tryz.func5.symm.trans hfn)).symm
  refine ⟨by kernel_rfl, fun j t ht => ?_⟩
  have hm : t ∈ [29, 31, 44] := by have := Array.mem_of_getElem? (xs := (#[29, 31, 44] : Array Nat)) (show (#[29, 31, 44] : Array Nat)[j]? = some t from ht); simpa using this
  have hall : ([29, 31, 44].all fun u => !Tryz.prog.wantsStandIn u) = true := by kernel_rfl
  exact (show Tryz.prog.wantsStandIn t = false by simpa using List.all_eq_true.1 hall t hm)
theorem mergeShows_holds : Rows.MergeShowsUptoCardSaid :=
  Claim7.holds_tied_plain_at .later [] _ _ _ _ said_ (fun _ h => by cases h) (by kernel_rfl) (fun _ h => by cases h) mergeShowsUpto_row_tie rfl ⟨rfl, rfl⟩ (by kernel_rfl) rfl plain_ (by kernel_rfl)
#print axioms mergeShows_holds
end Go.Proofs.YtfefidkblgendaaGreatDoor.upto

