/- What any node of any stack should say of copies, and which say otherwise, is what the document says: part 29 of 51. -/
import Derived.Test.YtfefidkblgendaaGreatDoorRows
import Derived.Test.YtfefidkblgendaaGreatDoorTie
import Derived.Test.YtfefidkblgendaaGreatDoorCards
import Derived.PinnedBridge
import Derived.Lay
import Derived.SevenTiedAt
import Derived.Test.YtfefidkblgendaaGreatDoorA28
set_option linter.all false
/- From the contract of the law to the given statement, a tied card: the frame, printed by lawgend.py. -/
set_option linter.all false
namespace Go.Proofs.YtfefidkblgendaaGreatDoor
open AL Go Go.RowKit Go.ChangeShapes Go.WideShapes Go.ChangeAt
theorem xt0 : ownKnob Tryz.prog.godebug = none := by kernel_rfl
theorem x7f : laidOutB Tryz.prog = true := by kernel_rfl
set_option maxRecDepth 100000 in
theorem xgw (h : ∀ y0 : AL.Stack, ∀ y1 : ByteArray, ∀ y2 : AL.Seen, ∀ y3 : AL.Seen, Stack.fine y0 → (fun s : ByteArray => s.size ≤ maxLen) y1 → Seen.fine y2 → Seen.fine y3 → Ok Tryz.prog 3 [xf y0, str y1, xub y2, xub y3] (bool true)) (os : Os) (started : os.Started) (H : Type) (enc : TypeId × Value → H) :
    ReturnsInHanded {} Tryz.checked os 3 .any (fun w args => (Rows.mergeTextsSpec.pre enc Tryz.prog Tryz.f3 [] false w args ∧ laidMetH Tryz.prog Rows.mergeTextsRow.laid w) ∧ sizedMet enc Tryz.prog Tryz.f3 (OpenSpec.ofChange Rows.mergeTextsSpec) false w args) (Rows.mergeTextsSpec.post enc Tryz.prog Tryz.f3 false true false false) := by
  refine xer (C := Tryz.checked) (X := fun w _ => laidMetH Tryz.prog Rows.mergeTextsRow.laid w) (fun _ _ _ hh h => h.of_heap hh) xt0 started (by kernel_rfl) Tryz.func3
    (ChangeSpec.witness_shaped (enc := enc) (C := Tryz.checked) (os := os) (X := fun w _ => laidMetH Tryz.prog Rows.mergeTextsRow.laid w) false (World.laidAll Tryz.prog os Rows.mergeTextsRow.laid) #[.agg #[.int .i64 0, .int .i64 0, .int .i64 0, .int .i64 0, .slice none 0 0, .slice none 0 0], .string ⟨#[]⟩, .agg #[.int .i64 0, .slice none 0 0, .slice none 0 0], .agg #[.int .i64 0, .slice none 0 0, .slice none 0 0]] 8 (World.laidAll_os _ _ _)
      (World.shaped_of_ZipB (by kernel_rfl) (by kernel_rfl)) (by kernel_rfl) (by kernel_rfl) (by kernel_rfl)
      (by rw [MakeChecks.laidMetH_plain _ _ _ (by kernel_rfl)]; exact laidMet_laidAll _ (by kernel_rfl) (by kernel_rfl))) ?_
  intro W base args ds gs before hval0 hW hcnd hwt hL hsh _
  have hval : ∀ (j : Nat) t v, Tryz.f3.params[j]? = some t → args[j]? = some v → Value.okWide Tryz.prog W .any base t v := hval0
  have hgw : GW W := xrp hsh
  have hW' := hW
  obtain ⟨p, q, hA0, hV, rfl, hfz, hnd⟩ := hW
  have hA : DataW.TrodAll enc Tryz.prog W 0 (fun _ => true) true [29, 9, 33, 33] args.toList ds p := hA0
  have hval : ∀ (j : Nat) t v, (#[29, 9, 33, 33] : Array Nat)[j]? = some t → args[j]? = some v → Value.okWide Tryz.prog W .any base t v := hval
  obtain ⟨v0, vs0, d0, ds0, p0, q0, hargs, rfl, rfl, h0, r0⟩ := trodAll_cons hA
  obtain ⟨v1, vs1, d1, ds1, p1, q1, rfl, rfl, rfl, h1, r1⟩ := trodAll_cons r0
  obtain ⟨v2, vs2, d2, ds2, p2, q2, rfl, rfl, rfl, h2, r2⟩ := trodAll_cons r1
  obtain ⟨v3, vs3, d3, ds3, p3, q3, rfl, rfl, rfl, h3, r3⟩ := trodAll_cons r2
  obtain ⟨rfl, rfl, rfl⟩ := trodAll_nil r3
  obtain rfl : args = #[v0, v1, v2, v3] := by cases args; simp_all
  obtain ⟨rfl, rfl⟩ := trodVars_none hV
  have lt0 : ∀ x ∈ p0, x.block < W.heap.size := by obtain ⟨m, hm⟩ := h0; exact DataW.trod_lt m _ _ _ hm
  obtain ⟨cs0, hv0, _⟩ := okWide_struct (xbf xki).choose_spec (hval 0 29 v0 rfl rfl)
  subst hv0
  obtain ⟨x0, w0, o0⟩ := xvo rd_29 (fun _ => rfl) h0
  have lt1 : ∀ x ∈ p1, x.block < W.heap.size := by obtain ⟨m, hm⟩ := h1; exact DataW.trod_lt m _ _ _ hm
  obtain ⟨n1, rfl, rfl, rfl, _⟩ := Go.ChangeMaps.open_string (show Program.underlying Tryz.prog 9 = some .string by kernel_rfl) (hval 1 9 v1 rfl rfl) h1
  obtain ⟨x1, w1, o1⟩ := x5v rd_9 rfl h1
  have lt2 : ∀ x ∈ p2, x.block < W.heap.size := by obtain ⟨m, hm⟩ := h2; exact DataW.trod_lt m _ _ _ hm
  obtain ⟨cs2, hv2, _⟩ := okWide_struct (xbf xri).choose_spec (hval 2 33 v2 rfl rfl)
  subst hv2
  obtain ⟨x2, w2, o2⟩ := xvo rd_33 (fun _ => rfl) h2
  have lt3 : ∀ x ∈ p3, x.block < W.heap.size := by obtain ⟨m, hm⟩ := h3; exact DataW.trod_lt m _ _ _ hm
  obtain ⟨cs3, hv3, _⟩ := okWide_struct (xbf xri).choose_spec (hval 3 33 v3 rfl rfl)
  subst hv3
  obtain ⟨x3, w3, o3⟩ := xvo rd_33 (fun _ => rfl) h3
  have hvr : VReps (Ew W) [xf x0, str x1, xub x2, xub x3] [_, _, _, _] := .cons w0 (.cons w1 (.cons w2 (.cons w3 (.nil))))
  refine (xbu hgw (h x0 x1 x2 x3 o0 o1 o2 o3) hvr).mono fun e W' ⟨he, bel⟩ => ?_
  subst he
  exact ⟨_, rfl, _, _, _, [], _, [], hW', trodAll_mk1 (shut_bool (show Program.underlying Tryz.prog 4 = some .bool by kernel_rfl) _), (trodAll_cons_mk (Below.trod x7f (by kernel_rfl) (of_decide_eq_true (by kernel_rfl)) h0 bel lt0) (trodAll_cons_mk (Below.trod x7f (by kernel_rfl) (of_decide_eq_true (by kernel_rfl)) h1 bel lt1) (trodAll_cons_mk (Below.trod x7f (by kernel_rfl) (of_decide_eq_true (by kernel_rfl)) h2 bel lt2) (trodAll_cons_mk (Below.trod x7f (by kernel_rfl) (of_decide_eq_true (by kernel_rfl)) h3 bel lt3) trodAll_mk0)))), rfl, bel.frame _, fun h => by cases h⟩
theorem xqt (h : ∀ y0 : AL.Stack, ∀ y1 : ByteArray, ∀ y2 : AL.Seen, ∀ y3 : AL.Seen, Stack.fine y0 → (fun s : ByteArray => s.size ≤ maxLen) y1 → Seen.fine y2 → Seen.fine y3 → Ok Tryz.prog 3 [xf y0, str y1, xub y2, xub y3] (bool true)) : Rows.MergeTextsSaid :=
  OpenClaim.holds_of_wide 3 Tryz.f3 rfl rfl rfl rfl rfl rfl rfl ⟨rfl, rfl, rfl, rfl, rfl⟩ rfl rfl rfl rfl rfl (by kernel_rfl) Tryz.func3 (by kernel_rfl)
    (of_decide_eq_true (by kernel_rfl)) (by unfold Func.isWrapper; first | (rw [if_pos (by decide +kernel)]; kernel_rfl) | (rw [if_neg (by decide +kernel)]; exact ⟨rfl, rfl⟩))
    (fun os started H enc _ => xgw h os started H enc)
theorem xwv (hs : Rows.MergeTextsSaid) : Rows.MergeTextsCardSaid :=
  Claim7.holds_tied_plain_at .later [] [.data, .pinned] true (true, "ac9e7c723a4a25d76d06e7e6c1b0b6c7799cba2e1e8ee291859e72b20ac6a31e") false hs (fun _ h => by cases h) (by kernel_rfl) (fun _ h => by cases h) mergeTexts_row_tie rfl ⟨rfl, rfl⟩ (by kernel_rfl) rfl
    (fun f fn hf hfn => by
      obtain rfl : f = 3 := Option.some.inj ((show Tryz.prog.funcNamed "craquelure/craquelurelaw18.MergeTexts" = some 3 by kernel_rfl).symm.trans hf) |>.symm
      obtain rfl : fn = Tryz.f3 := (Option.some.inj (Tryz.func3.symm.trans hfn)).symm
      exact ⟨by kernel_rfl, fun j t ht => by
        have hm : t ∈ [29, 9, 33, 33] := by have := Array.mem_of_getElem? (xs := (#[29, 9, 33, 33] : Array Nat)) (show (#[29, 9, 33, 33] : Array Nat)[j]? = some t from ht); simpa using this
        have hall : ([29, 9, 33, 33].all fun u => !Tryz.prog.wantsStandIn u) = true := by kernel_rfl
        exact (show Tryz.prog.wantsStandIn t = false by simpa using List.all_eq_true.1 hall t hm)⟩)
    (by kernel_rfl)
end Go.Proofs.YtfefidkblgendaaGreatDoor

