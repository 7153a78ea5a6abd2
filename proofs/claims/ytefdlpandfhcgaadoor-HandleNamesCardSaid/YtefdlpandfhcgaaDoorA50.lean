/- A law of the given program is proved: part 50 of 50. -/
import Derived.Test.YtefdlpandfhcgaaDoorRows
import Derived.Test.YtefdlpandfhcgaaDoorTie
import Derived.Test.YtefdlpandfhcgaaDoorCards
import Derived.PinnedBridge
import Derived.Lay
import Derived.SevenTiedAt
import Derived.Test.YtefdlpandfhcgaaDoorA49
set_option linter.all false
/- From the contract of the law to the given statement, a tied card: the frame, printed by lawgend.py. -/
set_option linter.all false
namespace Go.Proofs.YtefdlpandfhcgaaDoor
open AL Go Go.RowKit Go.ChangeShapes Go.WideShapes Go.ChangeAt
theorem xbn : ownKnob Tryd.prog.godebug = none := by kernel_rfl
theorem x3e : laidOutB Tryd.prog = true := by kernel_rfl
set_option maxRecDepth 100000 in
theorem xjk (h : ∀ y0 : AL.Stack, ∀ y1 : AL.Origin, ∀ y2 : AL.Origin, Stack.fine y0 → Origin.fine y1 → Origin.fine y2 → Ok Tryd.prog 4 [xtb y0, xd y1, xd y2] (bool true)) (os : Os) (started : os.Started) (H : Type) (enc : TypeId × Value → H) :
    ReturnsInHanded {} Tryd.checked os 4 .any (fun w args => (Rows.handleFindsSpec.pre enc Tryd.prog Tryd.f4 [] false w args ∧ laidMetH Tryd.prog Rows.handleFindsRow.laid w) ∧ sizedMet enc Tryd.prog Tryd.f4 (OpenSpec.ofChange Rows.handleFindsSpec) false w args) (Rows.handleFindsSpec.post enc Tryd.prog Tryd.f4 false true false false) := by
  refine xpi (C := Tryd.checked) (X := fun w _ => laidMetH Tryd.prog Rows.handleFindsRow.laid w) (fun _ _ _ hh h => h.of_heap hh) xbn started (by kernel_rfl) Tryd.func4
    (ChangeSpec.witness_shaped (enc := enc) (C := Tryd.checked) (os := os) (X := fun w _ => laidMetH Tryd.prog Rows.handleFindsRow.laid w) false (World.laidAll Tryd.prog os Rows.handleFindsRow.laid) #[.agg #[.int .i64 0, .int .i64 0, .int .i64 0, .int .i64 0, .slice none 0 0, .slice none 0 0], .agg #[.int .i64 0, .int .i64 0, .int .i64 0], .agg #[.int .i64 0, .int .i64 0, .int .i64 0]] 8 (World.laidAll_os _ _ _)
      (World.shaped_of_ZipB (by kernel_rfl) (by kernel_rfl)) (by kernel_rfl) (by kernel_rfl) (by kernel_rfl)
      (by rw [MakeChecks.laidMetH_plain _ _ _ (by kernel_rfl)]; exact laidMet_laidAll _ (by kernel_rfl) (by kernel_rfl))) ?_
  intro W base args ds gs before hval0 hW hcnd hwt hL hsh _
  have hval : ∀ (j : Nat) t v, Tryd.f4.params[j]? = some t → args[j]? = some v → Value.okWide Tryd.prog W .any base t v := hval0
  have hgw : GW W := x3m hsh hL
  have hW' := hW
  obtain ⟨p, q, hA0, hV, rfl, hfz, hnd⟩ := hW
  have hA : DataW.TrodAll enc Tryd.prog W 0 (fun _ => true) true [37, 23, 23] args.toList ds p := hA0
  have hval : ∀ (j : Nat) t v, (#[37, 23, 23] : Array Nat)[j]? = some t → args[j]? = some v → Value.okWide Tryd.prog W .any base t v := hval
  obtain ⟨v0, vs0, d0, ds0, p0, q0, hargs, rfl, rfl, h0, r0⟩ := trodAll_cons hA
  obtain ⟨v1, vs1, d1, ds1, p1, q1, rfl, rfl, rfl, h1, r1⟩ := trodAll_cons r0
  obtain ⟨v2, vs2, d2, ds2, p2, q2, rfl, rfl, rfl, h2, r2⟩ := trodAll_cons r1
  obtain ⟨rfl, rfl, rfl⟩ := trodAll_nil r2
  obtain rfl : args = #[v0, v1, v2] := by cases args; simp_all
  obtain ⟨rfl, rfl⟩ := trodVars_none hV
  have lt0 : ∀ x ∈ p0, x.block < W.heap.size := by obtain ⟨m, hm⟩ := h0; exact DataW.trod_lt m _ _ _ hm
  obtain ⟨cs0, hv0, _⟩ := okWide_struct (xsf xrh).choose_spec (hval 0 37 v0 rfl rfl)
  subst hv0
  obtain ⟨x0, w0, o0⟩ := xfl rd_37 (fun _ => rfl) h0
  have lt1 : ∀ x ∈ p1, x.block < W.heap.size := by obtain ⟨m, hm⟩ := h1; exact DataW.trod_lt m _ _ _ hm
  obtain ⟨cs1, hv1, _⟩ := okWide_struct (xsf x0d).choose_spec (hval 1 23 v1 rfl rfl)
  subst hv1
  obtain ⟨x1, w1, o1⟩ := xfl rd_23 (fun _ => rfl) h1
  have lt2 : ∀ x ∈ p2, x.block < W.heap.size := by obtain ⟨m, hm⟩ := h2; exact DataW.trod_lt m _ _ _ hm
  obtain ⟨cs2, hv2, _⟩ := okWide_struct (xsf x0d).choose_spec (hval 2 23 v2 rfl rfl)
  subst hv2
  obtain ⟨x2, w2, o2⟩ := xfl rd_23 (fun _ => rfl) h2
  have hvr : VReps (Ew W) [xtb x0, xd x1, xd x2] [_, _, _] := .cons w0 (.cons w1 (.cons w2 (.nil)))
  refine (xyo hgw (h x0 x1 x2 o0 o1 o2) hvr).mono fun e W' ⟨he, bel⟩ => ?_
  subst he
  exact ⟨_, rfl, _, _, _, [], _, [], hW', trodAll_mk1 (shut_bool (show Program.underlying Tryd.prog 4 = some .bool by kernel_rfl) _), (trodAll_cons_mk (Below.trod x3e (by kernel_rfl) (of_decide_eq_true (by kernel_rfl)) h0 bel lt0) (trodAll_cons_mk (Below.trod x3e (by kernel_rfl) (of_decide_eq_true (by kernel_rfl)) h1 bel lt1) (trodAll_cons_mk (Below.trod x3e (by kernel_rfl) (of_decide_eq_true (by kernel_rfl)) h2 bel lt2) trodAll_mk0))), rfl, bel.frame _, fun h => by cases h⟩
theorem xej (h : ∀ y0 : AL.Stack, ∀ y1 : AL.Origin, ∀ y2 : AL.Origin, Stack.fine y0 → Origin.fine y1 → Origin.fine y2 → Ok Tryd.prog 4 [xtb y0, xd y1, xd y2] (bool true)) : Rows.HandleFindsSaid :=
  OpenClaim.holds_of_wide 4 Tryd.f4 rfl rfl rfl rfl rfl rfl rfl ⟨rfl, rfl, rfl, rfl, rfl⟩ rfl rfl rfl rfl rfl (by kernel_rfl) Tryd.func4 (by kernel_rfl)
    (of_decide_eq_true (by kernel_rfl)) (by unfold Func.isWrapper; first | (rw [if_pos (by decide +kernel)]; kernel_rfl) | (rw [if_neg (by decide +kernel)]; exact ⟨rfl, rfl⟩))
    (fun os started H enc _ => xjk h os started H enc)
theorem x5j (hs : Rows.HandleFindsSaid) : Rows.HandleFindsCardSaid :=
  Claim7.holds_tied_plain_at .later [] [.data, .data, .data, .sentinel, .sentinel] true (true, "7c629f0a2ed143e31e9c962ae7ba558ec4fd42653a63570381b64513c14dd788") true hs (fun _ h => by cases h) (by kernel_rfl) (fun _ h => by cases h) handleFinds_row_tie rfl ⟨rfl, rfl⟩ (by kernel_rfl) rfl
    (fun f fn hf hfn => by
      obtain rfl : f = 4 := Option.some.inj ((show Tryd.prog.funcNamed "craquelure/craquelurelaw15.HandleFinds" = some 4 by kernel_rfl).symm.trans hf) |>.symm
      obtain rfl : fn = Tryd.f4 := (Option.some.inj (Tryd.func4.symm.trans hfn)).symm
      exact ⟨by kernel_rfl, fun j t ht => by
        have hm : t ∈ [37, 23, 23] := by have := Array.mem_of_getElem? (xs := (#[37, 23, 23] : Array Nat)) (show (#[37, 23, 23] : Array Nat)[j]? = some t from ht); simpa using this
        have hall : ([37, 23, 23].all fun u => !Tryd.prog.wantsStandIn u) = true := by kernel_rfl
        exact (show Tryd.prog.wantsStandIn t = false by simpa using List.all_eq_true.1 hall t hm)⟩)
    (by kernel_rfl)
end Go.Proofs.YtefdlpandfhcgaaDoor

/- The node that any handle tells, of any stack, is what the document says. -/
namespace Go.Proofs.YtefdlpandfhcgaaDoor
theorem handleFinds_holds : Rows.HandleFindsCardSaid := x5j (xej fun s o p _ _ _ => AL.xqt s o p true (AL.x1y s o p))
#print axioms handleFinds_holds
end Go.Proofs.YtefdlpandfhcgaaDoor

/- Both laws of chapter 15. -/
