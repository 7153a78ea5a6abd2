/- What of the attributes of any stack, and of any node, may not be, is what the document says: part 29 of 50. -/
import Derived.Test.YtapdjibjnfeipaaGreatDoorRows
import Derived.Test.YtapdjibjnfeipaaGreatDoorTie
import Derived.Test.YtapdjibjnfeipaaGreatDoorCards
import Derived.PinnedBridge
import Derived.Lay
import Derived.SevenTiedAt
import Derived.Test.YtapdjibjnfeipaaGreatDoorB28
set_option linter.all false
/- From the contract of the law to the given statement, a tied card: the frame, printed by lawgend.py. -/
set_option linter.all false
namespace Go.Proofs.YtapdjibjnfeipaaGreatDoor
open AL Go Go.RowKit Go.ChangeShapes Go.WideShapes Go.ChangeAt
theorem own_viewTrees : ownKnob Tryz.prog.godebug = none := by kernel_rfl
theorem laidOut_viewTrees : laidOutB Tryz.prog = true := by kernel_rfl
set_option maxRecDepth 100000 in
theorem lifted_viewTrees (h : ∀ y0 : AL.Stack, Stack.fine y0 → Ok Tryz.prog 7 [encStack y0] (bool true)) (os : Os) (started : os.Started) (H : Type) (enc : TypeId × Value → H) :
    ReturnsInHanded {} Tryz.checked os 7 .any (fun w args => (Rows.viewTreesSpec.pre enc Tryz.prog Tryz.f7 [] false w args ∧ laidMetH Tryz.prog Rows.viewTreesRow.laid w) ∧ sizedMet enc Tryz.prog Tryz.f7 (OpenSpec.ofChange Rows.viewTreesSpec) false w args) (Rows.viewTreesSpec.post enc Tryz.prog Tryz.f7 false true false false) := by
  refine returns_shaped (C := Tryz.checked) (X := fun w _ => laidMetH Tryz.prog Rows.viewTreesRow.laid w) (fun _ _ _ hh h => h.of_heap hh) own_viewTrees started (by kernel_rfl) Tryz.func7
    (ChangeSpec.witness_shaped (enc := enc) (C := Tryz.checked) (os := os) (X := fun w _ => laidMetH Tryz.prog Rows.viewTreesRow.laid w) false (World.laidAll Tryz.prog os Rows.viewTreesRow.laid) #[.agg #[.int .i64 0, .int .i64 0, .int .i64 0, .int .i64 0, .slice none 0 0, .slice none 0 0]] 8 (World.laidAll_os _ _ _)
      (World.shaped_of_ZipB (by kernel_rfl) (by kernel_rfl)) (by kernel_rfl) (by kernel_rfl) (by kernel_rfl)
      (by rw [MakeChecks.laidMetH_plain _ _ _ (by kernel_rfl)]; exact laidMet_laidAll _ (by kernel_rfl) (by kernel_rfl))) ?_
  intro W base args ds gs before hval0 hW hcnd hwt hL hsh _
  have hval : ∀ (j : Nat) t v, Tryz.f7.params[j]? = some t → args[j]? = some v → Value.okWide Tryz.prog W .any base t v := hval0
  have hgw : GW W := gw_of_shaped hsh
  have hW' := hW
  obtain ⟨p, q, hA0, hV, rfl, hfz, hnd⟩ := hW
  have hA : DataW.TrodAll enc Tryz.prog W 0 (fun _ => true) true [29] args.toList ds p := hA0
  have hval : ∀ (j : Nat) t v, (#[29] : Array Nat)[j]? = some t → args[j]? = some v → Value.okWide Tryz.prog W .any base t v := hval
  obtain ⟨v0, vs0, d0, ds0, p0, q0, hargs, rfl, rfl, h0, r0⟩ := trodAll_cons hA
  obtain ⟨rfl, rfl, rfl⟩ := trodAll_nil r0
  obtain rfl : args = #[v0] := by cases args; simp_all
  obtain ⟨rfl, rfl⟩ := trodVars_none hV
  have lt0 : ∀ x ∈ p0, x.block < W.heap.size := by obtain ⟨m, hm⟩ := h0; exact DataW.trod_lt m _ _ _ hm
  obtain ⟨cs0, hv0, _⟩ := okWide_struct (fieldOf_struct fieldOf_29_0).choose_spec (hval 0 29 v0 rfl rfl)
  subst hv0
  obtain ⟨x0, w0, o0⟩ := arg_agg rd_29 (fun _ => rfl) h0
  have hvr : VReps (Ew W) [encStack x0] [_] := .cons w0 (.nil)
  refine (law_of_ok hgw (h x0 o0) hvr).mono fun e W' ⟨he, bel⟩ => ?_
  subst he
  exact ⟨_, rfl, _, _, _, [], _, [], hW', trodAll_mk1 (shut_bool (show Program.underlying Tryz.prog 4 = some .bool by kernel_rfl) _), (trodAll_cons_mk (Below.trod laidOut_viewTrees (by kernel_rfl) (of_decide_eq_true (by kernel_rfl)) h0 bel lt0) trodAll_mk0), rfl, bel.frame _, fun h => by cases h⟩
theorem holds_viewTrees_of (h : ∀ y0 : AL.Stack, Stack.fine y0 → Ok Tryz.prog 7 [encStack y0] (bool true)) : Rows.ViewTreesSaid :=
  OpenClaim.holds_of_wide 7 Tryz.f7 rfl rfl rfl rfl rfl rfl rfl ⟨rfl, rfl, rfl, rfl, rfl⟩ rfl rfl rfl rfl rfl (by kernel_rfl) Tryz.func7 (by kernel_rfl)
    (of_decide_eq_true (by kernel_rfl)) (by unfold Func.isWrapper; first | (rw [if_pos (by decide +kernel)]; kernel_rfl) | (rw [if_neg (by decide +kernel)]; exact ⟨rfl, rfl⟩))
    (fun os started H enc _ => lifted_viewTrees h os started H enc)
theorem card_viewTrees_of (hs : Rows.ViewTreesSaid) : Rows.ViewTreesCardSaid :=
  Claim7.holds_tied_plain_at .later [] [.data, .pinned] true (true, "00992b585e09c9b88c0b9bfe0b254b3f5194d5cfff237f70ef1a4be4fb469924") false hs (fun _ h => by cases h) (by kernel_rfl) (fun _ h => by cases h) viewTrees_row_tie rfl ⟨rfl, rfl⟩ (by kernel_rfl) rfl
    (fun f fn hf hfn => by
      obtain rfl : f = 7 := Option.some.inj ((show Tryz.prog.funcNamed "craquelure/craquelurelaw17.ViewTrees" = some 7 by kernel_rfl).symm.trans hf) |>.symm
      obtain rfl : fn = Tryz.f7 := (Option.some.inj (Tryz.func7.symm.trans hfn)).symm
      exact ⟨by kernel_rfl, fun j t ht => by
        have hm : t ∈ [29] := by have := Array.mem_of_getElem? (xs := (#[29] : Array Nat)) (show (#[29] : Array Nat)[j]? = some t from ht); simpa using this
        have hall : ([29].all fun u => !Tryz.prog.wantsStandIn u) = true := by kernel_rfl
        exact (show Tryz.prog.wantsStandIn t = false by simpa using List.all_eq_true.1 hall t hm)⟩)
    (by kernel_rfl)
end Go.Proofs.YtapdjibjnfeipaaGreatDoor

