/- A law of the given program is proved: part 41 of 47. -/
import Derived.Test.YtjmnoaoeediodaaDoorRows
import Derived.Test.YtjmnoaoeediodaaDoorTie
import Derived.Test.YtjmnoaoeediodaaDoorCards
import Derived.PinnedBridge
import Derived.Lay
import Derived.SevenTiedAt
import Derived.Test.YtjmnoaoeediodaaDoorC40
set_option linter.all false
/- From the contract of the law to the given statement, a tied card: the frame, printed by lawgend.py. -/
set_option linter.all false
namespace Go.Proofs.YtjmnoaoeediodaaDoor
open AL Go Go.RowKit Go.ChangeShapes Go.WideShapes Go.ChangeAt
theorem xuo : ownKnob Tryd.prog.godebug = none := by kernel_rfl
theorem x8g : laidOutB Tryd.prog = true := by kernel_rfl
set_option maxRecDepth 100000 in
theorem xzm (h : ∀ y0 : AL.Answer, ∀ y1 : AL.Script, Answer.fine y0 → Script.fine y1 → Ok Tryd.prog 5 [xc y0, xl y1] (bool true)) (os : Os) (started : os.Started) (H : Type) (enc : TypeId × Value → H) :
    ReturnsInHanded {} Tryd.checked os 5 .any (fun w args => (Rows.scriptTellsSpec.pre enc Tryd.prog Tryd.f5 [] false w args ∧ laidMetH Tryd.prog Rows.scriptTellsRow.laid w) ∧ sizedMet enc Tryd.prog Tryd.f5 (OpenSpec.ofChange Rows.scriptTellsSpec) false w args) (Rows.scriptTellsSpec.post enc Tryd.prog Tryd.f5 false true false false) := by
  refine xue (C := Tryd.checked) (X := fun w _ => laidMetH Tryd.prog Rows.scriptTellsRow.laid w) (fun _ _ _ hh h => h.of_heap hh) xuo started (by kernel_rfl) Tryd.func5
    (ChangeSpec.witness_shaped (enc := enc) (C := Tryd.checked) (os := os) (X := fun w _ => laidMetH Tryd.prog Rows.scriptTellsRow.laid w) false (World.laidAll Tryd.prog os Rows.scriptTellsRow.laid) #[.agg #[.int .i64 0, .int .i64 0, .int .i64 0, .bool false], .agg #[.int .i64 0, .slice none 0 0, .bool false]] 8 (World.laidAll_os _ _ _)
      (World.shaped_of_ZipB (by kernel_rfl) (by kernel_rfl)) (by kernel_rfl) (by kernel_rfl) (by kernel_rfl)
      (by rw [MakeChecks.laidMetH_plain _ _ _ (by kernel_rfl)]; exact laidMet_laidAll _ (by kernel_rfl) (by kernel_rfl))) ?_
  intro W base args ds gs before hval0 hW hcnd hwt hL hsh _
  have hval : ∀ (j : Nat) t v, Tryd.f5.params[j]? = some t → args[j]? = some v → Value.okWide Tryd.prog W .any base t v := hval0
  have hgw : GW W := xpg hsh hL
  have hW' := hW
  obtain ⟨p, q, hA0, hV, rfl, hfz, hnd⟩ := hW
  have hA : DataW.TrodAll enc Tryd.prog W 0 (fun _ => true) true [36, 39] args.toList ds p := hA0
  have hval : ∀ (j : Nat) t v, (#[36, 39] : Array Nat)[j]? = some t → args[j]? = some v → Value.okWide Tryd.prog W .any base t v := hval
  obtain ⟨v0, vs0, d0, ds0, p0, q0, hargs, rfl, rfl, h0, r0⟩ := trodAll_cons hA
  obtain ⟨v1, vs1, d1, ds1, p1, q1, rfl, rfl, rfl, h1, r1⟩ := trodAll_cons r0
  obtain ⟨rfl, rfl, rfl⟩ := trodAll_nil r1
  obtain rfl : args = #[v0, v1] := by cases args; simp_all
  obtain ⟨rfl, rfl⟩ := trodVars_none hV
  have lt0 : ∀ x ∈ p0, x.block < W.heap.size := by obtain ⟨m, hm⟩ := h0; exact DataW.trod_lt m _ _ _ hm
  obtain ⟨cs0, hv0, _⟩ := okWide_struct (xre xsg).choose_spec (hval 0 36 v0 rfl rfl)
  subst hv0
  obtain ⟨x0, w0, o0⟩ := xsj rd_36 (fun _ => rfl) h0
  have lt1 : ∀ x ∈ p1, x.block < W.heap.size := by obtain ⟨m, hm⟩ := h1; exact DataW.trod_lt m _ _ _ hm
  obtain ⟨cs1, hv1, _⟩ := okWide_struct (xre xhf).choose_spec (hval 1 39 v1 rfl rfl)
  subst hv1
  obtain ⟨x1, w1, o1⟩ := xsj rd_39 (fun _ => rfl) h1
  have hvr : VReps (Ew W) [xc x0, xl x1] [_, _] := .cons w0 (.cons w1 (.nil))
  refine (xrh hgw (h x0 x1 o0 o1) hvr).mono fun e W' ⟨he, bel⟩ => ?_
  subst he
  exact ⟨_, rfl, _, _, _, [], _, [], hW', trodAll_mk1 (shut_bool (show Program.underlying Tryd.prog 4 = some .bool by kernel_rfl) _), (trodAll_cons_mk (Below.trod x8g (by kernel_rfl) (of_decide_eq_true (by kernel_rfl)) h0 bel lt0) (trodAll_cons_mk (Below.trod x8g (by kernel_rfl) (of_decide_eq_true (by kernel_rfl)) h1 bel lt1) trodAll_mk0)), rfl, bel.frame _, fun h => by cases h⟩
theorem xek (h : ∀ y0 : AL.Answer, ∀ y1 : AL.Script, Answer.fine y0 → Script.fine y1 → Ok Tryd.prog 5 [xc y0, xl y1] (bool true)) : Rows.ScriptTellsSaid :=
  OpenClaim.holds_of_wide 5 Tryd.f5 rfl rfl rfl rfl rfl rfl rfl ⟨rfl, rfl, rfl, rfl, rfl⟩ rfl rfl rfl rfl rfl (by kernel_rfl) Tryd.func5 (by kernel_rfl)
    (of_decide_eq_true (by kernel_rfl)) (by unfold Func.isWrapper; first | (rw [if_pos (by decide +kernel)]; kernel_rfl) | (rw [if_neg (by decide +kernel)]; exact ⟨rfl, rfl⟩))
    (fun os started H enc _ => xzm h os started H enc)
theorem xml (hs : Rows.ScriptTellsSaid) : Rows.ScriptTellsCardSaid :=
  Claim7.holds_tied_plain_at .later [] [.data, .data, .data, .data, .sentinel, .sentinel, .listed, .data, .pinned] true (true, "1cccac921840daa4a4c134b0506586e6111335d761ad2c5ba779081d6d16dfbb") true hs (fun _ h => by cases h) (by kernel_rfl) (fun _ h => by cases h) scriptTells_row_tie rfl ⟨rfl, rfl⟩ (by kernel_rfl) rfl
    (fun f fn hf hfn => by
      obtain rfl : f = 5 := Option.some.inj ((show Tryd.prog.funcNamed "craquelure/craquelurelaw43.ScriptTells" = some 5 by kernel_rfl).symm.trans hf) |>.symm
      obtain rfl : fn = Tryd.f5 := (Option.some.inj (Tryd.func5.symm.trans hfn)).symm
      exact ⟨by kernel_rfl, fun j t ht => by
        have hm : t ∈ [36, 39] := by have := Array.mem_of_getElem? (xs := (#[36, 39] : Array Nat)) (show (#[36, 39] : Array Nat)[j]? = some t from ht); simpa using this
        have hall : ([36, 39].all fun u => !Tryd.prog.wantsStandIn u) = true := by kernel_rfl
        exact (show Tryd.prog.wantsStandIn t = false by simpa using List.all_eq_true.1 hall t hm)⟩)
    (by kernel_rfl)
end Go.Proofs.YtjmnoaoeediodaaDoor

