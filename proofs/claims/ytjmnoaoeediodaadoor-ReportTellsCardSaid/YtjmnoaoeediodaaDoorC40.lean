/- A law of the given program is proved: part 40 of 47. -/
import Derived.Test.YtjmnoaoeediodaaDoorRows
import Derived.Test.YtjmnoaoeediodaaDoorTie
import Derived.Test.YtjmnoaoeediodaaDoorCards
import Derived.PinnedBridge
import Derived.Lay
import Derived.SevenTiedAt
import Derived.Test.YtjmnoaoeediodaaDoorC39
set_option linter.all false
/- From the contract of the law to the given statement, a tied card: the frame, printed by lawgend.py. -/
set_option linter.all false
namespace Go.Proofs.YtjmnoaoeediodaaDoor
open AL Go Go.RowKit Go.ChangeShapes Go.WideShapes Go.ChangeAt
theorem x3o : ownKnob Tryd.prog.godebug = none := by kernel_rfl
theorem xrl : laidOutB Tryd.prog = true := by kernel_rfl
set_option maxRecDepth 100000 in
theorem x5m (h : ∀ y0 : AL.Report, Report.fine y0 → Ok Tryd.prog 4 [xgb y0] (bool true)) (os : Os) (started : os.Started) (H : Type) (enc : TypeId × Value → H) :
    ReturnsInHanded {} Tryd.checked os 4 .any (fun w args => (Rows.reportTextsSpec.pre enc Tryd.prog Tryd.f4 [] false w args ∧ laidMetH Tryd.prog Rows.reportTextsRow.laid w) ∧ sizedMet enc Tryd.prog Tryd.f4 (OpenSpec.ofChange Rows.reportTextsSpec) false w args) (Rows.reportTextsSpec.post enc Tryd.prog Tryd.f4 false true false false) := by
  refine xue (C := Tryd.checked) (X := fun w _ => laidMetH Tryd.prog Rows.reportTextsRow.laid w) (fun _ _ _ hh h => h.of_heap hh) x3o started (by kernel_rfl) Tryd.func4
    (ChangeSpec.witness_shaped (enc := enc) (C := Tryd.checked) (os := os) (X := fun w _ => laidMetH Tryd.prog Rows.reportTextsRow.laid w) false (World.laidAll Tryd.prog os Rows.reportTextsRow.laid) #[.agg #[.int .i64 0, .slice none 0 0, .slice none 0 0, .slice none 0 0, .int .i64 0, .int .i64 0, .int .i64 0, .bool false]] 8 (World.laidAll_os _ _ _)
      (World.shaped_of_ZipB (by kernel_rfl) (by kernel_rfl)) (by kernel_rfl) (by kernel_rfl) (by kernel_rfl)
      (by rw [MakeChecks.laidMetH_plain _ _ _ (by kernel_rfl)]; exact laidMet_laidAll _ (by kernel_rfl) (by kernel_rfl))) ?_
  intro W base args ds gs before hval0 hW hcnd hwt hL hsh _
  have hval : ∀ (j : Nat) t v, Tryd.f4.params[j]? = some t → args[j]? = some v → Value.okWide Tryd.prog W .any base t v := hval0
  have hgw : GW W := xpg hsh hL
  have hW' := hW
  obtain ⟨p, q, hA0, hV, rfl, hfz, hnd⟩ := hW
  have hA : DataW.TrodAll enc Tryd.prog W 0 (fun _ => true) true [32] args.toList ds p := hA0
  have hval : ∀ (j : Nat) t v, (#[32] : Array Nat)[j]? = some t → args[j]? = some v → Value.okWide Tryd.prog W .any base t v := hval
  obtain ⟨v0, vs0, d0, ds0, p0, q0, hargs, rfl, rfl, h0, r0⟩ := trodAll_cons hA
  obtain ⟨rfl, rfl, rfl⟩ := trodAll_nil r0
  obtain rfl : args = #[v0] := by cases args; simp_all
  obtain ⟨rfl, rfl⟩ := trodVars_none hV
  have lt0 : ∀ x ∈ p0, x.block < W.heap.size := by obtain ⟨m, hm⟩ := h0; exact DataW.trod_lt m _ _ _ hm
  obtain ⟨cs0, hv0, _⟩ := okWide_struct (xre xvg).choose_spec (hval 0 32 v0 rfl rfl)
  subst hv0
  obtain ⟨x0, w0, o0⟩ := xsj rd_32 (fun _ => rfl) h0
  have hvr : VReps (Ew W) [xgb x0] [_] := .cons w0 (.nil)
  refine (xrh hgw (h x0 o0) hvr).mono fun e W' ⟨he, bel⟩ => ?_
  subst he
  exact ⟨_, rfl, _, _, _, [], _, [], hW', trodAll_mk1 (shut_bool (show Program.underlying Tryd.prog 4 = some .bool by kernel_rfl) _), (trodAll_cons_mk (Below.trod xrl (by kernel_rfl) (of_decide_eq_true (by kernel_rfl)) h0 bel lt0) trodAll_mk0), rfl, bel.frame _, fun h => by cases h⟩
theorem xwk (h : ∀ y0 : AL.Report, Report.fine y0 → Ok Tryd.prog 4 [xgb y0] (bool true)) : Rows.ReportTextsSaid :=
  OpenClaim.holds_of_wide 4 Tryd.f4 rfl rfl rfl rfl rfl rfl rfl ⟨rfl, rfl, rfl, rfl, rfl⟩ rfl rfl rfl rfl rfl (by kernel_rfl) Tryd.func4 (by kernel_rfl)
    (of_decide_eq_true (by kernel_rfl)) (by unfold Func.isWrapper; first | (rw [if_pos (by decide +kernel)]; kernel_rfl) | (rw [if_neg (by decide +kernel)]; exact ⟨rfl, rfl⟩))
    (fun os started H enc _ => x5m h os started H enc)
theorem xll (hs : Rows.ReportTextsSaid) : Rows.ReportTextsCardSaid :=
  Claim7.holds_tied_plain_at .later [] [.data, .data, .data, .data, .sentinel, .sentinel, .listed, .data, .pinned] true (true, "1cccac921840daa4a4c134b0506586e6111335d761ad2c5ba779081d6d16dfbb") true hs (fun _ h => by cases h) (by kernel_rfl) (fun _ h => by cases h) reportTexts_row_tie rfl ⟨rfl, rfl⟩ (by kernel_rfl) rfl
    (fun f fn hf hfn => by
      obtain rfl : f = 4 := Option.some.inj ((show Tryd.prog.funcNamed "craquelure/craquelurelaw37.ReportTexts" = some 4 by kernel_rfl).symm.trans hf) |>.symm
      obtain rfl : fn = Tryd.f4 := (Option.some.inj (Tryd.func4.symm.trans hfn)).symm
      exact ⟨by kernel_rfl, fun j t ht => by
        have hm : t ∈ [32] := by have := Array.mem_of_getElem? (xs := (#[32] : Array Nat)) (show (#[32] : Array Nat)[j]? = some t from ht); simpa using this
        have hall : ([32].all fun u => !Tryd.prog.wantsStandIn u) = true := by kernel_rfl
        exact (show Tryd.prog.wantsStandIn t = false by simpa using List.all_eq_true.1 hall t hm)⟩)
    (by kernel_rfl)
end Go.Proofs.YtjmnoaoeediodaaDoor

/- Any report as text is what the document says. -/
namespace Go.Proofs.YtjmnoaoeediodaaDoor
theorem AL.fine_rep {r : AL.Report} (h : r.fine) : (AL.i64 r.code ∧ AL.i64 r.passes ∧ AL.i64 r.trans ∧ AL.i64 r.writes) ∧ (∀ f ∈ r.found, AL.f64 f) ∧ (∀ f ∈ r.done, AL.f64 f) ∧ (∀ f ∈ r.left, AL.f64 f) := by
  obtain ⟨h1, h2, h3, h4, h5, h6, h7, h8⟩ := h
  exact ⟨⟨h1, h5, h6, h7⟩, fun f hf => h2.2 f hf, fun f hf => h3.2 f hf, fun f hf => h4.2 f hf⟩
theorem reportTexts_holds : Rows.ReportTextsCardSaid := xll (xwk fun r h => AL.xsu r true (AL.xj0 (AL.fine_rep h).1 (AL.fine_rep h).2.1 (AL.fine_rep h).2.2.1 (AL.fine_rep h).2.2.2))
#print axioms reportTexts_holds
end Go.Proofs.YtjmnoaoeediodaaDoor

/- Both laws of chapter 37. -/
