/- What any node of any stack should say of copies, and which say otherwise, is what the document says: part 51 of 52. -/
import Derived.Test.YtapdjibjnfeipaaGreatDoorRows
import Derived.Test.YtapdjibjnfeipaaGreatDoorTie
import Derived.Test.YtapdjibjnfeipaaGreatDoorCards
import Derived.PinnedBridge
import Derived.Lay
import Derived.SevenTiedAt
import Derived.Test.YtapdjibjnfeipaaGreatDoorA50
set_option linter.all false
/- From the contract of the law to the given statement, a tied card: the frame, printed by lawgend.py. -/
set_option linter.all false
namespace Go.Proofs.YtapdjibjnfeipaaGreatDoor
open AL Go Go.RowKit Go.ChangeShapes Go.WideShapes Go.ChangeAt
theorem x40 : ownKnob Tryz.prog.godebug = none := by kernel_rfl
theorem xyn : laidOutB Tryz.prog = true := by kernel_rfl
set_option maxRecDepth 100000 in
theorem x9w (h : ∀ y0 : AL.Stack, ∀ y1 : ByteArray, Stack.fine y0 → (fun s : ByteArray => s.size ≤ maxLen) y1 → Ok Tryz.prog 5 [xe y0, str y1] (bool true)) (os : Os) (started : os.Started) (H : Type) (enc : TypeId × Value → H) :
    ReturnsInHanded {} Tryz.checked os 5 .any (fun w args => (Rows.viewNamesSpec.pre enc Tryz.prog Tryz.f5 [] false w args ∧ laidMetH Tryz.prog Rows.viewNamesRow.laid w) ∧ sizedMet enc Tryz.prog Tryz.f5 (OpenSpec.ofChange Rows.viewNamesSpec) false w args) (Rows.viewNamesSpec.post enc Tryz.prog Tryz.f5 false true false false) := by
  refine xgr (C := Tryz.checked) (X := fun w _ => laidMetH Tryz.prog Rows.viewNamesRow.laid w) (fun _ _ _ hh h => h.of_heap hh) x40 started (by kernel_rfl) Tryz.func5
    (ChangeSpec.witness_shaped (enc := enc) (C := Tryz.checked) (os := os) (X := fun w _ => laidMetH Tryz.prog Rows.viewNamesRow.laid w) false (World.laidAll Tryz.prog os Rows.viewNamesRow.laid) #[.agg #[.int .i64 0, .int .i64 0, .int .i64 0, .int .i64 0, .slice none 0 0, .slice none 0 0], .string ⟨#[]⟩] 8 (World.laidAll_os _ _ _)
      (World.shaped_of_ZipB (by kernel_rfl) (by kernel_rfl)) (by kernel_rfl) (by kernel_rfl) (by kernel_rfl)
      (by rw [MakeChecks.laidMetH_plain _ _ _ (by kernel_rfl)]; exact laidMet_laidAll _ (by kernel_rfl) (by kernel_rfl))) ?_
  intro W base args ds gs before hval0 hW hcnd hwt hL hsh _
  have hval : ∀ (j : Nat) t v, Tryz.f5.params[j]? = some t → args[j]? = some v → Value.okWide Tryz.prog W .any base t v := hval0
  have hgw : GW W := x0u hsh
  have hW' := hW
  obtain ⟨p, q, hA0, hV, rfl, hfz, hnd⟩ := hW
  have hA : DataW.TrodAll enc Tryz.prog W 0 (fun _ => true) true [29, 9] args.toList ds p := hA0
  have hval : ∀ (j : Nat) t v, (#[29, 9] : Array Nat)[j]? = some t → args[j]? = some v → Value.okWide Tryz.prog W .any base t v := hval
  obtain ⟨v0, vs0, d0, ds0, p0, q0, hargs, rfl, rfl, h0, r0⟩ := trodAll_cons hA
  obtain ⟨v1, vs1, d1, ds1, p1, q1, rfl, rfl, rfl, h1, r1⟩ := trodAll_cons r0
  obtain ⟨rfl, rfl, rfl⟩ := trodAll_nil r1
  obtain rfl : args = #[v0, v1] := by cases args; simp_all
  obtain ⟨rfl, rfl⟩ := trodVars_none hV
  have lt0 : ∀ x ∈ p0, x.block < W.heap.size := by obtain ⟨m, hm⟩ := h0; exact DataW.trod_lt m _ _ _ hm
  obtain ⟨cs0, hv0, _⟩ := okWide_struct (xcm xhl).choose_spec (hval 0 29 v0 rfl rfl)
  subst hv0
  obtain ⟨x0, w0, o0⟩ := xry rd_29 (fun _ => rfl) h0
  have lt1 : ∀ x ∈ p1, x.block < W.heap.size := by obtain ⟨m, hm⟩ := h1; exact DataW.trod_lt m _ _ _ hm
  obtain ⟨n1, rfl, rfl, rfl, _⟩ := Go.ChangeMaps.open_string (show Program.underlying Tryz.prog 9 = some .string by kernel_rfl) (hval 1 9 v1 rfl rfl) h1
  obtain ⟨x1, w1, o1⟩ := xrz rd_9 rfl h1
  have hvr : VReps (Ew W) [xe x0, str x1] [_, _] := .cons w0 (.cons w1 (.nil))
  refine (xk0 hgw (h x0 x1 o0 o1) hvr).mono fun e W' ⟨he, bel⟩ => ?_
  subst he
  exact ⟨_, rfl, _, _, _, [], _, [], hW', trodAll_mk1 (shut_bool (show Program.underlying Tryz.prog 4 = some .bool by kernel_rfl) _), (trodAll_cons_mk (Below.trod xyn (by kernel_rfl) (of_decide_eq_true (by kernel_rfl)) h0 bel lt0) (trodAll_cons_mk (Below.trod xyn (by kernel_rfl) (of_decide_eq_true (by kernel_rfl)) h1 bel lt1) trodAll_mk0)), rfl, bel.frame _, fun h => by cases h⟩
theorem xxu (h : ∀ y0 : AL.Stack, ∀ y1 : ByteArray, Stack.fine y0 → (fun s : ByteArray => s.size ≤ maxLen) y1 → Ok Tryz.prog 5 [xe y0, str y1] (bool true)) : Rows.ViewNamesSaid :=
  OpenClaim.holds_of_wide 5 Tryz.f5 rfl rfl rfl rfl rfl rfl rfl ⟨rfl, rfl, rfl, rfl, rfl⟩ rfl rfl rfl rfl rfl (by kernel_rfl) Tryz.func5 (by kernel_rfl)
    (of_decide_eq_true (by kernel_rfl)) (by unfold Func.isWrapper; first | (rw [if_pos (by decide +kernel)]; kernel_rfl) | (rw [if_neg (by decide +kernel)]; exact ⟨rfl, rfl⟩))
    (fun os started H enc _ => x9w h os started H enc)
theorem xmv (hs : Rows.ViewNamesSaid) : Rows.ViewNamesCardSaid :=
  Claim7.holds_tied_plain_at .later [] [.data, .pinned] true (true, "00992b585e09c9b88c0b9bfe0b254b3f5194d5cfff237f70ef1a4be4fb469924") false hs (fun _ h => by cases h) (by kernel_rfl) (fun _ h => by cases h) viewNames_row_tie rfl ⟨rfl, rfl⟩ (by kernel_rfl) rfl
    (fun f fn hf hfn => by
      obtain rfl : f = 5 := Option.some.inj ((show Tryz.prog.funcNamed "craquelure/craquelurelaw17.ViewNames" = some 5 by kernel_rfl).symm.trans hf) |>.symm
      obtain rfl : fn = Tryz.f5 := (Option.some.inj (Tryz.func5.symm.trans hfn)).symm
      exact ⟨by kernel_rfl, fun j t ht => by
        have hm : t ∈ [29, 9] := by have := Array.mem_of_getElem? (xs := (#[29, 9] : Array Nat)) (show (#[29, 9] : Array Nat)[j]? = some t from ht); simpa using this
        have hall : ([29, 9].all fun u => !Tryz.prog.wantsStandIn u) = true := by kernel_rfl
        exact (show Tryz.prog.wantsStandIn t = false by simpa using List.all_eq_true.1 hall t hm)⟩)
    (by kernel_rfl)
end Go.Proofs.YtapdjibjnfeipaaGreatDoor

/- All names that are told show something, and others do not; a name that no upper entry has shows what is beneath: for every stack and name. -/
namespace Go.Proofs.YtapdjibjnfeipaaGreatDoor
theorem viewNames_holds : Rows.ViewNamesCardSaid := xmv (xxu fun s nm _ _ => AL.x3db s nm)
#print axioms viewNames_holds
end Go.Proofs.YtapdjibjnfeipaaGreatDoor

