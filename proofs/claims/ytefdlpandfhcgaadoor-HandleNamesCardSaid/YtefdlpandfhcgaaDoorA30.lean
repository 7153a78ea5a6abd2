/- A law of the given program is proved: part 30 of 50. -/
import Derived.Test.YtefdlpandfhcgaaDoorRows
import Derived.Test.YtefdlpandfhcgaaDoorTie
import Derived.Test.YtefdlpandfhcgaaDoorCards
import Derived.PinnedBridge
import Derived.Lay
import Derived.SevenTiedAt
import Derived.Lib.SplitLaws
import Derived.Lib.IndexMore
import Derived.Test.YtefdlpandfhcgaaDoorA29
set_option linter.all false
/- From the contract of the law to the given statement, a tied card: the frame, printed by lawgend.py. -/
set_option linter.all false
namespace Go.Proofs.YtefdlpandfhcgaaDoor
open AL Go Go.RowKit Go.ChangeShapes Go.WideShapes Go.ChangeAt
theorem xan : ownKnob Tryd.prog.godebug = none := by kernel_rfl
theorem xlg : laidOutB Tryd.prog = true := by kernel_rfl
set_option maxRecDepth 100000 in
theorem xnk (h : ∀ y0 : AL.Origin, ∀ y1 : ByteArray, Origin.fine y0 → (fun s : ByteArray => s.size ≤ maxLen) y1 → Ok Tryd.prog 3 [xd y0, str y1] (bool true)) (os : Os) (started : os.Started) (H : Type) (enc : TypeId × Value → H) :
    ReturnsInHanded {} Tryd.checked os 3 .any (fun w args => (Rows.handleNamesSpec.pre enc Tryd.prog Tryd.f3 [] false w args ∧ laidMetH Tryd.prog Rows.handleNamesRow.laid w) ∧ sizedMet enc Tryd.prog Tryd.f3 (OpenSpec.ofChange Rows.handleNamesSpec) false w args) (Rows.handleNamesSpec.post enc Tryd.prog Tryd.f3 false true false false) := by
  refine xpi (C := Tryd.checked) (X := fun w _ => laidMetH Tryd.prog Rows.handleNamesRow.laid w) (fun _ _ _ hh h => h.of_heap hh) xan started (by kernel_rfl) Tryd.func3
    (ChangeSpec.witness_shaped (enc := enc) (C := Tryd.checked) (os := os) (X := fun w _ => laidMetH Tryd.prog Rows.handleNamesRow.laid w) false (World.laidAll Tryd.prog os Rows.handleNamesRow.laid) #[.agg #[.int .i64 0, .int .i64 0, .int .i64 0], .string ⟨#[]⟩] 8 (World.laidAll_os _ _ _)
      (World.shaped_of_ZipB (by kernel_rfl) (by kernel_rfl)) (by kernel_rfl) (by kernel_rfl) (by kernel_rfl)
      (by rw [MakeChecks.laidMetH_plain _ _ _ (by kernel_rfl)]; exact laidMet_laidAll _ (by kernel_rfl) (by kernel_rfl))) ?_
  intro W base args ds gs before hval0 hW hcnd hwt hL hsh _
  have hval : ∀ (j : Nat) t v, Tryd.f3.params[j]? = some t → args[j]? = some v → Value.okWide Tryd.prog W .any base t v := hval0
  have hgw : GW W := x3m hsh hL
  have hW' := hW
  obtain ⟨p, q, hA0, hV, rfl, hfz, hnd⟩ := hW
  have hA : DataW.TrodAll enc Tryd.prog W 0 (fun _ => true) true [23, 9] args.toList ds p := hA0
  have hval : ∀ (j : Nat) t v, (#[23, 9] : Array Nat)[j]? = some t → args[j]? = some v → Value.okWide Tryd.prog W .any base t v := hval
  obtain ⟨v0, vs0, d0, ds0, p0, q0, hargs, rfl, rfl, h0, r0⟩ := trodAll_cons hA
  obtain ⟨v1, vs1, d1, ds1, p1, q1, rfl, rfl, rfl, h1, r1⟩ := trodAll_cons r0
  obtain ⟨rfl, rfl, rfl⟩ := trodAll_nil r1
  obtain rfl : args = #[v0, v1] := by cases args; simp_all
  obtain ⟨rfl, rfl⟩ := trodVars_none hV
  have lt0 : ∀ x ∈ p0, x.block < W.heap.size := by obtain ⟨m, hm⟩ := h0; exact DataW.trod_lt m _ _ _ hm
  obtain ⟨cs0, hv0, _⟩ := okWide_struct (xsf x0d).choose_spec (hval 0 23 v0 rfl rfl)
  subst hv0
  obtain ⟨x0, w0, o0⟩ := xfl rd_23 (fun _ => rfl) h0
  have lt1 : ∀ x ∈ p1, x.block < W.heap.size := by obtain ⟨m, hm⟩ := h1; exact DataW.trod_lt m _ _ _ hm
  obtain ⟨n1, rfl, rfl, rfl, _⟩ := Go.ChangeMaps.open_string (show Program.underlying Tryd.prog 9 = some .string by kernel_rfl) (hval 1 9 v1 rfl rfl) h1
  obtain ⟨x1, w1, o1⟩ := xtz rd_9 rfl h1
  have hvr : VReps (Ew W) [xd x0, str x1] [_, _] := .cons w0 (.cons w1 (.nil))
  refine (xyo hgw (h x0 x1 o0 o1) hvr).mono fun e W' ⟨he, bel⟩ => ?_
  subst he
  exact ⟨_, rfl, _, _, _, [], _, [], hW', trodAll_mk1 (shut_bool (show Program.underlying Tryd.prog 4 = some .bool by kernel_rfl) _), (trodAll_cons_mk (Below.trod xlg (by kernel_rfl) (of_decide_eq_true (by kernel_rfl)) h0 bel lt0) (trodAll_cons_mk (Below.trod xlg (by kernel_rfl) (of_decide_eq_true (by kernel_rfl)) h1 bel lt1) trodAll_mk0)), rfl, bel.frame _, fun h => by cases h⟩
theorem xhj (h : ∀ y0 : AL.Origin, ∀ y1 : ByteArray, Origin.fine y0 → (fun s : ByteArray => s.size ≤ maxLen) y1 → Ok Tryd.prog 3 [xd y0, str y1] (bool true)) : Rows.HandleNamesSaid :=
  OpenClaim.holds_of_wide 3 Tryd.f3 rfl rfl rfl rfl rfl rfl rfl ⟨rfl, rfl, rfl, rfl, rfl⟩ rfl rfl rfl rfl rfl (by kernel_rfl) Tryd.func3 (by kernel_rfl)
    (of_decide_eq_true (by kernel_rfl)) (by unfold Func.isWrapper; first | (rw [if_pos (by decide +kernel)]; kernel_rfl) | (rw [if_neg (by decide +kernel)]; exact ⟨rfl, rfl⟩))
    (fun os started H enc _ => xnk h os started H enc)
theorem x7j (hs : Rows.HandleNamesSaid) : Rows.HandleNamesCardSaid :=
  Claim7.holds_tied_plain_at .later [] [.data, .data, .data, .sentinel, .sentinel] true (true, "7c629f0a2ed143e31e9c962ae7ba558ec4fd42653a63570381b64513c14dd788") true hs (fun _ h => by cases h) (by kernel_rfl) (fun _ h => by cases h) handleNames_row_tie rfl ⟨rfl, rfl⟩ (by kernel_rfl) rfl
    (fun f fn hf hfn => by
      obtain rfl : f = 3 := Option.some.inj ((show Tryd.prog.funcNamed "craquelure/craquelurelaw15.HandleNames" = some 3 by kernel_rfl).symm.trans hf) |>.symm
      obtain rfl : fn = Tryd.f3 := (Option.some.inj (Tryd.func3.symm.trans hfn)).symm
      exact ⟨by kernel_rfl, fun j t ht => by
        have hm : t ∈ [23, 9] := by have := Array.mem_of_getElem? (xs := (#[23, 9] : Array Nat)) (show (#[23, 9] : Array Nat)[j]? = some t from ht); simpa using this
        have hall : ([23, 9].all fun u => !Tryd.prog.wantsStandIn u) = true := by kernel_rfl
        exact (show Tryd.prog.wantsStandIn t = false by simpa using List.all_eq_true.1 hall t hm)⟩)
    (by kernel_rfl)
end Go.Proofs.YtefdlpandfhcgaaDoor

/- Texts cut at a byte. -/
set_option linter.all false
namespace Go.Proofs.YtefdlpandfhcgaaDoor.AL
open Go Go.Proofs
def bB (l : List UInt8) : ByteArray := ⟨l.toArray⟩
theorem bB_of (s : ByteArray) : bB s.data.toList = s := rfl
theorem bB_app (a b : List UInt8) : bB a ++ bB b = bB (a ++ b) := by
  apply ByteArray.ext
  simp [bB]
theorem xwc (a : List UInt8) : (bB a).size = a.length := by simp [bB, ByteArray.size]
theorem bB_inj {a b : List UInt8} (h : bB a = bB b) : a = b := by
  have := congrArg (fun x : ByteArray => x.data.toList) h
  simpa [bB] using this
theorem bB_eq (s : ByteArray) : ∃ l, s = bB l := ⟨s.data.toList, (bB_of s).symm⟩
end Go.Proofs.YtefdlpandfhcgaaDoor.AL

