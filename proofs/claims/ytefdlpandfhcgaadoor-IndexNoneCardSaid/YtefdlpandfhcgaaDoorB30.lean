/- A law of the given program is proved: part 30 of 51. -/
import Derived.Test.YtefdlpandfhcgaaDoorRows
import Derived.Test.YtefdlpandfhcgaaDoorTie
import Derived.Test.YtefdlpandfhcgaaDoorCards
import Derived.PinnedBridge
import Derived.Lay
import Derived.SevenTiedAt
import Derived.Lib.SplitLaws
import Derived.Lib.IndexMore
import Derived.Test.YtefdlpandfhcgaaDoorB29
set_option linter.all false
/- From the contract of the law to the given statement, a tied card: the frame, printed by lawgend.py. -/
set_option linter.all false
namespace Go.Proofs.YtefdlpandfhcgaaDoor
open AL Go Go.RowKit Go.ChangeShapes Go.WideShapes Go.ChangeAt
theorem xos : ownKnob Tryd.prog.godebug = none := by kernel_rfl
theorem xmi : laidOutB Tryd.prog = true := by kernel_rfl
set_option maxRecDepth 100000 in
theorem x5o (h : ∀ y0 : AL.Stack, ∀ y1 : AL.Entry, Stack.fine y0 → Entry.fine y1 → Ok Tryd.prog 5 [xob y0, xk y1] (bool true)) (os : Os) (started : os.Started) (H : Type) (enc : TypeId × Value → H) :
    ReturnsInHanded {} Tryd.checked os 5 .any (fun w args => (Rows.indexNoneSpec.pre enc Tryd.prog Tryd.f5 [] false w args ∧ laidMetH Tryd.prog Rows.indexNoneRow.laid w) ∧ sizedMet enc Tryd.prog Tryd.f5 (OpenSpec.ofChange Rows.indexNoneSpec) false w args) (Rows.indexNoneSpec.post enc Tryd.prog Tryd.f5 false true false false) := by
  refine xpq (C := Tryd.checked) (X := fun w _ => laidMetH Tryd.prog Rows.indexNoneRow.laid w) (fun _ _ _ hh h => h.of_heap hh) xos started (by kernel_rfl) Tryd.func5
    (ChangeSpec.witness_shaped (enc := enc) (C := Tryd.checked) (os := os) (X := fun w _ => laidMetH Tryd.prog Rows.indexNoneRow.laid w) false (World.laidAll Tryd.prog os Rows.indexNoneRow.laid) #[.agg #[.int .i64 0, .int .i64 0, .int .i64 0, .int .i64 0, .slice none 0 0, .slice none 0 0], .agg #[.int .i64 0, .int .i64 0, .string ⟨#[]⟩]] 8 (World.laidAll_os _ _ _)
      (World.shaped_of_ZipB (by kernel_rfl) (by kernel_rfl)) (by kernel_rfl) (by kernel_rfl) (by kernel_rfl)
      (by rw [MakeChecks.laidMetH_plain _ _ _ (by kernel_rfl)]; exact laidMet_laidAll _ (by kernel_rfl) (by kernel_rfl))) ?_
  intro W base args ds gs before hval0 hW hcnd hwt hL hsh _
  have hval : ∀ (j : Nat) t v, Tryd.f5.params[j]? = some t → args[j]? = some v → Value.okWide Tryd.prog W .any base t v := hval0
  have hgw : GW W := xrw hsh hL
  have hW' := hW
  obtain ⟨p, q, hA0, hV, rfl, hfz, hnd⟩ := hW
  have hA : DataW.TrodAll enc Tryd.prog W 0 (fun _ => true) true [37, 51] args.toList ds p := hA0
  have hval : ∀ (j : Nat) t v, (#[37, 51] : Array Nat)[j]? = some t → args[j]? = some v → Value.okWide Tryd.prog W .any base t v := hval
  obtain ⟨v0, vs0, d0, ds0, p0, q0, hargs, rfl, rfl, h0, r0⟩ := trodAll_cons hA
  obtain ⟨v1, vs1, d1, ds1, p1, q1, rfl, rfl, rfl, h1, r1⟩ := trodAll_cons r0
  obtain ⟨rfl, rfl, rfl⟩ := trodAll_nil r1
  obtain rfl : args = #[v0, v1] := by cases args; simp_all
  obtain ⟨rfl, rfl⟩ := trodVars_none hV
  have lt0 : ∀ x ∈ p0, x.block < W.heap.size := by obtain ⟨m, hm⟩ := h0; exact DataW.trod_lt m _ _ _ hm
  obtain ⟨cs0, hv0, _⟩ := okWide_struct (xek xhj).choose_spec (hval 0 37 v0 rfl rfl)
  subst hv0
  obtain ⟨x0, w0, o0⟩ := x4v rd_37 (fun _ => rfl) h0
  have lt1 : ∀ x ∈ p1, x.block < W.heap.size := by obtain ⟨m, hm⟩ := h1; exact DataW.trod_lt m _ _ _ hm
  obtain ⟨cs1, hv1, _⟩ := okWide_struct (xek xzf).choose_spec (hval 1 51 v1 rfl rfl)
  subst hv1
  obtain ⟨x1, w1, o1⟩ := x4v rd_51 (fun _ => rfl) h1
  have hvr : VReps (Ew W) [xob x0, xk x1] [_, _] := .cons w0 (.cons w1 (.nil))
  refine (xfy hgw (h x0 x1 o0 o1) hvr).mono fun e W' ⟨he, bel⟩ => ?_
  subst he
  exact ⟨_, rfl, _, _, _, [], _, [], hW', trodAll_mk1 (shut_bool (show Program.underlying Tryd.prog 4 = some .bool by kernel_rfl) _), (trodAll_cons_mk (Below.trod xmi (by kernel_rfl) (of_decide_eq_true (by kernel_rfl)) h0 bel lt0) (trodAll_cons_mk (Below.trod xmi (by kernel_rfl) (of_decide_eq_true (by kernel_rfl)) h1 bel lt1) trodAll_mk0)), rfl, bel.frame _, fun h => by cases h⟩
theorem x9m (h : ∀ y0 : AL.Stack, ∀ y1 : AL.Entry, Stack.fine y0 → Entry.fine y1 → Ok Tryd.prog 5 [xob y0, xk y1] (bool true)) : Rows.IndexNoneSaid :=
  OpenClaim.holds_of_wide 5 Tryd.f5 rfl rfl rfl rfl rfl rfl rfl ⟨rfl, rfl, rfl, rfl, rfl⟩ rfl rfl rfl rfl rfl (by kernel_rfl) Tryd.func5 (by kernel_rfl)
    (of_decide_eq_true (by kernel_rfl)) (by unfold Func.isWrapper; first | (rw [if_pos (by decide +kernel)]; kernel_rfl) | (rw [if_neg (by decide +kernel)]; exact ⟨rfl, rfl⟩))
    (fun os started H enc _ => x5o h os started H enc)
theorem xvn (hs : Rows.IndexNoneSaid) : Rows.IndexNoneCardSaid :=
  Claim7.holds_tied_plain_at .later [] [.data, .data, .data, .sentinel, .sentinel] true (true, "7c629f0a2ed143e31e9c962ae7ba558ec4fd42653a63570381b64513c14dd788") true hs (fun _ h => by cases h) (by kernel_rfl) (fun _ h => by cases h) indexNone_row_tie rfl ⟨rfl, rfl⟩ (by kernel_rfl) rfl
    (fun f fn hf hfn => by
      obtain rfl : f = 5 := Option.some.inj ((show Tryd.prog.funcNamed "craquelure/craquelurelaw23.IndexNone" = some 5 by kernel_rfl).symm.trans hf) |>.symm
      obtain rfl : fn = Tryd.f5 := (Option.some.inj (Tryd.func5.symm.trans hfn)).symm
      exact ⟨by kernel_rfl, fun j t ht => by
        have hm : t ∈ [37, 51] := by have := Array.mem_of_getElem? (xs := (#[37, 51] : Array Nat)) (show (#[37, 51] : Array Nat)[j]? = some t from ht); simpa using this
        have hall : ([37, 51].all fun u => !Tryd.prog.wantsStandIn u) = true := by kernel_rfl
        exact (show Tryd.prog.wantsStandIn t = false by simpa using List.all_eq_true.1 hall t hm)⟩)
    (by kernel_rfl)
end Go.Proofs.YtefdlpandfhcgaaDoor

/- Texts cut at a byte. -/
set_option linter.all false
namespace Go.Proofs.YtefdlpandfhcgaaDoor.AL
open Go Go.Proofs
def bB (l : List UInt8) : ByteArray := ⟨l.toArray⟩
theorem bB_of (s : ByteArray) : bB s.data.toList = s := rfl
theorem bB_app (a b : List UInt8) : bB a ++ bB b = bB (a ++ b) := by
  apply ByteArray.ext
  simp [bB]
theorem x1g (a : List UInt8) : (bB a).size = a.length := by simp [bB, ByteArray.size]
theorem bB_inj {a b : List UInt8} (h : bB a = bB b) : a = b := by
  have := congrArg (fun x : ByteArray => x.data.toList) h
  simpa [bB] using this
theorem bB_eq (s : ByteArray) : ∃ l, s = bB l := ⟨s.data.toList, (bB_of s).symm⟩
end Go.Proofs.YtefdlpandfhcgaaDoor.AL

