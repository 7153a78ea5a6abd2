/- A law of the given program is proved: part 29 of 49. -/
import Derived.Test.YtmacnoajlofdbaaDoorRows
import Derived.Test.YtmacnoajlofdbaaDoorTie
import Derived.Test.YtmacnoajlofdbaaDoorCards
import Derived.PinnedBridge
import Derived.Lay
import Derived.SevenTiedAt
import Derived.Test.YtmacnoajlofdbaaDoorA28
set_option linter.all false
/- From the contract of the law to the given statement, a tied card: the frame, printed by lawgend.py. -/
set_option linter.all false
namespace Go.Proofs.YtmacnoajlofdbaaDoor
open AL Go Go.RowKit Go.ChangeShapes Go.WideShapes Go.ChangeAt
theorem xdt : ownKnob Tryd.prog.godebug = none := by kernel_rfl
theorem xbo : laidOutB Tryd.prog = true := by kernel_rfl
set_option maxRecDepth 100000 in
theorem xlp (h : ∀ y0 : AL.Stack, Stack.fine y0 → Ok Tryd.prog 3 [xx y0] (bool true)) (os : Os) (started : os.Started) (H : Type) (enc : TypeId × Value → H) :
    ReturnsInHanded {} Tryd.checked os 3 .any (fun w args => (Rows.redirectOnceSpec.pre enc Tryd.prog Tryd.f3 [] false w args ∧ laidMetH Tryd.prog Rows.redirectOnceRow.laid w) ∧ sizedMet enc Tryd.prog Tryd.f3 (OpenSpec.ofChange Rows.redirectOnceSpec) false w args) (Rows.redirectOnceSpec.post enc Tryd.prog Tryd.f3 false true false false) := by
  refine xdw (C := Tryd.checked) (X := fun w _ => laidMetH Tryd.prog Rows.redirectOnceRow.laid w) (fun _ _ _ hh h => h.of_heap hh) xdt started (by kernel_rfl) Tryd.func3
    (ChangeSpec.witness_shaped (enc := enc) (C := Tryd.checked) (os := os) (X := fun w _ => laidMetH Tryd.prog Rows.redirectOnceRow.laid w) false (World.laidAll Tryd.prog os Rows.redirectOnceRow.laid) #[.agg #[.int .i64 0, .int .i64 0, .int .i64 0, .int .i64 0, .slice none 0 0, .slice none 0 0]] 8 (World.laidAll_os _ _ _)
      (World.shaped_of_ZipB (by kernel_rfl) (by kernel_rfl)) (by kernel_rfl) (by kernel_rfl) (by kernel_rfl)
      (by rw [MakeChecks.laidMetH_plain _ _ _ (by kernel_rfl)]; exact laidMet_laidAll _ (by kernel_rfl) (by kernel_rfl))) ?_
  intro W base args ds gs before hval0 hW hcnd hwt hL hsh _
  have hval : ∀ (j : Nat) t v, Tryd.f3.params[j]? = some t → args[j]? = some v → Value.okWide Tryd.prog W .any base t v := hval0
  have hgw : GW W := xc0 hsh
  have hW' := hW
  obtain ⟨p, q, hA0, hV, rfl, hfz, hnd⟩ := hW
  have hA : DataW.TrodAll enc Tryd.prog W 0 (fun _ => true) true [29] args.toList ds p := hA0
  have hval : ∀ (j : Nat) t v, (#[29] : Array Nat)[j]? = some t → args[j]? = some v → Value.okWide Tryd.prog W .any base t v := hval
  obtain ⟨v0, vs0, d0, ds0, p0, q0, hargs, rfl, rfl, h0, r0⟩ := trodAll_cons hA
  obtain ⟨rfl, rfl, rfl⟩ := trodAll_nil r0
  obtain rfl : args = #[v0] := by cases args; simp_all
  obtain ⟨rfl, rfl⟩ := trodVars_none hV
  have lt0 : ∀ x ∈ p0, x.block < W.heap.size := by obtain ⟨m, hm⟩ := h0; exact DataW.trod_lt m _ _ _ hm
  obtain ⟨cs0, hv0, _⟩ := okWide_struct (x1v x2l).choose_spec (hval 0 29 v0 rfl rfl)
  subst hv0
  obtain ⟨x0, w0, o0⟩ := xzdb rd_29 (fun _ => rfl) h0
  have hvr : VReps (Ew W) [xx x0] [_] := .cons w0 (.nil)
  refine (xz7 hgw (h x0 o0) hvr).mono fun e W' ⟨he, bel⟩ => ?_
  subst he
  exact ⟨_, rfl, _, _, _, [], _, [], hW', trodAll_mk1 (shut_bool (show Program.underlying Tryd.prog 4 = some .bool by kernel_rfl) _), (trodAll_cons_mk (Below.trod xbo (by kernel_rfl) (of_decide_eq_true (by kernel_rfl)) h0 bel lt0) trodAll_mk0), rfl, bel.frame _, fun h => by cases h⟩
theorem xnn (h : ∀ y0 : AL.Stack, Stack.fine y0 → Ok Tryd.prog 3 [xx y0] (bool true)) : Rows.RedirectOnceSaid :=
  OpenClaim.holds_of_wide 3 Tryd.f3 rfl rfl rfl rfl rfl rfl rfl ⟨rfl, rfl, rfl, rfl, rfl⟩ rfl rfl rfl rfl rfl (by kernel_rfl) Tryd.func3 (by kernel_rfl)
    (of_decide_eq_true (by kernel_rfl)) (by unfold Func.isWrapper; first | (rw [if_pos (by decide +kernel)]; kernel_rfl) | (rw [if_neg (by decide +kernel)]; exact ⟨rfl, rfl⟩))
    (fun os started H enc _ => xlp h os started H enc)
theorem xwn (hs : Rows.RedirectOnceSaid) : Rows.RedirectOnceCardSaid :=
  Claim7.holds_tied_plain_at .later [] [.data, .pinned] true (true, "31ef9d938e682352f6be5863df373fd655cf40993e6526c5f3ff9539d50e24ea") false hs (fun _ h => by cases h) (by kernel_rfl) (fun _ h => by cases h) redirectOnce_row_tie rfl ⟨rfl, rfl⟩ (by kernel_rfl) rfl
    (fun f fn hf hfn => by
      obtain rfl : f = 3 := Option.some.inj ((show Tryd.prog.funcNamed "craquelure/craquelurelaw21.RedirectOnce" = some 3 by kernel_rfl).symm.trans hf) |>.symm
      obtain rfl : fn = Tryd.f3 := (Option.some.inj (Tryd.func3.symm.trans hfn)).symm
      exact ⟨by kernel_rfl, fun j t ht => by
        have hm : t ∈ [29] := by have := Array.mem_of_getElem? (xs := (#[29] : Array Nat)) (show (#[29] : Array Nat)[j]? = some t from ht); simpa using this
        have hall : ([29].all fun u => !Tryd.prog.wantsStandIn u) = true := by kernel_rfl
        exact (show Tryd.prog.wantsStandIn t = false by simpa using List.all_eq_true.1 hall t hm)⟩)
    (by kernel_rfl)
end Go.Proofs.YtmacnoajlofdbaaDoor

