/- What of the attributes of any stack, and of any node, may not be, is what the document says: part 46 of 46. -/
import Derived.Test.YtlgikchfddhocaaRows
import Derived.Test.YtlgikchfddhocaaB45
set_option linter.all false
/- From the contract of the law to the given statement: the frame, printed by lawgen.py. -/
set_option linter.all false
namespace Go.Proofs.Ytlgikchfddhocaa
open AL Go.RowKit Go.ChangeShapes Go.WideShapes Go.ChangeAt
theorem own_nameSorts : ownKnob Try.prog.godebug = none := by kernel_rfl
theorem laidOut_nameSorts : laidOutB Try.prog = true := by kernel_rfl
set_option maxRecDepth 100000 in
theorem lifted_nameSorts (h : ∀ y0 : List ByteArray,  (fun l : List ByteArray => l.length ≤ maxLen ∧ ∀ x ∈ l, (fun s : ByteArray => s.size ≤ maxLen) x) y0 → Ok Try.prog 5 [(sll 1 str) y0] (bool true)) (os : Os) (started : os.Started) (H : Type) (enc : TypeId × Value → H) :
    ReturnsInHanded {} Try.checked os 5 .any (Rows.nameSortsSpec.pre6 enc Try.prog Try.f5 Rows.nameSortsRow.domain false) (Rows.nameSortsSpec.post enc Try.prog Try.f5 false true false false) := by
  refine returnsInHanded_of_change (C := Try.checked) own_nameSorts started (by kernel_rfl) Try.func5
    (ChangeSpec.witness6 (enc := enc) (C := Try.checked) false ⟨#[], #[.slice none 0 0], []⟩ 8 (by kernel_rfl) (by kernel_rfl) (by kernel_rfl) (by kernel_rfl)) ?_
  intro W base args ds gs before hval0 hW hcnd _
  have hval : ∀ (j : Nat) t v, Try.f5.params[j]? = some t → args[j]? = some v → Value.okWide Try.prog W .any base t v := hval0
  have hW' := hW
  obtain ⟨p, q, hA0, hV, rfl, hfz, hnd⟩ := hW
  have hA : DataW.TrodAll enc Try.prog W 0 (fun _ => true) true [30] args.toList ds p := hA0
  have hval : ∀ (j : Nat) t v, (#[30] : Array Nat)[j]? = some t → args[j]? = some v → Value.okWide Try.prog W .any base t v := hval
  obtain ⟨v0, vs0, d0, ds0, p0, q0, hargs, rfl, rfl, h0, r0⟩ := trodAll_cons hA
  obtain ⟨rfl, rfl, rfl⟩ := trodAll_nil r0
  obtain rfl : args = #[v0] := by cases args; simp_all
  obtain ⟨rfl, rfl⟩ := trodVars_none hV
  have lt0 : ∀ x ∈ p0, x.block < W.heap.size := by obtain ⟨m, hm⟩ := h0; exact DataW.trod_lt m _ _ _ hm
  obtain ⟨a0, l0, c0, hv0⟩ := okWide_slice (elemOfT_eq elemOfT_30) (hval 0 30 v0 rfl rfl)
  subst hv0
  obtain ⟨x0, w0, o0⟩ := arg_one rd_30 rfl h0
  have hvr : VReps (Ew W) [(sll 1 str) x0] [_] := .cons w0 (.nil)
  refine (law_of_ok (by exact GW.free _) (h x0 o0) hvr).mono fun e W' ⟨he, bel⟩ => ?_
  subst he
  exact ⟨_, rfl, _, _, _, [], _, [], hW', trodAll_mk1 (shut_bool (show Program.underlying Try.prog 4 = some .bool by kernel_rfl) _), (trodAll_cons_mk (Below.trod laidOut_nameSorts (by kernel_rfl) (of_decide_eq_true (by kernel_rfl)) h0 bel lt0) trodAll_mk0), rfl, bel.frame _, fun h => by cases h⟩
theorem holds_nameSorts_of (h : ∀ y0 : List ByteArray,  (fun l : List ByteArray => l.length ≤ maxLen ∧ ∀ x ∈ l, (fun s : ByteArray => s.size ≤ maxLen) x) y0 → Ok Try.prog 5 [(sll 1 str) y0] (bool true)) : Rows.NameSortsSaid :=
  OpenClaim.holds_of_wide 5 Try.f5 rfl rfl rfl rfl rfl rfl rfl ⟨rfl, rfl, rfl, rfl, rfl⟩ rfl rfl rfl rfl rfl (by kernel_rfl) Try.func5 (by kernel_rfl)
    (of_decide_eq_true (by kernel_rfl)) (by unfold Func.isWrapper; first | (rw [if_pos (by decide +kernel)]; kernel_rfl) | (rw [if_neg (by decide +kernel)]; exact ⟨rfl, rfl⟩))
    (fun os started H enc _ => lifted_nameSorts h os started H enc)
end Go.Proofs.Ytlgikchfddhocaa

/- Any texts are sorted, each once, as the document says: for every list of texts. -/
namespace Go.Proofs.Ytlgikchfddhocaa
theorem nameSorts_holds : Rows.NameSortsSaid := holds_nameSorts_of fun l _ => AL.ok_nameSorts l
#print axioms nameSorts_holds
end Go.Proofs.Ytlgikchfddhocaa

/- The statements of layer 3. -/
