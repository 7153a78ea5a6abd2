/- What any node of any stack should say of copies, and which say otherwise, is what the document says: part 28 of 45. -/
import Derived.Test.YtlgikchfddhocaaRows
import Derived.Test.YtlgikchfddhocaaA27
set_option linter.all false
/- From the contract of the law to the given statement: the frame, printed by lawgen.py. -/
set_option linter.all false
namespace Go.Proofs.Ytlgikchfddhocaa
open AL Go.RowKit Go.ChangeShapes Go.WideShapes Go.ChangeAt
theorem own_ : ownKnob Try.prog.godebug = none := by kernel_rfl
theorem laidOut_ : laidOutB Try.prog = true := by kernel_rfl
set_option maxRecDepth 100000 in
theorem lifted_lowerTells (h : ∀ y0 : AL.Stack, ∀ y1 : List AL.Place, ∀ y2 : List ByteArray,  Stack.fine y0 → (fun l : List AL.Place => l.length ≤ maxLen ∧ ∀ x ∈ l, Place.fine x) y1 → (fun l : List ByteArray => l.length ≤ maxLen ∧ ∀ x ∈ l, (fun s : ByteArray => s.size ≤ maxLen) x) y2 → Ok Try.prog 6 [encStack y0, (sll 2 encPlace) y1, (sll 1 str) y2] (bool true)) (os : Os) (started : os.Started) (H : Type) (enc : TypeId × Value → H) :
    ReturnsInHanded {} Try.checked os 6 .any (Rows.lowerTellsSpec.pre6 enc Try.prog Try.f6 Rows.lowerTellsRow.domain false) (Rows.lowerTellsSpec.post enc Try.prog Try.f6 false true false false) := by
  refine returnsInHanded_of_change (C := Try.checked) own_ started (by kernel_rfl) Try.func6
    (ChangeSpec.witness6 (enc := enc) (C := Try.checked) false ⟨#[], #[.agg #[.int .i64 0, .int .i64 0, .int .i64 0, .int .i64 0, .slice none 0 0, .slice none 0 0], .slice none 0 0, .slice none 0 0], []⟩ 8 (by kernel_rfl) (by kernel_rfl) (by kernel_rfl) (by kernel_rfl)) ?_
  intro W base args ds gs before hval0 hW hcnd _
  have hval : ∀ (j : Nat) t v, Try.f6.params[j]? = some t → args[j]? = some v → Value.okWide Try.prog W .any base t v := hval0
  have hW' := hW
  obtain ⟨p, q, hA0, hV, rfl, hfz, hnd⟩ := hW
  have hA : DataW.TrodAll enc Try.prog W 0 (fun _ => true) true [41, 42, 30] args.toList ds p := hA0
  have hval : ∀ (j : Nat) t v, (#[41, 42, 30] : Array Nat)[j]? = some t → args[j]? = some v → Value.okWide Try.prog W .any base t v := hval
  obtain ⟨v0, vs0, d0, ds0, p0, q0, hargs, rfl, rfl, h0, r0⟩ := trodAll_cons hA
  obtain ⟨v1, vs1, d1, ds1, p1, q1, rfl, rfl, rfl, h1, r1⟩ := trodAll_cons r0
  obtain ⟨v2, vs2, d2, ds2, p2, q2, rfl, rfl, rfl, h2, r2⟩ := trodAll_cons r1
  obtain ⟨rfl, rfl, rfl⟩ := trodAll_nil r2
  obtain rfl : args = #[v0, v1, v2] := by cases args; simp_all
  obtain ⟨rfl, rfl⟩ := trodVars_none hV
  have lt0 : ∀ x ∈ p0, x.block < W.heap.size := by obtain ⟨m, hm⟩ := h0; exact DataW.trod_lt m _ _ _ hm
  obtain ⟨cs0, hv0, _⟩ := okWide_struct (fieldOf_struct fieldOf_41_0).choose_spec (hval 0 41 v0 rfl rfl)
  subst hv0
  obtain ⟨x0, w0, o0⟩ := arg_agg rd_41 (fun _ => rfl) h0
  have lt1 : ∀ x ∈ p1, x.block < W.heap.size := by obtain ⟨m, hm⟩ := h1; exact DataW.trod_lt m _ _ _ hm
  obtain ⟨a1, l1, c1, hv1⟩ := okWide_slice (elemOfT_eq elemOfT_42) (hval 1 42 v1 rfl rfl)
  subst hv1
  obtain ⟨x1, w1, o1⟩ := arg_one rd_42 rfl h1
  have lt2 : ∀ x ∈ p2, x.block < W.heap.size := by obtain ⟨m, hm⟩ := h2; exact DataW.trod_lt m _ _ _ hm
  obtain ⟨a2, l2, c2, hv2⟩ := okWide_slice (elemOfT_eq elemOfT_30) (hval 2 30 v2 rfl rfl)
  subst hv2
  obtain ⟨x2, w2, o2⟩ := arg_one rd_30 rfl h2
  have hvr : VReps (Ew W) [encStack x0, (sll 2 encPlace) x1, (sll 1 str) x2] [_, _, _] := .cons w0 (.cons w1 (.cons w2 (.nil)))
  refine (law_of_ok (by exact GW.free _) (h x0 x1 x2 o0 o1 o2) hvr).mono fun e W' ⟨he, bel⟩ => ?_
  subst he
  exact ⟨_, rfl, _, _, _, [], _, [], hW', trodAll_mk1 (shut_bool (show Program.underlying Try.prog 4 = some .bool by kernel_rfl) _), (trodAll_cons_mk (Below.trod laidOut_ (by kernel_rfl) (of_decide_eq_true (by kernel_rfl)) h0 bel lt0) (trodAll_cons_mk (Below.trod laidOut_ (by kernel_rfl) (of_decide_eq_true (by kernel_rfl)) h1 bel lt1) (trodAll_cons_mk (Below.trod laidOut_ (by kernel_rfl) (of_decide_eq_true (by kernel_rfl)) h2 bel lt2) trodAll_mk0))), rfl, bel.frame _, fun h => by cases h⟩
theorem holds_lowerTells_of (h : ∀ y0 : AL.Stack, ∀ y1 : List AL.Place, ∀ y2 : List ByteArray,  Stack.fine y0 → (fun l : List AL.Place => l.length ≤ maxLen ∧ ∀ x ∈ l, Place.fine x) y1 → (fun l : List ByteArray => l.length ≤ maxLen ∧ ∀ x ∈ l, (fun s : ByteArray => s.size ≤ maxLen) x) y2 → Ok Try.prog 6 [encStack y0, (sll 2 encPlace) y1, (sll 1 str) y2] (bool true)) : Rows.LowerTellsSaid :=
  OpenClaim.holds_of_wide 6 Try.f6 rfl rfl rfl rfl rfl rfl rfl ⟨rfl, rfl, rfl, rfl, rfl⟩ rfl rfl rfl rfl rfl (by kernel_rfl) Try.func6 (by kernel_rfl)
    (of_decide_eq_true (by kernel_rfl)) (by unfold Func.isWrapper; first | (rw [if_pos (by decide +kernel)]; kernel_rfl) | (rw [if_neg (by decide +kernel)]; exact ⟨rfl, rfl⟩))
    (fun os started H enc _ => lifted_lowerTells h os started H enc)
end Go.Proofs.Ytlgikchfddhocaa

