/- A law of the given program is proved: part 28 of 49. -/
import Derived.Test.YtnmljicimdhpmaaRows
import Derived.Test.YtnmljicimdhpmaaH27
set_option linter.all false
/- From the contract of the law to the given statement: the frame, printed by lawgen.py. -/
set_option linter.all false
namespace Go.Proofs.Ytnmljicimdhpmaa
open AL Go.RowKit Go.ChangeShapes Go.WideShapes Go.ChangeAt
theorem own_walkOnce : ownKnob Try.prog.godebug = none := by kernel_rfl
theorem laidOut_walkOnce : laidOutB Try.prog = true := by kernel_rfl
set_option maxRecDepth 100000 in
theorem lifted_walkOnce (h : ∀ y0 : AL.Branch, ∀ y1 : List Int, ∀ y2 : Int,  Branch.fine y0 → (fun l : List Int => l.length ≤ maxLen ∧ ∀ x ∈ l, (fun n : Int => IntKind.i64.min ≤ n ∧ n ≤ IntKind.i64.max) x) y1 → (fun n : Int => IntKind.i64.min ≤ n ∧ n ≤ IntKind.i64.max) y2 → Ok Try.prog 11 [encBranch y0, (sll 1 int) y1, int y2] (bool true)) (os : Os) (started : os.Started) (H : Type) (enc : TypeId × Value → H) :
    ReturnsInHanded {} Try.checked os 11 .any (Rows.walkOnceSpec.pre6 enc Try.prog Try.f11 Rows.walkOnceRow.domain false) (Rows.walkOnceSpec.post enc Try.prog Try.f11 false true false false) := by
  refine returnsInHanded_of_change (C := Try.checked) own_walkOnce started (by kernel_rfl) Try.func11
    (ChangeSpec.witness6 (enc := enc) (C := Try.checked) false ⟨#[], #[.agg #[.slice none 0 0], .slice none 0 0, .int .i64 0], []⟩ 8 (by kernel_rfl) (by kernel_rfl) (by kernel_rfl) (by kernel_rfl)) ?_
  intro W base args ds gs before hval0 hW hcnd _
  have hval : ∀ (j : Nat) t v, Try.f11.params[j]? = some t → args[j]? = some v → Value.okWide Try.prog W .any base t v := hval0
  have hW' := hW
  obtain ⟨p, q, hA0, hV, rfl, hfz, hnd⟩ := hW
  have hA : DataW.TrodAll enc Try.prog W 0 (fun _ => true) true [26, 63, 3] args.toList ds p := hA0
  have hval : ∀ (j : Nat) t v, (#[26, 63, 3] : Array Nat)[j]? = some t → args[j]? = some v → Value.okWide Try.prog W .any base t v := hval
  obtain ⟨v0, vs0, d0, ds0, p0, q0, hargs, rfl, rfl, h0, r0⟩ := trodAll_cons hA
  obtain ⟨v1, vs1, d1, ds1, p1, q1, rfl, rfl, rfl, h1, r1⟩ := trodAll_cons r0
  obtain ⟨v2, vs2, d2, ds2, p2, q2, rfl, rfl, rfl, h2, r2⟩ := trodAll_cons r1
  obtain ⟨rfl, rfl, rfl⟩ := trodAll_nil r2
  obtain rfl : args = #[v0, v1, v2] := by cases args; simp_all
  obtain ⟨rfl, rfl⟩ := trodVars_none hV
  have lt0 : ∀ x ∈ p0, x.block < W.heap.size := by obtain ⟨m, hm⟩ := h0; exact DataW.trod_lt m _ _ _ hm
  obtain ⟨cs0, hv0, _⟩ := okWide_struct (fieldOf_struct fieldOf_26_0).choose_spec (hval 0 26 v0 rfl rfl)
  subst hv0
  obtain ⟨x0, w0, o0⟩ := arg_agg rd_26 (fun _ => rfl) h0
  have lt1 : ∀ x ∈ p1, x.block < W.heap.size := by obtain ⟨m, hm⟩ := h1; exact DataW.trod_lt m _ _ _ hm
  obtain ⟨a1, l1, c1, hv1⟩ := okWide_slice (elemOfT_eq elemOfT_63) (hval 1 63 v1 rfl rfl)
  subst hv1
  obtain ⟨x1, w1, o1⟩ := arg_one rd_63 rfl h1
  have lt2 : ∀ x ∈ p2, x.block < W.heap.size := by obtain ⟨m, hm⟩ := h2; exact DataW.trod_lt m _ _ _ hm
  obtain ⟨n2, rfl, rfl, rfl, _⟩ := open_int (show Program.underlying Try.prog 3 = some (.int .i64) by kernel_rfl) (hval 2 3 v2 rfl rfl) h2
  obtain ⟨x2, w2, o2⟩ := arg_one rd_3 rfl h2
  have hvr : VReps (Ew W) [encBranch x0, (sll 1 int) x1, int x2] [_, _, _] := .cons w0 (.cons w1 (.cons w2 (.nil)))
  refine (law_of_ok (by exact GW.free _) (h x0 x1 x2 o0 o1 o2) hvr).mono fun e W' ⟨he, bel⟩ => ?_
  subst he
  exact ⟨_, rfl, _, _, _, [], _, [], hW', trodAll_mk1 (shut_bool (show Program.underlying Try.prog 4 = some .bool by kernel_rfl) _), (trodAll_cons_mk (Below.trod laidOut_walkOnce (by kernel_rfl) (of_decide_eq_true (by kernel_rfl)) h0 bel lt0) (trodAll_cons_mk (Below.trod laidOut_walkOnce (by kernel_rfl) (of_decide_eq_true (by kernel_rfl)) h1 bel lt1) (trodAll_cons_mk (Below.trod laidOut_walkOnce (by kernel_rfl) (of_decide_eq_true (by kernel_rfl)) h2 bel lt2) trodAll_mk0))), rfl, bel.frame _, fun h => by cases h⟩
theorem holds_walkOnce_of (h : ∀ y0 : AL.Branch, ∀ y1 : List Int, ∀ y2 : Int,  Branch.fine y0 → (fun l : List Int => l.length ≤ maxLen ∧ ∀ x ∈ l, (fun n : Int => IntKind.i64.min ≤ n ∧ n ≤ IntKind.i64.max) x) y1 → (fun n : Int => IntKind.i64.min ≤ n ∧ n ≤ IntKind.i64.max) y2 → Ok Try.prog 11 [encBranch y0, (sll 1 int) y1, int y2] (bool true)) : Rows.WalkOnceSaid :=
  OpenClaim.holds_of_wide 11 Try.f11 rfl rfl rfl rfl rfl rfl rfl ⟨rfl, rfl, rfl, rfl, rfl⟩ rfl rfl rfl rfl rfl (by kernel_rfl) Try.func11 (by kernel_rfl)
    (of_decide_eq_true (by kernel_rfl)) (by unfold Func.isWrapper; first | (rw [if_pos (by decide +kernel)]; kernel_rfl) | (rw [if_neg (by decide +kernel)]; exact ⟨rfl, rfl⟩))
    (fun os started H enc _ => lifted_walkOnce h os started H enc)
end Go.Proofs.Ytnmljicimdhpmaa

