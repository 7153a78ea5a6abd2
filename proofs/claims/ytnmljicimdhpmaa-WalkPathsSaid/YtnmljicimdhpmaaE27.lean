/- A law of the given program is proved: part 27 of 49. -/
import Derived.Test.YtnmljicimdhpmaaRows
import Derived.Test.YtnmljicimdhpmaaE26
set_option linter.all false
/- From the contract of the law to the given statement: the frame, printed by lawgen.py. -/
set_option linter.all false
namespace Go.Proofs.Ytnmljicimdhpmaa
open AL Go.RowKit Go.ChangeShapes Go.WideShapes Go.ChangeAt
theorem own_ : ownKnob Try.prog.godebug = none := by kernel_rfl
theorem laidOut_ : laidOutB Try.prog = true := by kernel_rfl
set_option maxRecDepth 100000 in
theorem lifted_walkPaths (h : ∀ y0 : List AL.Way, ∀ y1 : Int,  (fun l : List AL.Way => l.length ≤ maxLen ∧ ∀ x ∈ l, Way.fine x) y0 → (fun n : Int => IntKind.i64.min ≤ n ∧ n ≤ IntKind.i64.max) y1 → Ok Try.prog 8 [(sll 3 encWay) y0, int y1] (bool true)) (os : Os) (started : os.Started) (H : Type) (enc : TypeId × Value → H) :
    ReturnsInHanded {} Try.checked os 8 .any (Rows.walkPathsSpec.pre6 enc Try.prog Try.f8 Rows.walkPathsRow.domain false) (Rows.walkPathsSpec.post enc Try.prog Try.f8 false true false false) := by
  refine returnsInHanded_of_change (C := Try.checked) own_ started (by kernel_rfl) Try.func8
    (ChangeSpec.witness6 (enc := enc) (C := Try.checked) false ⟨#[], #[.slice none 0 0, .int .i64 0], []⟩ 8 (by kernel_rfl) (by kernel_rfl) (by kernel_rfl) (by kernel_rfl)) ?_
  intro W base args ds gs before hval0 hW hcnd _
  have hval : ∀ (j : Nat) t v, Try.f8.params[j]? = some t → args[j]? = some v → Value.okWide Try.prog W .any base t v := hval0
  have hW' := hW
  obtain ⟨p, q, hA0, hV, rfl, hfz, hnd⟩ := hW
  have hA : DataW.TrodAll enc Try.prog W 0 (fun _ => true) true [49, 3] args.toList ds p := hA0
  have hval : ∀ (j : Nat) t v, (#[49, 3] : Array Nat)[j]? = some t → args[j]? = some v → Value.okWide Try.prog W .any base t v := hval
  obtain ⟨v0, vs0, d0, ds0, p0, q0, hargs, rfl, rfl, h0, r0⟩ := trodAll_cons hA
  obtain ⟨v1, vs1, d1, ds1, p1, q1, rfl, rfl, rfl, h1, r1⟩ := trodAll_cons r0
  obtain ⟨rfl, rfl, rfl⟩ := trodAll_nil r1
  obtain rfl : args = #[v0, v1] := by cases args; simp_all
  obtain ⟨rfl, rfl⟩ := trodVars_none hV
  have lt0 : ∀ x ∈ p0, x.block < W.heap.size := by obtain ⟨m, hm⟩ := h0; exact DataW.trod_lt m _ _ _ hm
  obtain ⟨a0, l0, c0, hv0⟩ := okWide_slice (elemOfT_eq elemOfT_49) (hval 0 49 v0 rfl rfl)
  subst hv0
  obtain ⟨x0, w0, o0⟩ := arg_one rd_49 rfl h0
  have lt1 : ∀ x ∈ p1, x.block < W.heap.size := by obtain ⟨m, hm⟩ := h1; exact DataW.trod_lt m _ _ _ hm
  obtain ⟨n1, rfl, rfl, rfl, _⟩ := open_int (show Program.underlying Try.prog 3 = some (.int .i64) by kernel_rfl) (hval 1 3 v1 rfl rfl) h1
  obtain ⟨x1, w1, o1⟩ := arg_one rd_3 rfl h1
  have hvr : VReps (Ew W) [(sll 3 encWay) x0, int x1] [_, _] := .cons w0 (.cons w1 (.nil))
  refine (law_of_ok (h x0 x1 o0 o1) hvr).mono fun e W' ⟨he, bel⟩ => ?_
  subst he
  exact ⟨_, rfl, _, _, _, [], _, [], hW', trodAll_mk1 (shut_bool (show Program.underlying Try.prog 4 = some .bool by kernel_rfl) _), (trodAll_cons_mk (Below.trod laidOut_ (by kernel_rfl) (of_decide_eq_true (by kernel_rfl)) h0 bel lt0) (trodAll_cons_mk (Below.trod laidOut_ (by kernel_rfl) (of_decide_eq_true (by kernel_rfl)) h1 bel lt1) trodAll_mk0)), rfl, bel.frame _, fun h => by cases h⟩
theorem holds_walkPaths_of (h : ∀ y0 : List AL.Way, ∀ y1 : Int,  (fun l : List AL.Way => l.length ≤ maxLen ∧ ∀ x ∈ l, Way.fine x) y0 → (fun n : Int => IntKind.i64.min ≤ n ∧ n ≤ IntKind.i64.max) y1 → Ok Try.prog 8 [(sll 3 encWay) y0, int y1] (bool true)) : Rows.WalkPathsSaid :=
  OpenClaim.holds_of_wide 8 Try.f8 rfl rfl rfl rfl rfl rfl rfl ⟨rfl, rfl, rfl, rfl, rfl⟩ rfl rfl rfl rfl rfl (by kernel_rfl) Try.func8 (by kernel_rfl)
    (of_decide_eq_true (by kernel_rfl)) (by unfold Func.isWrapper; first | (rw [if_pos (by decide +kernel)]; kernel_rfl) | (rw [if_neg (by decide +kernel)]; exact ⟨rfl, rfl⟩))
    (fun os started H enc _ => lifted_walkPaths h os started H enc)
end Go.Proofs.Ytnmljicimdhpmaa

