/- What of the attributes of any stack, and of any node, may not be, is what the document says: part 45 of 46. -/
import Derived.Test.YtlgikchfddhocaaRows
import Derived.Test.YtlgikchfddhocaaB44
set_option linter.all false
/- From the contract of the law to the given statement: the frame, printed by lawgen.py. -/
set_option linter.all false
namespace Go.Proofs.Ytlgikchfddhocaa
open AL Go.RowKit Go.ChangeShapes Go.WideShapes Go.ChangeAt
theorem own_nameBack : ownKnob Try.prog.godebug = none := by kernel_rfl
theorem laidOut_nameBack : laidOutB Try.prog = true := by kernel_rfl
set_option maxRecDepth 100000 in
theorem lifted_nameBack (h : ∀ y0 : List UInt8, ∀ y1 : ByteArray,  (fun l : List UInt8 => l.length ≤ maxLen ∧ ∀ x ∈ l, True) y0 → (fun s : ByteArray => s.size ≤ maxLen) y1 → Ok Try.prog 4 [encD y0, str y1] (bool true)) (os : Os) (started : os.Started) (H : Type) (enc : TypeId × Value → H) :
    ReturnsInHanded {} Try.checked os 4 .any (Rows.nameBackSpec.pre6 enc Try.prog Try.f4 Rows.nameBackRow.domain false) (Rows.nameBackSpec.post enc Try.prog Try.f4 false true false false) := by
  refine returnsInHanded_of_change (C := Try.checked) own_nameBack started (by kernel_rfl) Try.func4
    (ChangeSpec.witness6 (enc := enc) (C := Try.checked) false ⟨#[], #[.slice none 0 0, .string ⟨#[]⟩], []⟩ 8 (by kernel_rfl) (by kernel_rfl) (by kernel_rfl) (by kernel_rfl)) ?_
  intro W base args ds gs before hval0 hW hcnd _
  have hval : ∀ (j : Nat) t v, Try.f4.params[j]? = some t → args[j]? = some v → Value.okWide Try.prog W .any base t v := hval0
  have hW' := hW
  obtain ⟨p, q, hA0, hV, rfl, hfz, hnd⟩ := hW
  have hA : DataW.TrodAll enc Try.prog W 0 (fun _ => true) true [25, 9] args.toList ds p := hA0
  have hval : ∀ (j : Nat) t v, (#[25, 9] : Array Nat)[j]? = some t → args[j]? = some v → Value.okWide Try.prog W .any base t v := hval
  obtain ⟨v0, vs0, d0, ds0, p0, q0, hargs, rfl, rfl, h0, r0⟩ := trodAll_cons hA
  obtain ⟨v1, vs1, d1, ds1, p1, q1, rfl, rfl, rfl, h1, r1⟩ := trodAll_cons r0
  obtain ⟨rfl, rfl, rfl⟩ := trodAll_nil r1
  obtain rfl : args = #[v0, v1] := by cases args; simp_all
  obtain ⟨rfl, rfl⟩ := trodVars_none hV
  have lt0 : ∀ x ∈ p0, x.block < W.heap.size := by obtain ⟨m, hm⟩ := h0; exact DataW.trod_lt m _ _ _ hm
  obtain ⟨a0, l0, c0, hv0⟩ := okWide_slice (elemOfT_eq elemOfT_25) (hval 0 25 v0 rfl rfl)
  subst hv0
  obtain ⟨x0, w0, o0⟩ := arg_one rd_25 rfl h0
  have lt1 : ∀ x ∈ p1, x.block < W.heap.size := by obtain ⟨m, hm⟩ := h1; exact DataW.trod_lt m _ _ _ hm
  obtain ⟨n1, rfl, rfl, rfl, _⟩ := Go.ChangeMaps.open_string (show Program.underlying Try.prog 9 = some .string by kernel_rfl) (hval 1 9 v1 rfl rfl) h1
  obtain ⟨x1, w1, o1⟩ := arg_one rd_9 rfl h1
  have hvr : VReps (Ew W) [encD x0, str x1] [_, _] := .cons w0 (.cons w1 (.nil))
  refine (law_of_ok (by exact GW.free _) (h x0 x1 o0 o1) hvr).mono fun e W' ⟨he, bel⟩ => ?_
  subst he
  exact ⟨_, rfl, _, _, _, [], _, [], hW', trodAll_mk1 (shut_bool (show Program.underlying Try.prog 4 = some .bool by kernel_rfl) _), (trodAll_cons_mk (Below.trod laidOut_nameBack (by kernel_rfl) (of_decide_eq_true (by kernel_rfl)) h0 bel lt0) (trodAll_cons_mk (Below.trod laidOut_nameBack (by kernel_rfl) (of_decide_eq_true (by kernel_rfl)) h1 bel lt1) trodAll_mk0)), rfl, bel.frame _, fun h => by cases h⟩
theorem holds_nameBack_of (h : ∀ y0 : List UInt8, ∀ y1 : ByteArray,  (fun l : List UInt8 => l.length ≤ maxLen ∧ ∀ x ∈ l, True) y0 → (fun s : ByteArray => s.size ≤ maxLen) y1 → Ok Try.prog 4 [encD y0, str y1] (bool true)) : Rows.NameBackSaid :=
  OpenClaim.holds_of_wide 4 Try.f4 rfl rfl rfl rfl rfl rfl rfl ⟨rfl, rfl, rfl, rfl, rfl⟩ rfl rfl rfl rfl rfl (by kernel_rfl) Try.func4 (by kernel_rfl)
    (of_decide_eq_true (by kernel_rfl)) (by unfold Func.isWrapper; first | (rw [if_pos (by decide +kernel)]; kernel_rfl) | (rw [if_neg (by decide +kernel)]; exact ⟨rfl, rfl⟩))
    (fun os started H enc _ => lifted_nameBack h os started H enc)
end Go.Proofs.Ytlgikchfddhocaa

/- The name that any bytes are is what the document says; it has just these bytes; a name is read from its own: for all bytes and every text. -/
namespace Go.Proofs.Ytlgikchfddhocaa
theorem nameBack_holds : Rows.NameBackSaid := holds_nameBack_of fun b s _ _ => AL.ok_nameBack b s
#print axioms nameBack_holds
end Go.Proofs.Ytlgikchfddhocaa

