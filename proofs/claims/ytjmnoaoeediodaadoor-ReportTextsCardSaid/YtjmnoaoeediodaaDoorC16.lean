/- A law of the given program is proved: part 16 of 47. -/
import Derived.Test.YtjmnoaoeediodaaDoorC15
set_option linter.all false
/- AL, part 14: a function's entry and end; jumps to a label; contracts out of walks. -/
set_option linter.unusedSimpArgs false
namespace Go.Proofs.YtjmnoaoeediodaaDoor.AL
open Go.RowKit
def resA (P : Program) (s : AS) : List ResultVar → Option (List AV)
  | [] => some []
  | .tmp t :: rs => (resA P s rs).map (s.T t :: ·)
  | .cell p ty :: rs => match xsd P ty s.H (s.T p) with
    | some v => (resA P s rs).map (v :: ·)
    | none => none
def mkRes : List AV → AV
  | [x] => x
  | xs => .tup xs
def retQ (P : Program) (fn : Func) (R : AV → (Nat → Option AO) → Nat → Prop) : Exit → AS → Prop
  | .normal, s => Got (resA P s fn.results.toList) fun rs => R (mkRes rs) s.H s.nx
  | .ret, s => Got (resA P s fn.results.toList) fun rs => R (mkRes rs) s.H s.nx
  | _, _ => False
theorem xkk {P : Program} {C : Ctx} {E : Env} {s : AS} (hR : HR C E s.H) {tmps : Array Value} (ht : ∀ t, VRep E (s.T t) (tmps.getD t undef)) : ∀ (l : List ResultVar) (rs : List AV), resA P s l = some rs →
    ∃ vs, (l.mapM (fun | .tmp t => pure (tmps.getD t undef) | .cell a t => do loadVar t (← asAddr (tmps.getD a undef)) : ResultVar → Sem Value)).run P E.w = .ok vs E.w ∧ VReps E rs vs
  | [], rs, h => by
    simp only [resA] at h
    injection h with h; subst h
    exact ⟨[], by simp, .nil⟩
  | .tmp t :: l, rs, h => by
    simp only [resA] at h
    obtain ⟨rs', h1, h2⟩ := Option.map_eq_some_iff.1 h
    subst h2
    obtain ⟨vs, h3, h4⟩ := xkk hR ht l rs' h1
    exact ⟨tmps.getD t undef :: vs, by simp only [List.mapM_cons, Sem.run_bind, Sem.run_pure, Result.andThen_ok, h3], .cons (ht t) h4⟩
  | .cell p ty :: l, rs, h => by
    simp only [resA] at h
    split at h
    · rename_i v hv
      obtain ⟨rs', h1, h2⟩ := Option.map_eq_some_iff.1 h
      subst h2
      obtain ⟨vs, h3, h4⟩ := xkk hR ht l rs' h1
      obtain ⟨z, hz, hr⟩ := xyj (P := P) hR (fun _ _ e => e) (ht p) hv
      have hz' : (do loadVar ty (← asAddr (tmps.getD p undef)) : Sem Value).run P E.w = .ok z E.w := by
        generalize tmps.getD p undef = u at hz
        cases u with
        | pointer q =>
          cases q with
          | none => simp [Instr.loadAt, Instr.sureAddr] at hz
          | some q => simpa [Instr.loadAt, Instr.sureAddr, asAddr] using hz
        | _ => simp [Instr.loadAt, Instr.sureAddr] at hz
      refine ⟨z :: vs, ?_, .cons hr h4⟩
      simp only [List.mapM_cons]
      rw [Sem.run_bind, hz', Result.andThen_ok, Sem.run_bind, h3]
      rfl
    · cases h
theorem xdr {P : Program} {C : Ctx} {E : Env} {s : AS} (hR : HR C E s.H) {fn : Func} {tmps : Array Value} (ht : ∀ t, VRep E (s.T t) (tmps.getD t undef)) {rs : List AV} (h : resA P s fn.results.toList = some rs) :
    ∃ v, (results fn tmps).run P E.w = .ok v E.w ∧ VRep E (mkRes rs) v := by
  obtain ⟨vs, h1, h2⟩ := xkk (P := P) hR ht _ _ h
  have hl := h2.length
  refine ⟨if h : vs.toArray.size = 1 then vs.toArray[0] else .tuple vs.toArray, ?_, ?_⟩
  · simp only [results, Array.mapM_eq_mapM_toList, Sem.run_bind, Sem.run_map]
    exact congrArg (fun r : Result (List Value) => (r.andThen fun a w' => Result.ok a.toArray w').andThen fun (a : Array Value) w' => Sem.run P (pure (if h : a.size = 1 then a[0] else Value.tuple a) : Sem Value) w') h1
  · match rs, vs, h2, hl with
    | [x], [v], h2, _ =>
      simp only [VReps] at h2
      obtain ⟨u, us', q1, q2, q3⟩ := h2
      injection q3 with q3 _
      subst q3
      exact q1
    | [], [], h2, _ =>
      simp only [mkRes, VRep]
      exact ⟨[], h2, rfl⟩
    | x :: y :: l, u :: v :: l', h2, _ =>
      simp only [mkRes, VRep]
      exact ⟨_, h2, by simp⟩
def argT (args : List AV) : Nat → AV := fun t => (args[t]?).getD (.val undef)
theorem x5r {P : Program} {f : FuncId} {fn : Func} {c : Code} (hf : P.funcs[f]? = some fn) (hb : fn.body = some c) (hcall : callable P f = true) {args : List AV} (hn : args.length ≤ fn.ntmps) {H : Nat → Option AO} {nx : Nat} {R : AV → (Nat → Option AO) → Nat → Prop}
    (h : awp P fn.ntmps c (retQ P fn R) ⟨argT args, H, nx⟩) : ACall P f args H nx R := by
  refine ⟨hcall, fun C E vals hR hK hv => ?_⟩
  have hl := hv.length
  refine calls_of_wp hf hb ?_
  have hS : SR C E nx fn.ntmps ⟨argT args, H, nx⟩ { tmps := vals.toArray ++ Array.replicate (fn.ntmps - vals.toArray.size) undef, defers := [] } E := by
    refine ⟨hR, Stab.refl E, hK, fun l k => .inl k, by simp; omega, rfl, fun t => ?_⟩
    simp only [argT]
    by_cases ht : t < args.length
    · rw [List.getElem?_eq_getElem ht]
      obtain ⟨u, h1, h2⟩ := hv.get t _ (List.getElem?_eq_getElem ht)
      have : (vals.toArray ++ Array.replicate (fn.ntmps - vals.toArray.size) undef).getD t undef = u := by
        have hlt : t < vals.length := by omega
        simp only [Array.getD_eq_getD_getElem?, Array.getElem?_append, List.size_toArray, if_pos hlt, List.getElem?_toArray, h1, Option.getD_some]
      rw [this]
      exact h2
    · rw [List.getElem?_eq_none (by omega)]
      have : (vals.toArray ++ Array.replicate (fn.ntmps - vals.toArray.size) undef).getD t undef = undef := by
        simp only [Array.getD_eq_getD_getElem?, Array.getElem?_append]
        rw [if_neg (by simp; omega)]
        simp only [Array.getElem?_replicate]
        split <;> rfl
      rw [this]
      exact x5i E
  refine wp_mono (h C E nx E _ (Nat.le_refl _) hS) ?_
  rintro e a' w' ⟨s', E', h1, h2, h3, rfl⟩
  have fin : (Got (resA P s' fn.results.toList) fun rs => R (mkRes rs) s'.H s'.nx) → a'.defers = [] ∧ ∃ v, (results fn a'.tmps).run P E'.w = .ok v E'.w ∧ ∃ (v' : Value) (r : AV) (H' : Nat → Option AO) (nx' : Nat) (E1 : Env), Ending.returned v = .returned v' ∧ R r H' nx' ∧ VRep E1 r v' ∧ HR C E1 H' ∧ Stab E E1 ∧ nx ≤ nx' ∧ (∀ l, E1.K l → E.K l ∨ (nx ≤ l ∧ l < nx')) ∧ E1.w = E'.w := by
    rintro ⟨rs, hrs, hR'⟩
    obtain ⟨v, hv1, hv2⟩ := xdr (P := P) h3.heap h3.tmps hrs
    exact ⟨h3.defers, v, hv1, v, _, s'.H, s'.nx, E', rfl, hR', hv2, h3.heap, h3.stab, h2, fun l kl => (h3.fresh l kl).elim .inl fun e => .inr ⟨e, h3.bound l kl⟩, rfl⟩
  cases e with
  | normal => exact fin h1
  | ret => exact fin h1
  | exit id => exact h1.elim
  | goto l => exact h1.elim
  | panic ch => exact h1.elim
  | outgrown => exact h1.elim
theorem Ok.weaken {P : Program} {f : FuncId} {args : List AV} {r r' : AV} (h : Ok P f args r) (hr : ∀ (E : Env) (v : Value), VRep E r v → VRep E r' v) : Ok P f args r' :=
  ⟨h.1, fun Z w vals hZ hv => (h.2 Z w vals hZ hv).mono fun _ _ ⟨v, h1, h2, h3⟩ => ⟨v, h1, h2, hr _ v h3⟩⟩
end Go.Proofs.YtjmnoaoeediodaaDoor.AL

