/- A law of the given program is proved: part 16 of 50. -/
import Derived.Test.YtefdlpandfhcgaaGreatDoorA15
set_option linter.all false
/- AL, part 14: a function's entry and end; jumps to a label; contracts out of walks. -/
set_option linter.unusedSimpArgs false
namespace Go.Proofs.YtefdlpandfhcgaaGreatDoor.AL
open Go.RowKit
def resA (P : Program) (s : AS) : List ResultVar → Option (List AV)
  | [] => some []
  | .tmp t :: rs => (resA P s rs).map (s.T t :: ·)
  | .cell p ty :: rs => match xpd P ty s.H (s.T p) with
    | some v => (resA P s rs).map (v :: ·)
    | none => none
def mkRes : List AV → AV
  | [x] => x
  | xs => .tup xs
def retQ (P : Program) (fn : Func) (R : AV → (Nat → Option AO) → Nat → Prop) : Exit → AS → Prop
  | .normal, s => Got (resA P s fn.results.toList) fun rs => R (mkRes rs) s.H s.nx
  | .ret, s => Got (resA P s fn.results.toList) fun rs => R (mkRes rs) s.H s.nx
  | _, _ => False
theorem xem {P : Program} {C : Ctx} {E : Env} {s : AS} (hR : HR C E s.H) {tmps : Array Value} (ht : ∀ t, VRep E (s.T t) (tmps.getD t undef)) : ∀ (l : List ResultVar) (rs : List AV), resA P s l = some rs →
    ∃ vs, (l.mapM (fun | .tmp t => pure (tmps.getD t undef) | .cell a t => do loadVar t (← asAddr (tmps.getD a undef)) : ResultVar → Sem Value)).run P E.w = .ok vs E.w ∧ VReps E rs vs
  | [], rs, h => by
    simp only [resA] at h
    injection h with h; subst h
    exact ⟨[], by simp, .nil⟩
  | .tmp t :: l, rs, h => by
    simp only [resA] at h
    obtain ⟨rs', h1, h2⟩ := Option.map_eq_some_iff.1 h
    subst h2
    obtain ⟨vs, h3, h4⟩ := xem hR ht l rs' h1
    exact ⟨tmps.getD t undef :: vs, by simp only [List.mapM_cons, Sem.run_bind, Sem.run_pure, Result.andThen_ok, h3], .cons (ht t) h4⟩
  | .cell p ty :: l, rs, h => by
    simp only [resA] at h
    split at h
    · rename_i v hv
      obtain ⟨rs', h1, h2⟩ := Option.map_eq_some_iff.1 h
      subst h2
      obtain ⟨vs, h3, h4⟩ := xem hR ht l rs' h1
      obtain ⟨z, hz, hr⟩ := x3i (P := P) hR (fun _ _ e => e) (ht p) hv
      have hz' : (do loadVar ty (← asAddr (tmps.getD p undef)) : Sem Value).run P E.w = .ok z E.w := by
        generalize tmps.getD p undef = u at hz
        cases u with
        | pointer q =>
          cases q with
          | none => simp [Instr.loadAt, Instr.sureAddr] at hz
          | some q => simpa [Instr.loadAt, Instr.sureAddr, asAddr] using hz
        | _ => simp [Instr.loadAt, Instr.sureAddr] at hz
      refine ⟨z :: vs, ?_, .cons hr h4⟩
      simp only [List.mapM_cons]
      rw [Sem.run_bind, hz', Result.andThen_ok, Sem.run_bind, h3]
      rfl
    · cases h
theorem x4m {P : Program} {C : Ctx} {E : Env} {s : AS} (hR : HR C E s.H) {fn : Func} {tmps : Array Value} (ht : ∀ t, VRep E (s.T t) (tmps.getD t undef)) {rs : List AV} (h : resA P s fn.results.toList = some rs) :
    ∃ v, (results fn tmps).run P E.w = .ok v E.w ∧ VRep E (mkRes rs) v := by
  obtain ⟨vs, h1, h2⟩ := xem (P := P) hR ht _ _ h
  have hl := h2.length
  refine ⟨if h : vs.toArray.size = 1 then vs.toArray[0] else .tuple vs.toArray, ?_, ?_⟩
  · simp only [results, Array.mapM_eq_mapM_toList, Sem.run_bind, Sem.run_map]
    exact congrArg (fun r : Result (List Value) => (r.andThen fun a w' => Result.ok a.toArray w').andThen fun (a : Array Value) w' => Sem.run P (pure (if h : a.size = 1 then a[0] else Value.tuple a) : Sem Value) w') h1
  · match rs, vs, h2, hl with
    | [x], [v], h2, _ =>
      simp only [VReps] at h2
      obtain ⟨u, us', q1, q2, q3⟩ := h2
      injection q3 with q3 _
      subst q3
      exact q1
    | [], [], h2, _ =>
      simp only [mkRes, VRep]
      exact ⟨[], h2, rfl⟩
    | x :: y :: l, u :: v :: l', h2, _ =>
      simp only [mkRes, VRep]
      exact ⟨_, h2, by simp⟩
def argT (args : List AV) : Nat → AV := fun t => (args[t]?).getD (.val undef)
theorem xtv {P : Program} {f : FuncId} {fn : Func} {c : Code} (hf : P.funcs[f]? = some fn) (hb : fn.body = some c) (hcall : callable P f = true) {args : List AV} (hn : args.length ≤ fn.ntmps) {H : Nat → Option AO} {nx : Nat} {R : AV → (Nat → Option AO) → Nat → Prop}
    (h : awp P fn.ntmps c (retQ P fn R) ⟨argT args, H, nx⟩) : ACall P f args H nx R := by
  refine ⟨hcall, fun C E vals hR hK hv => ?_⟩
  have hl := hv.length
  refine calls_of_wp hf hb ?_
  have hS : SR C E nx fn.ntmps ⟨argT args, H, nx⟩ { tmps := vals.toArray ++ Array.replicate (fn.ntmps - vals.toArray.size) undef, defers := [] } E := by
    refine ⟨hR, Stab.refl E, hK, fun l k => .inl k, by simp; omega, rfl, fun t => ?_⟩
    simp only [argT]
    by_cases ht : t < args.length
    · rw [List.getElem?_eq_getElem ht]
      obtain ⟨u, h1, h2⟩ := hv.get t _ (List.getElem?_eq_getElem ht)
      have : (vals.toArray ++ Array.replicate (fn.ntmps - vals.toArray.size) undef).getD t undef = u := by
        have hlt : t < vals.length := by omega
        simp only [Array.getD_eq_getD_getElem?, Array.getElem?_append, List.size_toArray, if_pos hlt, List.getElem?_toArray, h1, Option.getD_some]
      rw [this]
      exact h2
    · rw [List.getElem?_eq_none (by omega)]
      have : (vals.toArray ++ Array.replicate (fn.ntmps - vals.toArray.size) undef).getD t undef = undef := by
        simp only [Array.getD_eq_getD_getElem?, Array.getElem?_append]
        rw [if_neg (by simp; omega)]
        simp only [Array.getElem?_replicate]
        split <;> rfl
      rw [this]
      exact xfj E
  refine wp_mono (h C E nx E _ (Nat.le_refl _) hS) ?_
  rintro e a' w' ⟨s', E', h1, h2, h3, rfl⟩
  have fin : (Got (resA P s' fn.results.toList) fun rs => R (mkRes rs) s'.H s'.nx) → a'.defers = [] ∧ ∃ v, (results fn a'.tmps).run P E'.w = .ok v E'.w ∧ ∃ (v' : Value) (r : AV) (H' : Nat → Option AO) (nx' : Nat) (E1 : Env), Ending.returned v = .returned v' ∧ R r H' nx' ∧ VRep E1 r v' ∧ HR C E1 H' ∧ Stab E E1 ∧ nx ≤ nx' ∧ (∀ l, E1.K l → E.K l ∨ (nx ≤ l ∧ l < nx')) ∧ E1.w = E'.w := by
    rintro ⟨rs, hrs, hR'⟩
    obtain ⟨v, hv1, hv2⟩ := x4m (P := P) h3.heap h3.tmps hrs
    exact ⟨h3.defers, v, hv1, v, _, s'.H, s'.nx, E', rfl, hR', hv2, h3.heap, h3.stab, h2, fun l kl => (h3.fresh l kl).elim .inl fun e => .inr ⟨e, h3.bound l kl⟩, rfl⟩
  cases e with
  | normal => exact fin h1
  | ret => exact fin h1
  | exit id => exact h1.elim
  | goto l => exact h1.elim
  | panic ch => exact h1.elim
  | outgrown => exact h1.elim
theorem xxq {P : Program} {f : FuncId} {args : List AV} {r : AV} (h : ACall P f args (fun _ => none) 0 fun r' H' _ => ∃ m, frz H' m r' = some r) : Ok P f args r := by
  refine ⟨h.1, fun Z w vals hZ hv => ?_⟩
  let C : Ctx := { base := w.heap.size, w0 := w, zone := Z, gw := hZ.gw, gb := hZ.gw.size }
  have hR : HR C (Ec Z w) (fun _ => none) :=
    ⟨Below.refl _ _, Nat.le_refl _, hZ.zlt, fun _ _ _ _ e => by simp [Ec] at e, fun b hz => .inl hz, fun _ => rfl, fun _ _ e => by simp [Ec] at e, fun _ _ _ _ _ e => by simp [Ec] at e, fun _ _ _ e => by simp at e, fun _ _ _ e => by simp [Ec] at e⟩
  refine (h.2 C (Ec Z w) vals hR (fun l k => k.elim) hv).mono ?_
  rintro e w' ⟨v, r', H', nx', E', rfl, ⟨m, hm⟩, hv', hR', hs, _, _, rfl⟩
  refine ⟨v, rfl, hR'.below, ?_⟩
  have h1 := (x8h hR' m).1 _ _ _ hm hv'
  refine VRep.stab (E := Ec (Zall E') E'.w) (E' := Ec (fun b => Z b ∨ (w.heap.size ≤ b ∧ b < E'.w.heap.size)) E'.w) ⟨fun _ h => h, fun _ (h : False) => h.elim, fun b hz => ⟨?_, rfl⟩⟩ _ _ h1
  rcases hz with hz | ⟨l, c, hz⟩
  · rcases hR'.zsrc b hz with h | h
    · exact .inl h
    · exact .inr ⟨h, hR'.zlt b hz⟩
  · exact .inr (hR'.old l b c hz)
def xez (Q : Exit → AS → Prop) : Exit → AS → Prop
  | .goto _, _ => False
  | e, s => Q e s
def jumpQ (l : Nat) (J : AS → Prop) (Q : Exit → AS → Prop) : Exit → AS → Prop
  | .goto l', s => l' = l ∧ J s
  | e, s => Q e s
theorem xm1 {P : Program} {n : Nat} {Q : Exit → AS → Prop} {s : AS} {c : Code} (h : awp P n c (xez Q) s) : awp P n (.scope c) Q s := by
  intro C E0 k0 E a hk hS
  refine wp_scope_straight (wp_mono (h C E0 k0 E a hk hS) ?_)
  rintro e a' w' ⟨s', E', h1, h2, h3, rfl⟩
  cases e with
  | goto l => exact h1.elim
  | exit id => exact ⟨s', E', h1, h2, h3, rfl⟩
  | normal => exact ⟨s', E', h1, h2, h3, rfl⟩
  | ret => exact ⟨s', E', h1, h2, h3, rfl⟩
  | panic ch => exact ⟨s', E', h1, h2, h3, rfl⟩
  | outgrown => exact ⟨s', E', h1, h2, h3, rfl⟩
open Classical in
theorem xis {P : Program} {n : Nat} {Q : Exit → AS → Prop} {s : AS} {c rest : Code} (l : Nat) (J : AS → Prop) (μ : AS → Nat) (hf : findLabel c l = some rest)
    (first : awp P n c (jumpQ l J Q) s) (pass : ∀ s, J s → awp P n rest (jumpQ l (fun s' => J s' ∧ μ s' < μ s) Q) s) : awp P n (.scope c) Q s := by
  intro C E0 k0 E a hk hS
  let p : Act → World → Nat → Prop := fun a w m => ∃ s E, J s ∧ k0 ≤ s.nx ∧ SR C E0 k0 n s a E ∧ E.w = w ∧ μ s = m
  let μ' : Act → World → Nat := fun a w => if h : ∃ m, p a w m then Classical.choose (xyb h) else 0
  have hμ : ∀ a w, (∃ m, p a w m) → p a w (μ' a w) ∧ ∀ k, p a w k → μ' a w ≤ k := by
    intro a w h
    simp only [μ', dif_pos h]
    exact Classical.choose_spec (xyb h)
  refine wp_scope_jumps l (fun a w => ∃ m, p a w m) μ' hf (wp_mono (first C E0 k0 E a hk hS) ?_) ?_
  · rintro e a' w' ⟨s', E', h1, h2, h3, rfl⟩
    cases e with
    | goto l' => exact ⟨h1.1, _, s', E', h1.2, h2, h3, rfl, rfl⟩
    | exit id => exact ⟨s', E', h1, h2, h3, rfl⟩
    | normal => exact ⟨s', E', h1, h2, h3, rfl⟩
    | ret => exact ⟨s', E', h1, h2, h3, rfl⟩
    | panic ch => exact ⟨s', E', h1, h2, h3, rfl⟩
    | outgrown => exact ⟨s', E', h1, h2, h3, rfl⟩
  · intro a w hI
    obtain ⟨⟨s1, E1, h1, h2, h3, h4, h5⟩, _⟩ := hμ a w hI
    subst h4
    refine wp_mono (pass s1 h1 C E0 k0 E1 a h2 h3) ?_
    rintro e a' w' ⟨s', E', g1, g2, g3, rfl⟩
    cases e with
    | goto l' =>
      obtain ⟨g1, g4, g5⟩ := g1
      have hp : p a' E'.w (μ s') := ⟨s', E', g4, g2, g3, rfl, rfl⟩
      refine ⟨g1, ⟨_, hp⟩, ?_⟩
      have := (hμ a' E'.w ⟨_, hp⟩).2 _ hp
      omega
    | exit id => exact ⟨s', E', g1, g2, g3, rfl⟩
    | normal => exact ⟨s', E', g1, g2, g3, rfl⟩
    | ret => exact ⟨s', E', g1, g2, g3, rfl⟩
    | panic ch => exact ⟨s', E', g1, g2, g3, rfl⟩
    | outgrown => exact ⟨s', E', g1, g2, g3, rfl⟩
end Go.Proofs.YtefdlpandfhcgaaGreatDoor.AL

