/- A law of the given program is proved: part 15 of 50. -/
import Derived.Test.YtefdlpandfhcgaaGreatDoorA14
set_option linter.all false
/- AL, part 13: calls (ACall, Ok), and code (awp). -/
set_option linter.unusedSimpArgs false
namespace Go.Proofs.YtefdlpandfhcgaaGreatDoor.AL
open Go.RowKit
def callable (P : Program) (f : FuncId) : Bool :=
  match P.funcs[f]? with
  | some fn => !(fn.name == "runtime.NumGoroutine") && fn.body.isSome
  | none => false
theorem xxv {P : Program} {f : FuncId} (h : callable P f = true) (w : World) (args : Array Value) : (callFunc f args).run P w = .ok (.enter f args) w := by
  unfold callable at h
  split at h
  · rename_i fn hf
    simp only [Bool.and_eq_true, Bool.not_eq_true'] at h
    obtain ⟨h1, h2⟩ := h
    have h3 : fn.body.isNone = false := by cases hb : fn.body <;> simp_all
    unfold callFunc
    simp only [Sem.run_bind, run_program, Result.andThen_ok, hf, h1, h3, Bool.false_eq_true, if_false, Sem.run_pure]
  · cases h
def ACall (P : Program) (f : FuncId) (args : List AV) (H : Nat → Option AO) (nx : Nat) (R : AV → (Nat → Option AO) → Nat → Prop) : Prop :=
  callable P f = true ∧ ∀ (C : Ctx) (E : Env) (vals : List Value), HR C E H → (∀ l, E.K l → l < nx) → VReps E args vals →
    Calls P f vals.toArray E.w fun e w' => ∃ (v : Value) (r : AV) (H' : Nat → Option AO) (nx' : Nat) (E' : Env), e = .returned v ∧ R r H' nx' ∧ VRep E' r v ∧ HR C E' H' ∧ Stab E E' ∧ nx ≤ nx' ∧ (∀ l, E'.K l → E.K l ∨ (nx ≤ l ∧ l < nx')) ∧ E'.w = w'
def Ok (P : Program) (f : FuncId) (args : List AV) (r : AV) : Prop :=
  callable P f = true ∧ ∀ (Z : Nat → Prop) (w : World) (vals : List Value), ZG Z w → VReps (Ec Z w) args vals →
    Calls P f vals.toArray w fun e w' => ∃ v, e = .returned v ∧ Below w.heap.size w w' ∧ VRep (Ec (fun b => Z b ∨ (w.heap.size ≤ b ∧ b < w'.heap.size)) w') r v
theorem VReps.toArray_map {E : Env} {ρ : Operand → AV} {ρc : Operand → Value} (args : Array Operand) (h : ∀ x ∈ args.toList, VRep E (ρ x) (ρc x)) : VReps E (args.toList.map ρ) (args.map ρc).toList := by
  rw [Array.toList_map]
  exact VReps.of_map ρ ρc _ h
def xvb (ρ : Operand → AV) (c : Call) : Option (FuncId × List AV) :=
  match c.callee with
  | .value fo => match ρ fo with
    | .fn (.func f) first cap => some (f, first ++ (c.args.toList.map ρ ++ cap))
    | _ => none
  | _ => none
theorem x7g {P : Program} {E : Env} {a : Act} {ρ : Operand → AV} {o : Oper} {c : Call} (ho : o.op = .call c) (hρ : ∀ x ∈ o.op.operands.toList, VRep E (ρ x) (a.eval x)) {f : FuncId} {as : List AV} (h : xvb ρ c = some (f, as)) (hf : callable P f = true) :
    ∃ vals, VReps E as vals ∧ (execOp a.eval o).run P E.w = .ok (.enter f vals.toArray) E.w := by
  unfold xvb at h
  split at h
  · rename_i fo hfo
    split at h
    · rename_i f' first cap he
      injection h with h
      injection h with h1 h2
      subst h1; subst h2
      have h1 := hρ fo (by simp [ho, Op.operands, Call.operands, hfo])
      rw [he] at h1
      simp only [VRep] at h1
      obtain ⟨va, vb, h2, h3, h4⟩ := h1
      have h5 := VReps.toArray_map (ρ := ρ) (ρc := a.eval) c.args (fun x hx => hρ x (by simp [ho, Op.operands, Call.operands, hfo]; exact .inr (by simpa using hx)))
      refine ⟨va ++ ((c.args.map a.eval).toList ++ vb), h2.append (h5.append h3), ?_⟩
      simp only [execOp, ho, resolve, hfo, h4, Deferred.ofValue, Sem.run_bind, Sem.run_pure, Result.andThen_ok, invoke]
      rw [xxv hf]
      congr 2
      apply Array.ext'
      simp
    · cases h
  · cases h
theorem SemOp.acall {P : Program} {o : Oper} {H : Nat → Option AO} {nx new : Nat} {ρ : Operand → AV} {k : AV → (Nat → Option AO) → Nat → Prop} {c : Call} (ho : o.op = .call c) {f : FuncId} {as : List AV} (hc : xvb ρ c = some (f, as)) (h : ACall P f as H nx k) :
    SemOp P o H nx new ρ k := by
  intro C E a hR hρ hn hb hnx next Q hnext
  obtain ⟨vals, h1, h2⟩ := x7g (P := P) ho hρ hc h.1
  unfold Oper.wp
  rw [h2, Oper.upon_enter]
  refine (h.2 C E vals hR hb h1).mono ?_
  rintro e w' ⟨v, r, H', nx', E', rfl, hr, hv, hR', hs, hle, hK, rfl⟩
  exact hnext r v H' nx' E' hr hv hR' hs hle fun l kl => (hK l kl).elim .inl fun e => .inr (.inr e)
theorem xqk {C : Ctx} {E : Env} {H : Nat → Option AO} (hR : HR C E H) {w' : World} (hb : Below E.w.heap.size E.w w') :
    let E' : Env := { E with w := w', Z := fun b => E.Z b ∨ (E.w.heap.size ≤ b ∧ b < w'.heap.size) }
    HR C E' H ∧ Stab E E' := by
  intro E'
  have hs : Stab E E' := ⟨fun _ h => h, fun _ _ _ e => e, fun b hz => ⟨.inl hz, hb.block b (hR.zlt b hz)⟩⟩
  refine ⟨⟨hR.below.trans (hb.mono hR.base), Nat.le_trans hR.base hb.size, ?_, ?_, ?_, hR.dom, hR.known, hR.inj, ?_, ?_⟩, hs⟩
  · intro b hz
    rcases hz with hz | hz
    · have := hR.zlt b hz; have := hb.size; show b < w'.heap.size; omega
    · exact hz.2
  · intro b hz l c e
    rcases hz with hz | hz
    · exact hR.zlive b hz l c e
    · have := (hR.old l b c e).2; omega
  · intro b hz
    rcases hz with hz | hz
    · exact hR.zsrc b hz
    · exact .inr (Nat.le_trans hR.base hz.1)
  · intro l o p e e'
    exact (hR.obj l o p e e').stab hs (fun b c hp => hb.block b (hR.old l b c (hp ▸ e')).2)
  · intro l b c e
    have h1 := hR.old l b c e
    have h2 := hb.size
    exact ⟨h1.1, by show b < w'.heap.size; omega⟩
theorem SemOp.okArgs {P : Program} {o : Oper} {H : Nat → Option AO} {new : Nat} {ρ : Operand → AV} {c : Call} (ho : o.op = .call c) {f : FuncId} {as as' : List AV} {r : AV} (hc : xvb ρ c = some (f, as)) (h : Ok P f as' r)
    (hcl : (closeds as = true ∧ as' = as) ∨ (∃ m, frzs H m as = some as') ∧ flat r = true) : OpS P o H ρ new r [] := by
  intro C E H2 a hR hV hρ hn next Q hnext
  obtain ⟨vals, h1, h2⟩ := x7g (P := P) ho hρ hc h.1
  unfold Oper.wp
  rw [h2, Oper.upon_enter]
  rcases hcl with ⟨hcl, rfl⟩ | ⟨⟨m, hm⟩, hfl⟩
  · refine (h.2 E.Z E.w vals ⟨hR.zlt, hR.gw⟩ (VReps.close (fun b hz => hz) _ _ hcl h1)).mono ?_
    rintro e w' ⟨v, rfl, hb, hv⟩
    obtain ⟨k1, k2⟩ := xqk hR hb
    refine hnext v _ ?_ k1 k2 fun l kl => .inl kl
    exact hv.stab (Ec.stab (E := { E with w := w', Z := fun b => E.Z b ∨ (E.w.heap.size ≤ b ∧ b < w'.heap.size) }) fun b hz => hz)
  · -- the arguments' objects are read off: of what comes back nothing may lie there
    have key : VReps (Ec (Zall E) E.w) as' vals := by
      -- what is read off holds in the whole heap
      have hmono : ∀ k : Nat, (∀ (x y : AV), frz H k x = some y → frz H2 k x = some y) ∧ (∀ (xs ys : List AV), frzs H k xs = some ys → frzs H2 k xs = some ys) := by
        intro k
        induction k with
        | zero => exact ⟨fun x y h => h, fun x y h => h⟩
        | succ k ih =>
          obtain ⟨i1, i2⟩ := ih
          constructor
          · intro x y hx
            unfold frz at hx ⊢
            split at hx
            · rename_i hcx; rw [if_pos hcx]; exact hx
            · rename_i hcx
              rw [if_neg hcx]
              split at hx
              · obtain ⟨z, q1, q2⟩ := Option.map_eq_some_iff.1 hx; simp [i2 _ _ q1, q2]
              · obtain ⟨z, q1, q2⟩ := Option.map_eq_some_iff.1 hx; simp [i2 _ _ q1, q2]
              · obtain ⟨z, q1, q2⟩ := Option.map_eq_some_iff.1 hx; simp [i2 _ _ q1, q2]
              · obtain ⟨z, q1, q2⟩ := Option.map_eq_some_iff.1 hx; simp [i1 _ _ q1, q2]
              · rename_i l sz i off
                cases hl : H l with
                | none => simp [hl] at hx
                | some ob =>
                  rw [hl] at hx
                  rw [hV l ob hl]
                  cases ob with
                  | row T sz' xs =>
                    simp only at hx ⊢
                    split at hx
                    · rename_i e
                      rw [if_pos e]
                      cases hi : xs[i]? with
                      | none => simp [hi] at hx
                      | some y' =>
                        rw [hi] at hx
                        obtain ⟨z, q1, q2⟩ := Option.map_eq_some_iff.1 hx
                        simp [i1 _ _ q1, q2]
                    · cases hx
                  | map ks vs => cases hx
                  | siter s p => cases hx
                  | mapb bs ck ks vs => cases hx
              · rename_i l n
                cases hl : H l with
                | none => simp [hl] at hx
                | some ob =>
                  rw [hl] at hx
                  rw [hV l ob hl]
                  cases ob with
                  | row T sz' xs =>
                    simp only at hx ⊢
                    split at hx
                    · rename_i e
                      rw [if_pos e]
                      obtain ⟨z, q1, q2⟩ := Option.map_eq_some_iff.1 hx
                      simp [i2 _ _ q1, q2]
                    · cases hx
                  | map ks vs => cases hx
                  | siter s p => cases hx
                  | mapb bs ck ks vs => cases hx
              · exact hx
              · rename_i l sz' q n
                cases hl : H l with
                | none => simp [hl] at hx
                | some ob =>
                  rw [hl] at hx
                  rw [hV l ob hl]
                  cases ob with
                  | row T s2 xs =>
                    simp only at hx ⊢
                    split at hx
                    · rename_i e
                      rw [if_pos e]
                      obtain ⟨z, q1, q2⟩ := Option.map_eq_some_iff.1 hx
                      simp [i2 _ _ q1, q2]
                    · cases hx
                  | map ks vs => cases hx
                  | siter s p => cases hx
                  | mapb bs ck ks vs => cases hx
              · rename_i f' a' b'
                cases ha : frzs H k a' with
                | none => simp [ha] at hx
                | some a2 =>
                  cases hb : frzs H k b' with
                  | none => simp [ha, hb] at hx
                  | some b2 =>
                    rw [ha, hb] at hx
                    rw [i2 _ _ ha, i2 _ _ hb]
                    exact hx
              · obtain ⟨z, q1, q2⟩ := Option.map_eq_some_iff.1 hx; simp [i1 _ _ q1, q2]
              · cases hx
          · intro xs ys hx
            unfold frzs at hx ⊢
            split at hx
            · rename_i hcx; rw [if_pos hcx]; exact hx
            · rename_i hcx
              rw [if_neg hcx]
              split at hx
              · exact hx
              · rename_i x xs'
                cases ha : frz H k x with
                | none => simp [ha] at hx
                | some a2 =>
                  cases hb : frzs H k xs' with
                  | none => simp [ha, hb] at hx
                  | some b2 =>
                    rw [ha, hb] at hx
                    simp only [i1 _ _ ha, i2 _ _ hb]
                    exact hx
      exact (x8h hR m).2 _ _ _ ((hmono m).2 _ _ hm) h1
    refine (h.2 (Zall E) E.w vals ⟨?_, hR.gw⟩ key).mono ?_
    · intro b hz
      rcases hz with hz | ⟨l, c, hz⟩
      · exact hR.zlt b hz
      · exact (hR.old l b c hz).2
    rintro e w' ⟨v, rfl, hb, hv⟩
    obtain ⟨k1, k2⟩ := xqk hR hb
    exact hnext v _ (VRep.flat r v hfl hv) k1 k2 fun l kl => .inl kl
theorem SemOp.ok {P : Program} {o : Oper} {H : Nat → Option AO} {nx new : Nat} {ρ : Operand → AV} {k : AV → (Nat → Option AO) → Nat → Prop} {c : Call} (ho : o.op = .call c) {f : FuncId} {as : List AV} {r : AV} (hc : xvb ρ c = some (f, as)) (h : Ok P f as r) (hcl : closeds as = true) (hk : k r H nx) :
    SemOp P o H nx new ρ k := (SemOp.okArgs ho hc h (.inl ⟨hcl, rfl⟩)).sem hk
theorem SemOp.okb {P : Program} {o : Oper} {H : Nat → Option AO} {nx new : Nat} {ρ : Operand → AV} {k : AV → (Nat → Option AO) → Nat → Prop} {c : Call} (ho : o.op = .call c) {f : FuncId} {as as' : List AV} {r : AV} (m : Nat) (hc : xvb ρ c = some (f, as)) (hm : frzs H m as = some as') (h : Ok P f as' r) (hfl : flat r = true) (hk : k r H nx) :
    SemOp P o H nx new ρ k := (SemOp.okArgs ho hc h (.inr ⟨⟨m, hm⟩, hfl⟩)).sem hk
def awp (P : Program) (n : Nat) (c : Code) (Q : Exit → AS → Prop) (s : AS) : Prop :=
  ∀ (C : Ctx) (E0 : Env) (k0 : Nat) (E : Env) (a : Act), k0 ≤ s.nx → SR C E0 k0 n s a E → c.wp P (fun e a' w' => ∃ s' E', Q e s' ∧ k0 ≤ s'.nx ∧ SR C E0 k0 n s' a' E' ∧ E'.w = w') a E.w
section rules
variable {P : Program} {n : Nat} {Q : Exit → AS → Prop} {s : AS}
theorem xl5 {c : Code} {Q' : Exit → AS → Prop} (h : awp P n c Q' s) (hq : ∀ e s, Q' e s → Q e s) : awp P n c Q s :=
  fun C E0 k0 E a hk hS => wp_mono (h C E0 k0 E a hk hS) fun e a w ⟨s', E', h1, h2⟩ => ⟨s', E', hq e s' h1, h2⟩
def seqQ (next : AS → Prop) (Q : Exit → AS → Prop) : Exit → AS → Prop
  | .normal, s => next s
  | e, s => Q e s
theorem xuab {x y : Code} (h : awp P n x (seqQ (awp P n y Q) Q) s) : awp P n (.seq x y) Q s := by
  intro C E0 k0 E a hk hS
  refine wp_seq (wp_mono (h C E0 k0 E a hk hS) ?_)
  rintro e a' w' ⟨s', E', h1, h2, h3, rfl⟩
  cases e with
  | normal => exact h1 C E0 k0 E' a' h2 h3
  | exit id => exact ⟨s', E', h1, h2, h3, rfl⟩
  | goto l => exact ⟨s', E', h1, h2, h3, rfl⟩
  | ret => exact ⟨s', E', h1, h2, h3, rfl⟩
  | panic ch => exact ⟨s', E', h1, h2, h3, rfl⟩
  | outgrown => exact ⟨s', E', h1, h2, h3, rfl⟩
theorem xh6 {x y : Code} {o : Operand} {b : Bool} (hb : ev s.T o = .val (.bool b)) (h1 : b = true → awp P n x Q s) (h2 : b = false → awp P n y Q s) : awp P n (.cond o x y) Q s := by
  intro C E0 k0 E a hk hS
  have he := ev_rep hS.tmps o
  rw [hb] at he
  simp only [VRep] at he
  exact wp_cond_split he (fun e => h1 e C E0 k0 E a hk hS) fun e => h2 e C E0 k0 E a hk hS
theorem xo6 (h : Q .normal s) : awp P n .skip Q s := fun _ _ _ E _ hk hS => wp_skip ⟨s, E, h, hk, hS, rfl⟩
theorem x16 {id : Nat} (h : Q (.exit id) s) : awp P n (.exit id) Q s := fun _ _ _ E _ hk hS => wp_exit ⟨s, E, h, hk, hS, rfl⟩
theorem xz9 (h : Q .ret s) : awp P n .ret Q s := fun _ _ _ E _ hk hS => wp_ret ⟨s, E, h, hk, hS, rfl⟩
theorem xk1 {l : Nat} (h : Q .normal s) : awp P n (.label l) Q s := fun _ _ _ E _ hk hS => wp_label ⟨s, E, h, hk, hS, rfl⟩
theorem xd6 {l : Nat} (h : Q (.goto l) s) : awp P n (.goto l) Q s := fun _ _ _ E _ hk hS => wp_goto ⟨s, E, h, hk, hS, rfl⟩
def blockQ (id : Nat) (Q : Exit → AS → Prop) : Exit → AS → Prop
  | .exit id', s => if id' = id then Q .normal s else Q (.exit id') s
  | e, s => Q e s
theorem xp1 {id : Nat} {c : Code} (h : awp P n c (blockQ id Q) s) : awp P n (.block id c) Q s := by
  intro C E0 k0 E a hk hS
  refine wp_block (wp_mono (h C E0 k0 E a hk hS) ?_)
  rintro e a' w' ⟨s', E', h1, h2, h3, rfl⟩
  cases e with
  | exit id' =>
    simp only [blockQ] at h1
    simp only [Exit.inBlock]
    split
    · rename_i e; rw [if_pos e] at h1; exact ⟨s', E', h1, h2, h3, rfl⟩
    · rename_i e; rw [if_neg e] at h1; exact ⟨s', E', h1, h2, h3, rfl⟩
  | normal => exact ⟨s', E', h1, h2, h3, rfl⟩
  | goto l => exact ⟨s', E', h1, h2, h3, rfl⟩
  | ret => exact ⟨s', E', h1, h2, h3, rfl⟩
  | panic ch => exact ⟨s', E', h1, h2, h3, rfl⟩
  | outgrown => exact ⟨s', E', h1, h2, h3, rfl⟩
theorem xyb {p : Nat → Prop} (h : ∃ m, p m) : ∃ m, p m ∧ ∀ k, p k → m ≤ k := by
  obtain ⟨m, hm⟩ := h
  induction m using Nat.strongRecOn with
  | _ m ih =>
    by_cases hex : ∃ k, k < m ∧ p k
    · obtain ⟨k, h1, h2⟩ := hex
      exact ih k h1 h2
    · exact ⟨m, hm, fun k hk => Nat.le_of_not_lt fun hlt => hex ⟨k, hlt, hk⟩⟩
open Classical in
theorem xm6 {c : Code} (I : AS → Prop) (μ : AS → Nat) (h0 : I s) (round : ∀ s, I s → awp P n c (seqQ (fun s' => I s' ∧ μ s' < μ s) Q) s) : awp P n (.loop c) Q s := by
  intro C E0 k0 E a hk hS
  let p : Act → World → Nat → Prop := fun a w m => ∃ s E, I s ∧ k0 ≤ s.nx ∧ SR C E0 k0 n s a E ∧ E.w = w ∧ μ s = m
  let μ' : Act → World → Nat := fun a w => if h : ∃ m, p a w m then Classical.choose (xyb h) else 0
  have hμ : ∀ a w, (∃ m, p a w m) → p a w (μ' a w) ∧ ∀ k, p a w k → μ' a w ≤ k := by
    intro a w h
    simp only [μ', dif_pos h]
    exact Classical.choose_spec (xyb h)
  refine wp_loop (fun a w => ∃ m, p a w m) μ' ⟨_, s, E, h0, hk, hS, rfl, rfl⟩ ?_
  intro a w hI
  obtain ⟨⟨s1, E1, h1, h2, h3, h4, h5⟩, _⟩ := hμ a w hI
  subst h4
  refine wp_mono (round s1 h1 C E0 k0 E1 a h2 h3) ?_
  rintro e a' w' ⟨s', E', g1, g2, g3, rfl⟩
  cases e with
  | normal =>
    obtain ⟨g1, g4⟩ := g1
    have hp : p a' E'.w (μ s') := ⟨s', E', g1, g2, g3, rfl, rfl⟩
    refine ⟨⟨_, hp⟩, ?_⟩
    have := (hμ a' E'.w ⟨_, hp⟩).2 _ hp
    omega
  | exit id => exact ⟨s', E', g1, g2, g3, rfl⟩
  | goto l => exact ⟨s', E', g1, g2, g3, rfl⟩
  | ret => exact ⟨s', E', g1, g2, g3, rfl⟩
  | panic ch => exact ⟨s', E', g1, g2, g3, rfl⟩
  | outgrown => exact ⟨s', E', g1, g2, g3, rfl⟩
theorem xzz {id : Nat} {ops : Array Oper} (hfit : fits n ops = true) (h : wps P ops s.nx 0 ops.toList ⟨s.T, s.H, s.nx + ops.size⟩ (Q .normal)) : awp P n (.region id ops false) Q s := by
  intro C E0 k0 E a hk hS
  refine wp_region_list ?_
  have hS' : SR C E0 k0 n ⟨s.T, s.H, s.nx + ops.size⟩ a E := ⟨hS.heap, hS.stab, fun l kl => by have := hS.bound l kl; show l < s.nx + ops.size; omega, hS.fresh, hS.size, hS.defers, hS.tmps⟩
  refine xkl (Q := fun e a' w' => ∃ s' E', Q e s' ∧ k0 ≤ s'.nx ∧ SR C E0 k0 n s' a' E' ∧ E'.w = w') hfit hk (K := fun s2 => Q .normal s2) ?_ ops.toList 0 _ a E (fun o h => h) hS' ?_ (by simp) h
  · intro s2 a2 E2 hq hk2 hS2
    exact ⟨s2, E2, hq, hk2, hS2, rfl⟩
  · intro j h1 h2 kj
    have := hS.bound _ kj
    omega
end rules
end Go.Proofs.YtefdlpandfhcgaaGreatDoor.AL

