/- A law of the given program is proved: part 40 of 50. -/
import Derived.OwnWalkIn
import Derived.Test.YtefdlpandfhcgaaGreatDoorA39
set_option linter.all false
/- AL: straight text in a round of a range over a function, and behind one. -/
set_option linter.all false
namespace Go.Proofs.YtefdlpandfhcgaaGreatDoor.AL
open Go.RowKit
def Fl (ro : Option Nat) : Fence := { Fence.wide with round := ro }
theorem xi0 {ro : Option Nat} {n : Nat} {P : Program} {f : FuncId} {args : Array Value} {w : World} {R : Ending → World → Prop} (h : Calls P f args w R) : CallsIn (Fl ro) n P f args w R := (callsIn_wide (n := n)).2 h
theorem xy1 {ro : Option Nat} {n : Nat} {P : Program} {row : String} {args : Array Value} {w : World} {R : Value → World → Prop} (h : Rows P row args w R) : RowsIn (Fl ro) n P row args w R := fun c cs _ => let ⟨v, w', r, s⟩ := h c cs; ⟨v, w', r, stepsIn_wide.2 s⟩
section
variable {P : Program} {ops : Array Oper} {Q Q' : Exit → Act → World → Prop}
theorem xon (hq : ∀ a w, Q .normal a w → a.defers = []) (hp : ∀ ch a w, ¬ Q (.panic ch) a w) (ho : ¬ LetsOut Q) : ∀ (l : List Oper) (a : Act) (w : World), wpList P ops Q l a w → a.defers = []
  | [], a, w, h => hq a w h
  | o :: rest, a, w, h => by
    have ih := xon hq hp ho rest
    unfold wpList at h
    split at h
    · rcases h with h | h
      · unfold Oper.wp Oper.upon at h
        split at h
        · exact (xfc (d := o.dst)).symm.trans (ih _ _ h)
        · exact (xfc (d := o.dst)).symm.trans (ih _ _ h)
        · have := (xfc (d := o.dst)).symm.trans (ih _ _ h)
          cases this
        · obtain ⟨e, w', fr, h1, _⟩ := h []
          cases e with
          | returned v => exact (xfc (d := o.dst)).symm.trans (ih _ _ h1)
          | panicked ch => exact (hp _ _ _ h1).elim
          | outgrown => exact (ho h1).elim
        · obtain ⟨v, w', h1, _⟩ := h default []
          exact (xfc (d := o.dst)).symm.trans (ih _ _ h1)
        · exact (hp _ _ _ h).elim
        · exact h.elim
      · exact (ho h.2).elim
    · exact (xfc (d := o.dst)).symm.trans (ih _ _ h)
theorem xtk (a : Act) (ds : List Deferred) (d : Option Tmp) (v : Value) : ({ a with defers := ds } : Act).put d v = { a.put d v with defers := ds } := by cases d <;> rfl
theorem xqo (a : Act) (ds : List Deferred) : ({ a with defers := ds } : Act).eval = a.eval := by funext o; cases o <;> rfl
theorem xqq {ro : Option Nat} {m : Nat} {ds : List Deferred} (hq : ∀ a w, Q .normal a w → a.defers = [] ∧ Q' .normal { a with defers := ds } w) (hp : ∀ ch a w, ¬ Q (.panic ch) a w) (ho : ¬ LetsOut Q) :
    ∀ (l : List Oper), (∀ o ∈ l, ∀ c, o.op ≠ .defer c) → ∀ (a : Act) (w : World), wpList P ops Q l a w → wpListIn (Fl ro) m P ops Q' l { a with defers := ds } w
  | [], _, a, w, h => (hq a w h).2
  | o :: rest, hd, a, w, h => by
    have ih := xqq (ro := ro) (m := m) (ds := ds) hq hp ho rest (fun o h => hd o (by simp [h]))
    have df := fun a w h => xon (P := P) (ops := ops) (fun a w h => (hq a w h).1) hp ho rest a w h
    unfold wpList at h
    unfold wpListIn
    split at h
    · rename_i hw
      rw [if_pos hw]
      refine ⟨fun _ _ => trivial, ?_⟩
      rw [Oper.semAt_eq _ _ _ (hd o (by simp)), xqo]
      rcases h with h | h
      · unfold Oper.wp Oper.upon at h
        split at h
        · rename_i e; rw [e, Oper.uponIn_value, xtk]; exact ih _ _ h
        · rename_i e; rw [e, Oper.uponIn_skip, xtk]; exact ih _ _ h
        · have := (xfc (d := o.dst)).symm.trans (df _ _ h)
          cases this
        · rename_i e; rw [e, Oper.uponIn_enter]
          refine ⟨fun h => (by cases ro <;> cases h), xi0 (h.mono ?_)⟩
          rintro e' w' h1
          cases e' with
          | returned v => show wpListIn _ _ _ _ _ _ _ _; rw [xtk]; exact ih _ _ h1
          | panicked ch => exact (hp _ _ _ h1).elim
          | outgrown => exact (ho h1).elim
        · rename_i e; rw [e, Oper.uponIn_row]
          refine ⟨fun h => (by cases ro <;> cases h), xy1 (h.mono ?_)⟩
          intro v w' h1
          rw [xtk]; exact ih _ _ h1
        · exact (hp _ _ _ h).elim
        · exact h.elim
      · exact (ho h.2).elim
    · rename_i hw
      rw [if_neg hw]
      refine ⟨fun _ _ => trivial, ?_⟩
      rw [xtk]
      exact ih _ _ h
end
def xyv : Op → Bool
  | .defer _ => false
  | _ => true
def frag : AC → Bool
  | .skip => true
  | .ret => true
  | .exit _ => true
  | .region l => l.all fun o => xyv o.op
  | .seq a b => frag a && frag b
  | .cond _ a b => frag a && frag b
  | .block _ c => frag c
  | _ => false
theorem xdp {ops : Array Oper} : ∀ {l : List Oper} {xs : List O1}, xz ops l = some xs → ∀ o ∈ l, ∃ x ∈ xs, x.op = o.op
  | [], xs, h, o, ho => by simp at ho
  | o' :: l, xs, h, o, ho => by
    simp only [xz] at h
    split at h
    · rename_i x xs' g1 g2
      injection h with h
      subst h
      rcases List.mem_cons.1 ho with rfl | ho
      · exact ⟨x, by simp, (xyh g1).1⟩
      · obtain ⟨y, hy, e⟩ := xdp g2 o ho
        exact ⟨y, by simp [hy], e⟩
    · cases h
section
variable {P : Program} {ro : Option Nat} {m n : Nat} {ds : List Deferred}
def RS (C : Ctx) (E0 : Env) (k0 n : Nat) (ds : List Deferred) (Q : Exit → AS → Prop) : Exit → Act → World → Prop := fun e a' w' => ∃ s' E' a0, Q e s' ∧ k0 ≤ s'.nx ∧ SR C E0 k0 n s' a0 E' ∧ a' = { a0 with defers := ds } ∧ E'.w = w'
theorem wps_in {ops : Array Oper} {l : List O1} {Q : Exit → AS → Prop} {s : AS} {id : Nat} (h1 : fits n ops = true) (h2 : xz ops ops.toList = some l) (hd : l.all (fun o => xyv o.op) = true)
    (h : wps1 P s.nx 0 l ⟨s.T, s.H, s.nx + l.length⟩ (Q .normal)) {C : Ctx} {E0 : Env} {k0 : Nat} {E : Env} {a : Act} (hk : k0 ≤ s.nx) (hS : SR C E0 k0 n s a E) :
    (Code.region id ops false).wpIn (Fl ro) m P (RS C E0 k0 n ds Q) { a with defers := ds } E.w := by
  have hl : ∀ (l : List Oper) (xs : List O1), xz ops l = some xs → xs.length = l.length := by
    intro l
    induction l with
    | nil => intro xs h; simp only [xz] at h; injection h with h; subst h; rfl
    | cons o l ih =>
      intro xs h
      simp only [xz] at h
      split at h
      · rename_i x xs' g1 g2
        injection h with h
        subst h
        simp [ih _ g2]
      · cases h
  have h' := xfk _ _ _ _ h2 h
  rw [hl _ _ h2] at h'
  simp only [Array.length_toList] at h'
  have hS' : SR C E0 k0 n ⟨s.T, s.H, s.nx + ops.size⟩ a E := ⟨hS.heap, hS.stab, fun l kl => by have := hS.bound l kl; show l < s.nx + ops.size; omega, hS.fresh, hS.size, hS.defers, hS.tmps⟩
  refine wpIn_region_list (xqq (Q := fun e a' w' => e = .normal ∧ ∃ s' E', Q .normal s' ∧ k0 ≤ s'.nx ∧ SR C E0 k0 n s' a' E' ∧ E'.w = w') ?_ ?_ ?_ ops.toList ?_ a E.w
    (xkl h1 hk (K := fun s2 => Q .normal s2) ?_ ops.toList 0 _ a E (fun o h => h) hS' ?_ (by simp) h'))
  · rintro a' w' ⟨_, s', E', g1, g2, g3, rfl⟩
    exact ⟨g3.defers, s', E', a', g1, g2, g3, rfl, rfl⟩
  · rintro ch a w ⟨e, _⟩; cases e
  · rintro ⟨a, w, e, _⟩; cases e
  · intro o ho c e
    obtain ⟨x, hx, ex⟩ := xdp h2 o ho
    have := List.all_eq_true.1 hd x hx
    rw [ex, e] at this
    cases this
  · intro s2 a2 E2 hq hk2 hS2
    exact ⟨rfl, s2, E2, hq, hk2, hS2, rfl⟩
  · intro j h1 h2 kj
    have := hS.bound _ kj
    omega
theorem cw_in : ∀ (x : AC) {Q : Exit → AS → Prop} {s : AS}, frag x = true → cw P n x Q s → ∀ c, comp n c = some x → ∀ {C : Ctx} {E0 : Env} {k0 : Nat} {E : Env} {a : Act}, k0 ≤ s.nx → SR C E0 k0 n s a E →
    c.wpIn (Fl ro) m P (RS C E0 k0 n ds Q) { a with defers := ds } E.w
  | .skip, Q, s, _, h, c, hc, C, E0, k0, E, a, hk, hS => by rw [xep hc]; exact wpIn_skip ⟨s, E, a, h, hk, hS, rfl, rfl⟩
  | .ret, Q, s, _, h, c, hc, C, E0, k0, E, a, hk, hS => by rw [xzw hc]; exact wpIn_ret ⟨s, E, a, h, hk, hS, rfl, rfl⟩
  | .exit id, Q, s, _, h, c, hc, C, E0, k0, E, a, hk, hS => by rw [x2n hc]; exact wpIn_exit ⟨s, E, a, h, hk, hS, rfl, rfl⟩
  | .region l, Q, s, hf, h, c, hc, C, E0, k0, E, a, hk, hS => by
    obtain ⟨id, ops, rfl, h1, h2⟩ := xnl hc
    exact wps_in h1 h2 hf h hk hS
  | .seq x y, Q, s, hf, h, c, hc, C, E0, k0, E, a, hk, hS => by
    simp only [frag, Bool.and_eq_true] at hf
    obtain ⟨c1, c2, rfl, h1, h2⟩ := xkm hc
    refine wpIn_seq (wpIn_mono (cw_in x hf.1 h c1 h1 hk hS) ?_)
    rintro e a' w' ⟨s', E', a0, g1, g2, g3, rfl, rfl⟩
    cases e with
    | normal => exact cw_in y hf.2 g1 c2 h2 g2 g3
    | exit id => exact ⟨s', E', a0, g1, g2, g3, rfl, rfl⟩
    | goto l => exact ⟨s', E', a0, g1, g2, g3, rfl, rfl⟩
    | ret => exact ⟨s', E', a0, g1, g2, g3, rfl, rfl⟩
    | panic ch => exact ⟨s', E', a0, g1, g2, g3, rfl, rfl⟩
    | outgrown => exact ⟨s', E', a0, g1, g2, g3, rfl, rfl⟩
  | .cond o x y, Q, s, hf, h, c, hc, C, E0, k0, E, a, hk, hS => by
    simp only [frag, Bool.and_eq_true] at hf
    obtain ⟨c1, c2, rfl, h1, h2⟩ := xcp hc
    unfold cw condV at h
    split at h
    · rename_i e
      have he := ev_rep hS.tmps o
      rw [e] at he
      simp only [VRep] at he
      exact wpIn_cond_true (by rw [xqo]; exact he) (cw_in x hf.1 h c1 h1 hk hS)
    · rename_i e
      have he := ev_rep hS.tmps o
      rw [e] at he
      simp only [VRep] at he
      exact wpIn_cond_false (by rw [xqo]; exact he) (cw_in y hf.2 h c2 h2 hk hS)
    · exact h.elim
  | .block id x, Q, s, hf, h, c, hc, C, E0, k0, E, a, hk, hS => by
    simp only [frag] at hf
    obtain ⟨c1, rfl, h1⟩ := xrm hc
    refine wpIn_block (wpIn_mono (cw_in x hf h c1 h1 hk hS) ?_)
    rintro e a' w' ⟨s', E', a0, g1, g2, g3, rfl, rfl⟩
    cases e with
    | exit id' =>
      simp only [blockQ] at g1
      simp only [Exit.inBlock]
      split
      · rename_i e; rw [if_pos e] at g1; exact ⟨s', E', a0, g1, g2, g3, rfl, rfl⟩
      · rename_i e; rw [if_neg e] at g1; exact ⟨s', E', a0, g1, g2, g3, rfl, rfl⟩
    | normal => exact ⟨s', E', a0, g1, g2, g3, rfl, rfl⟩
    | goto l => exact ⟨s', E', a0, g1, g2, g3, rfl, rfl⟩
    | ret => exact ⟨s', E', a0, g1, g2, g3, rfl, rfl⟩
    | panic ch => exact ⟨s', E', a0, g1, g2, g3, rfl, rfl⟩
    | outgrown => exact ⟨s', E', a0, g1, g2, g3, rfl, rfl⟩
end
end Go.Proofs.YtefdlpandfhcgaaGreatDoor.AL

