/- A law of the given program is proved: part 39 of 50. -/
import Derived.RangeFuncNested
import Derived.RangeFuncLeaves
import Derived.TacticsIn
import Derived.ControlIn
import Derived.Test.YtefdlpandfhcgaaGreatDoorA38
set_option linter.all false
/- AL: the walk of an iterator: whatever the rounds do to the world is told by a word JJ of its own. -/
set_option linter.all false
namespace Go.Proofs.YtefdlpandfhcgaaGreatDoor.AL
open Go.RowKit
mutual
def posz : AV → Bool
  | .val _ => true
  | .agg cs => poszs cs
  | .tup cs => poszs cs
  | .sl sz xs => decide (0 < sz) && poszs xs
  | .ptr x _ => posz x && (match x with
    | .agg cs => !cs.isEmpty
    | x => x.one)
  | .fn _ a b => poszs a && poszs b
  | .ifc _ x => posz x
  | .e0 => true
  | .junk => true
  | _ => false
def poszs : List AV → Bool
  | [] => true
  | x :: xs => posz x && poszs xs
end
def Zc (Z : Nat → Prop) (w : World) (b : Nat) : Prop := Z b ∧ ∃ o, w.heap[b]? = some o ∧ o.isCells = true
theorem xhn {w : World} {b o : Nat} {v : Value} (h : w.cell? ⟨b, o, none⟩ = some v) : ∃ ob, w.heap[b]? = some ob ∧ ob.isCells = true := by
  unfold World.cell? at h
  simp only at h
  split at h
  · rename_i c T fr hb
    exact ⟨_, hb, rfl⟩
  · cases h
mutual
theorem VRep.cellsZ {Z : Nat → Prop} {w : World} : ∀ (x : AV) (u : Value), posz x = true → VRep (Ec Z w) x u → VRep (Ec (Zc Z w) w) x u
  | .val v, u, _, h => by simpa only [VRep] using h
  | .agg cs, u, hc, h => by
    simp only [VRep] at h ⊢
    obtain ⟨us, h1, h2⟩ := h
    exact ⟨us, VReps.cellsZ cs us (by simpa only [posz] using hc) h1, h2⟩
  | .tup cs, u, hc, h => by
    simp only [VRep] at h ⊢
    obtain ⟨us, h1, h2⟩ := h
    exact ⟨us, VReps.cellsZ cs us (by simpa only [posz] using hc) h1, h2⟩
  | .sl sz xs, u, hc, h => by
    simp only [posz, Bool.and_eq_true, decide_eq_true_eq] at hc
    simp only [VRep] at h ⊢
    obtain ⟨us, A, cap, h1, h2, h3, h4⟩ := h
    refine ⟨us, A, cap, VReps.cellsZ xs us hc.2 h1, h2, h3, ?_⟩
    rcases h4 with h4 | ⟨b, o, g1, g2, g3⟩
    · exact .inl h4
    · cases us with
      | nil => exact .inl rfl
      | cons u0 us' =>
        obtain ⟨k1, k2, k3⟩ := g3 0 u0 rfl
        have hlt : 0 < u0.cells.size := by omega
        have := k3 0 u0.cells[0] (by simp [hlt])
        obtain ⟨ob, hob⟩ := xhn this
        exact .inr ⟨b, o, g1, ⟨g2, ob, hob⟩, g3⟩
  | .ptr x off, u, hc, h => by
    simp only [posz, Bool.and_eq_true] at hc
    simp only [VRep] at h ⊢
    obtain ⟨v, b, o, h1, h2, h3, h4⟩ := h
    have hne : 0 < v.cells.size := by
      have hx : x.one = true ∨ ∃ cs, x = .agg cs := by
        cases x <;> first
          | exact .inr ⟨_, rfl⟩
          | exact .inl hc.2
      have := (h1.cells hx).length
      have hl : 0 < x.cells.length := by
        cases x <;> simp_all [AV.cells]
        cases ‹List AV› <;> simp_all
      simp at this
      omega
    have := h4 0 v.cells[0] (by simp [hne])
    obtain ⟨ob, hob⟩ := xhn this
    exact ⟨v, b, o, VRep.cellsZ x v hc.1 h1, h2, ⟨h3, ob, hob⟩, h4⟩
  | .fn f fi ca, u, hc, h => by
    simp only [posz, Bool.and_eq_true] at hc
    simp only [VRep] at h ⊢
    obtain ⟨a, b, h1, h2, h3⟩ := h
    exact ⟨a, b, VReps.cellsZ fi a hc.1 h1, VReps.cellsZ ca b hc.2 h2, h3⟩
  | .ifc t x, u, hc, h => by
    simp only [VRep] at h ⊢
    obtain ⟨v, h1, h2⟩ := h
    exact ⟨v, VRep.cellsZ x v (by simpa only [posz] using hc) h1, h2⟩
  | .e0, u, _, h => by simpa only [VRep] using h
  | .junk, u, _, h => by simp only [VRep]
  | .loc .., _, hc, _ => by simp [posz] at hc
  | .msl .., _, hc, _ => by simp [posz] at hc
  | .mp .., _, hc, _ => by simp [posz] at hc
  | .mtl .., _, hc, _ => by simp [posz] at hc
theorem VReps.cellsZ {Z : Nat → Prop} {w : World} : ∀ (xs : List AV) (us : List Value), poszs xs = true → VReps (Ec Z w) xs us → VReps (Ec (Zc Z w) w) xs us
  | [], us, _, h => by simpa only [VReps] using h
  | x :: xs, us, hc, h => by
    simp only [poszs, Bool.and_eq_true] at hc
    simp only [VReps] at h ⊢
    obtain ⟨u, us', h1, h2, h3⟩ := h
    exact ⟨u, us', VRep.cellsZ x u hc.1 h1, VReps.cellsZ xs us' hc.2 h2, h3⟩
end
section
variable {P : Program} {n : Nat} {σ : Type} (live : σ → Bool) (JJ : σ → World → Prop) (Zx : σ → Nat → Prop)
def SYl (n : Nat) (s : AS) (y : σ) (a : Act) (w : World) : Prop :=
  ∃ (C : Ctx) (E0 : Env) (k0 : Nat) (E : Env), JJ y C.w0 ∧ C.base = C.w0.heap.size ∧ k0 ≤ s.nx ∧ SR C E0 k0 n s a E ∧ E.w = w ∧ (∀ b, C.zone b → ¬ Zx y b) ∧ (∀ b, Zx y b → b < C.base)
def SYd (n : Nat) (s : AS) (y : σ) (a : Act) (w : World) : Prop :=
  JJ y w ∧ a.tmps.size = n ∧ a.defers = [] ∧ ∀ t, VRep (Ec (fun _ => False) w) (s.T t) (a.tmps.getD t undef)
def SY (n : Nat) (s : AS) (y : σ) (a : Act) (w : World) : Prop := if live y = true then SYl JJ Zx n s y a w else SYd JJ n s y a w
def wY (P : Program) (n : Nat) (c : Code) (Q : Exit → AS → σ → Prop) (s : AS) (y : σ) : Prop :=
  ∀ (a : Act) (w : World), SY live JJ Zx n s y a w → c.wp P (fun e a' w' => ∃ s' y', Q e s' y' ∧ SY live JJ Zx n s' y' a' w') a w
def cY (P : Program) (n : Nat) (x : AC) (Q : Exit → AS → σ → Prop) (s : AS) (y : σ) : Prop := ∀ c, comp n c = some x → wY live JJ Zx P n c Q s y
def yQ (next : AS → σ → Prop) (Q : Exit → AS → σ → Prop) : Exit → AS → σ → Prop
  | .normal, s, y => next s y
  | e, s, y => Q e s y
def byQ (id : Nat) (Q : Exit → AS → σ → Prop) : Exit → AS → σ → Prop
  | .exit id', s, y => if id' = id then Q .normal s y else Q (.exit id') s y
  | e, s, y => Q e s y
def gyQ (Q : Exit → AS → σ → Prop) : Exit → AS → σ → Prop
  | .goto _, _, _ => False
  | e, s, y => Q e s y
variable {live JJ Zx} {Q : Exit → AS → σ → Prop} {s : AS} {y : σ}
theorem xst {a : Act} {w : World} (h : live y = true) (hS : SY live JJ Zx n s y a w) : SYl JJ Zx n s y a w := by unfold SY at hS; rwa [if_pos h] at hS
theorem SYl_SY {a : Act} {w : World} (h : live y = true) (hS : SYl JJ Zx n s y a w) : SY live JJ Zx n s y a w := by unfold AL.SY; rwa [if_pos h]
theorem cY_of {x : AC} {Q' : Exit → AS → Prop} (hy : live y = true) (h : cwp P n x Q' s) (hq : ∀ e s', Q' e s' → Q e s' y) : cY live JJ Zx P n x Q s y := by
  intro c hc a w hSY
  obtain ⟨C, E0, k0, E, hJ, hb, hk, hS, rfl, hz⟩ := xst hy hSY
  refine wp_mono (h c hc C E0 k0 E a hk hS) ?_
  rintro e a' w' ⟨s', E', h1, h2, h3, rfl⟩
  exact ⟨s', y, hq e s' h1, SYl_SY hy ⟨C, E0, k0, E', hJ, hb, h2, h3, rfl, hz⟩⟩
theorem cY_seq {x z : AC} (h : cY live JJ Zx P n x (yQ (fun s' y' => cY live JJ Zx P n z Q s' y') Q) s y) : cY live JJ Zx P n (.seq x z) Q s y := by
  intro c hc a w hS
  obtain ⟨c1, c2, rfl, h1, h2⟩ := xkm hc
  refine wp_seq (wp_mono (h c1 h1 a w hS) ?_)
  rintro e a' w' ⟨s', y', g1, g2⟩
  cases e with
  | normal => exact g1 c2 h2 a' w' g2
  | exit id => exact ⟨s', y', g1, g2⟩
  | goto l => exact ⟨s', y', g1, g2⟩
  | ret => exact ⟨s', y', g1, g2⟩
  | panic ch => exact ⟨s', y', g1, g2⟩
  | outgrown => exact ⟨s', y', g1, g2⟩
theorem x2j {x z : AC} {o : Operand} {b : Bool} (hb : ev s.T o = .val (.bool b)) (h : if b = true then cY live JJ Zx P n x Q s y else cY live JJ Zx P n z Q s y) : cY live JJ Zx P n (.cond o x z) Q s y := by
  intro c hc a w hS
  obtain ⟨c1, c2, rfl, h1, h2⟩ := xcp hc
  have hS' := hS
  have he : a.eval o = .bool b := by
    unfold SY at hS
    split at hS
    · obtain ⟨C, E0, k0, E, hJ, hb', hk, hSR, rfl, hz⟩ := hS
      have he := ev_rep hSR.tmps o
      rw [hb] at he
      simpa only [VRep] using he
    · have he := ev_rep hS.2.2.2 o
      rw [hb] at he
      simpa only [VRep] using he
  refine wp_cond_split he (fun e => ?_) (fun e => ?_)
  · subst e; simp only [if_true] at h; exact h c1 h1 a _ hS'
  · subst e; simp only [Bool.false_eq_true, if_false] at h; exact h c2 h2 a _ hS'
theorem x8s (h : Q .normal s y) : cY live JJ Zx P n .skip Q s y := fun c hc a w hS => by rw [xep hc]; exact wp_skip ⟨s, y, h, hS⟩
theorem xot {id : Nat} (h : Q (.exit id) s y) : cY live JJ Zx P n (.exit id) Q s y := fun c hc a w hS => by rw [x2n hc]; exact wp_exit ⟨s, y, h, hS⟩
theorem xsm {id : Nat} {x : AC} (h : cY live JJ Zx P n x (byQ id Q) s y) : cY live JJ Zx P n (.block id x) Q s y := by
  intro c hc a w hS
  obtain ⟨c1, rfl, h1⟩ := xrm hc
  refine wp_block (wp_mono (h c1 h1 a w hS) ?_)
  rintro e a' w' ⟨s', y', g1, g2⟩
  cases e with
  | exit id' =>
    simp only [byQ] at g1
    simp only [Exit.inBlock]
    split
    · rename_i e; rw [if_pos e] at g1; exact ⟨s', y', g1, g2⟩
    · rename_i e; rw [if_neg e] at g1; exact ⟨s', y', g1, g2⟩
  | normal => exact ⟨s', y', g1, g2⟩
  | goto l => exact ⟨s', y', g1, g2⟩
  | ret => exact ⟨s', y', g1, g2⟩
  | panic ch => exact ⟨s', y', g1, g2⟩
  | outgrown => exact ⟨s', y', g1, g2⟩
theorem xp5 {x : AC} (h : cY live JJ Zx P n x (gyQ Q) s y) : cY live JJ Zx P n (.scope x) Q s y := by
  intro c hc a w hS
  obtain ⟨c1, rfl, h1⟩ := xnm hc
  refine wp_scope_straight (wp_mono (h c1 h1 a w hS) ?_)
  rintro e a' w' ⟨s', y', g1, g2⟩
  cases e with
  | goto l => exact g1.elim
  | normal => exact ⟨s', y', g1, g2⟩
  | exit id => exact ⟨s', y', g1, g2⟩
  | ret => exact ⟨s', y', g1, g2⟩
  | panic ch => exact ⟨s', y', g1, g2⟩
  | outgrown => exact ⟨s', y', g1, g2⟩
open Classical in
theorem x5y {x : AC} (I : Nat → AS → σ → Prop) (k : Nat) (h0 : I k s y) (zero : ∀ s y, ¬ I 0 s y) (round : ∀ k s y, I (k + 1) s y → cY live JJ Zx P n x (yQ (I k) Q) s y) : cY live JJ Zx P n (.loop x) Q s y := by
  intro c hc a w hS
  obtain ⟨c1, rfl, h1⟩ := xcu hc
  let p : Act → World → Nat → Prop := fun a w m => ∃ s y, I m s y ∧ SY live JJ Zx n s y a w
  let μ' : Act → World → Nat := fun a w => if h : ∃ m, p a w m then Classical.choose (xyb h) else 0
  have hμ : ∀ a w, (∃ m, p a w m) → p a w (μ' a w) ∧ ∀ k, p a w k → μ' a w ≤ k := by
    intro a w h
    simp only [μ', dif_pos h]
    exact Classical.choose_spec (xyb h)
  refine wp_loop (fun a w => ∃ m, p a w m) μ' ⟨k, s, y, h0, hS⟩ ?_
  intro a w hI
  obtain ⟨⟨s1, y1, g1, g2⟩, _⟩ := hμ a w hI
  generalize hm : μ' a w = m at g1
  cases m with
  | zero => exact absurd g1 (zero s1 y1)
  | succ m =>
    refine wp_mono (round m s1 y1 g1 c1 h1 a w g2) ?_
    rintro e a' w' ⟨s', y', q1, q2⟩
    cases e with
    | normal =>
      have hp : p a' w' m := ⟨s', y', q1, q2⟩
      refine ⟨⟨m, hp⟩, ?_⟩
      have := (hμ a' w' ⟨m, hp⟩).2 m hp
      omega
    | exit id => exact ⟨s', y', q1, q2⟩
    | goto l => exact ⟨s', y', q1, q2⟩
    | ret => exact ⟨s', y', q1, q2⟩
    | panic ch => exact ⟨s', y', q1, q2⟩
    | outgrown => exact ⟨s', y', q1, q2⟩
end
def keepT (T : Nat → AV) : Nat → AV := fun t => if closed (T t) = true ∧ posz (T t) = true then T t else .junk
theorem xzg {T : Nat → AV} {t : Nat} {x : AV} (h : T t = x) (h1 : closed x = true) (h2 : posz x = true) : keepT T t = x := by
  subst h
  unfold keepT
  rw [if_pos ⟨h1, h2⟩]
section
variable {P : Program} {n : Nat} {σ : Type} {live : σ → Bool} {JJ : σ → World → Prop} {Zx : σ → Nat → Prop} {Q : Exit → AS → σ → Prop} {s : AS} {y : σ}
def xl7 (T Tb tx d1 d2 d3 d4 : Nat) : AC := .region [⟨.move (.tmp 0), some d1, none⟩, ⟨.load T (.tmp tx), some d2, none⟩, ⟨.call (Go.Call.mk (.value (.tmp d1)) #[.tmp d2] #[T]), some d3, none⟩, ⟨.unOp .not Tb (.tmp d3), some d4, none⟩]
theorem xdi {ops : Array Oper} {o : Oper} {x : O1} (h : resolve1 ops o = some x) (hx : x.g = none) : o.guard = none ∧ o.op = x.op ∧ o.dst = x.dst := by
  have h2 := xyh h
  unfold resolve1 at h
  split at h
  · rename_i hg
    exact ⟨hg, h2.1.symm, h2.2.symm⟩
  · split at h
    · injection h with h
      subst h
      cases hx
    · cases h
theorem xzh {ops : Array Oper} {l : List Oper} {x : O1} {xs : List O1} (h : xz ops l = some (x :: xs)) : ∃ o l', l = o :: l' ∧ resolve1 ops o = some x ∧ xz ops l' = some xs := by
  cases l with
  | nil => simp [xz] at h
  | cons o l =>
    simp only [xz] at h
    split at h
    · rename_i x' xs' g1 g2
      injection h with h
      injection h with e1 e2
      subst e1; subst e2
      exact ⟨o, l, rfl, g1, g2⟩
    · cases h
theorem xcw {ops : Array Oper} {l : List Oper} (h : xz ops l = some []) : l = [] := by
  cases l with
  | nil => rfl
  | cons o l =>
    simp only [xz] at h
    split at h
    · injection h with h; cases h
    · cases h
theorem SY.round {y' : σ} {C : Ctx} {E0 : Env} {k0 : Nat} {E : Env} {a : Act} {T : Nat → AV} {H : Nat → Option AO} {nx : Nat} (hS : SR C E0 k0 n ⟨T, H, nx⟩ a E) (hz : ∀ b, C.zone b → ¬ Zx y b) (hx : ∀ b, Zx y b → b < C.base) (hsub : ∀ b, Zx y' b → Zx y b) {W' : World}
    (hlv : live y' = true) (hG : GW W') (hJ : JJ y' W') (hsz : E.w.heap.size ≤ W'.heap.size) (hkeep : ∀ b o, ¬ Zx y b → E.w.heap[b]? = some o → o.isCells = true → W'.heap[b]? = some o) :
    SY live JJ Zx n ⟨keepT T, fun _ => none, nx⟩ y' a W' := by
  let Z' := Zc E.Z E.w
  have hzx : ∀ b, E.Z b → ¬ Zx y b := by
    intro b hb hxb
    rcases hS.heap.zsrc b hb with h | h
    · exact hz b h hxb
    · have := hx b hxb; omega
  have hsame : ∀ b, Z' b → W'.heap[b]? = E.w.heap[b]? := by
    rintro b ⟨hb, o, ho, hc⟩
    rw [ho]
    exact hkeep b o (hzx b hb) ho hc
  have hlt : ∀ b, Z' b → b < W'.heap.size := fun b hb => by have := hS.heap.zlt b hb.1; omega
  let E' : Env := Ec Z' W'
  refine SYl_SY hlv ⟨{ base := W'.heap.size, w0 := W', zone := Z', gw := hG, gb := hG.size }, E', nx, E', hJ, rfl, Nat.le_refl _, ?_, rfl, fun b hb h => hzx b hb.1 (hsub b h), fun b hb => by have := hx b (hsub b hb); have := hS.heap.base; show b < W'.heap.size; omega⟩
  refine ⟨⟨Below.refl _ _, Nat.le_refl _, hlt, fun b _ l c e => by simp [E', Ec] at e, fun b hb => .inl hb, fun l => rfl, fun l x e => by simp [E', Ec] at e, fun l l' b c c' e => by simp [E', Ec] at e, fun l o p e => by simp at e, fun l b c e => by simp [E', Ec] at e⟩, Stab.refl _, fun l k => k.elim, fun l k => .inl k, hS.size, hS.defers, ?_⟩
  intro t
  have ht := hS.tmps t
  simp only [keepT]
  split
  · rename_i hc
    obtain ⟨h1, h2⟩ := hc
    have h3 := VRep.close (Z := E.Z) (fun b hb => hb) _ _ h1 ht
    have h4 := VRep.cellsZ _ _ h2 h3
    exact VRep.stab (E := Ec Z' E.w) (E' := E') ⟨fun _ h => h, fun _ h => h.elim, fun b hb => ⟨hb, hsame b hb⟩⟩ _ _ h4
  · simp only [VRep]
theorem SY.dead {y' : σ} {C : Ctx} {E0 : Env} {k0 : Nat} {E : Env} {a : Act} (hS : SR C E0 k0 n s a E) {W' : World} (hlv : live y' = false) (hJ : JJ y' W') :
    SY live JJ Zx n ⟨fun _ => .junk, fun _ => none, s.nx⟩ y' a W' := by
  unfold AL.SY
  rw [if_neg (by rw [hlv]; simp)]
  exact ⟨hJ, hS.size, hS.defers, fun t => by simp only [VRep]⟩
theorem SY.put {T : Nat → AV} {H : Nat → Option AO} {nx : Nat} {a : Act} {w : World} (h : SY live JJ Zx n ⟨T, H, nx⟩ y a w) {d : Nat} (hd : d < n) {x : AV} {v : Value} (hv : ∀ E, VRep E x v) : SY live JJ Zx n ⟨upd T d x, H, nx⟩ y (a.put (some d) v) w := by
  unfold AL.SY at h ⊢
  split at h
  · rename_i hl
    rw [if_pos hl]
    obtain ⟨C, E0, k0, E, hJ, hb, hk, hS, rfl, hz⟩ := h
    exact ⟨C, E0, k0, E, hJ, hb, hk, ⟨hS.heap, hS.stab, hS.bound, hS.fresh, by rw [x4g]; exact hS.size, by rw [xfc]; exact hS.defers, x9g hS.tmps hS.size (d := some d) (fun x e => by cases e; exact hd) (hv E)⟩, rfl, hz⟩
  · rename_i hl
    rw [if_neg hl]
    obtain ⟨h1, h2, h3, h4⟩ := h
    exact ⟨h1, by rw [x4g]; exact h2, by rw [xfc]; exact h3, x9g h4 h2 (d := some d) (fun x e => by cases e; exact hd) (hv _)⟩
theorem xnq {B : Nat} {w w' : World} (h : Below B w w') (hB : B = w.heap.size) : w.grownBy w' none := by
  subst hB
  exact ⟨h.os, h.tape, h.output, h.size, fun k hk _ => h.block k hk⟩
theorem x1m {ops : Array Oper} (h : fits n ops = true) {o : Oper} (ho : o ∈ ops.toList) {d : Nat} (hd : o.dst = some d) : d < n := by
  have := List.all_eq_true.1 h o ho
  simpa [hd] using this
theorem xk4 {T Tb tx d1 d2 d3 d4 l m : Nat} {u : Value} {x : AV} {yT yF : σ} {S : AS}
    (hly : live y = true) (hlT : live yT = true) (hlF : live yF = false) (hGW : ∀ W, JJ yT W → GW W) (hab : ∀ y W W', JJ y W → W.grownBy W' none → JJ y W')
    (h0 : S.T 0 = .fn (.yield l) [] []) (e1 : tx ≠ d1) (e2 : d1 ≠ d2) (hx : xpd P T S.H (S.T tx) = some x) (hu : ∀ E v, VRep E x v → v = u)
    (hY : ∀ W, JJ y W → YieldAt Fence.wide m P l #[u] W fun e W' => (e = .returned (.bool true) ∧ JJ yT W' ∧ W.heap.size ≤ W'.heap.size ∧ ∀ b o, ¬ Zx y b → W.heap[b]? = some o → o.isCells = true → W'.heap[b]? = some o) ∨ (e = .returned (.bool false) ∧ JJ yF W'))
    (hsub : ∀ b, Zx yT b → Zx y b)
    (hT : Q .normal ⟨upd (upd (upd (upd (keepT S.T) d1 .junk) d2 .junk) d3 (.val (.bool true))) d4 (.val (.bool false)), fun _ => none, S.nx⟩ yT)
    (hF : Q .normal ⟨upd (upd (upd (upd (fun _ => .junk) d1 .junk) d2 .junk) d3 (.val (.bool false))) d4 (.val (.bool true)), fun _ => none, S.nx⟩ yF) :
    cY live JJ Zx P n (xl7 T Tb tx d1 d2 d3 d4) Q S y := by
  intro c hc a w hSY
  obtain ⟨C, E0, k0, E, hJ, hb, hk, hS, rfl, hz, hzx⟩ := xst hly hSY
  obtain ⟨id, ops, rfl, hfit, hres⟩ := xnl hc
  obtain ⟨o0, l0, hl0, r0, hres⟩ := xzh hres
  obtain ⟨o1, l1, rfl, r1, hres⟩ := xzh hres
  obtain ⟨o2, l2, rfl, r2, hres⟩ := xzh hres
  obtain ⟨o3, l3, rfl, r3, hres⟩ := xzh hres
  obtain rfl := xcw hres
  obtain ⟨g0, p0, q0⟩ := xdi r0 rfl
  obtain ⟨g1, p1, q1⟩ := xdi r1 rfl
  obtain ⟨g2, p2, q2⟩ := xdi r2 rfl
  obtain ⟨g3, p3, q3⟩ := xdi r3 rfl
  have n1 : d1 < n := x1m hfit (by rw [hl0]; simp) q0
  have n2 : d2 < n := x1m hfit (o := o1) (by rw [hl0]; simp) q1
  have n3 : d3 < n := x1m hfit (o := o2) (by rw [hl0]; simp) q2
  have n4 : d4 < n := x1m hfit (o := o3) (by rw [hl0]; simp) q3
  have hw : ∀ (o : Oper) (p : Nat → Option Bool), o.guard = none → Region.wanted o p = true := fun o p h => by simp [Region.wanted, h]
  have hv0 : a.tmps.getD 0 undef = .func (.yield l) #[] #[] := by
    have := hS.tmps 0
    rw [h0] at this
    simp only [VRep, VReps] at this
    obtain ⟨_, _, rfl, rfl, h⟩ := this
    exact h
  refine (wpIn_wide (n := m + 1)).1 (wpIn_region_list ?_)
  rw [hl0]
  simp only [wpListIn, hw _ _ g0, hw _ _ g1, hw _ _ g2, hw _ _ g3, if_true]
  have hro : Fence.wide.round = none := rfl
  refine ⟨fun _ _ => trivial, ?_⟩
  rw [hro, Oper.semAt_none]
  have run0 : (execOp a.eval o0).run P E.w = .ok (.value (.func (.yield l) #[] #[])) E.w := by
    have : a.eval (.tmp 0) = .func (.yield l) #[] #[] := hv0
    simp [execOp, p0, this]
  rw [run0, Oper.uponIn_value, q0]
  refine ⟨fun _ _ => trivial, ?_⟩
  rw [hro, Oper.semAt_none]
  obtain ⟨z, hz1, hz2⟩ := x3i (P := P) hS.heap (fun _ _ e => e) (hS.tmps tx) hx
  obtain rfl := hu _ _ hz2
  have ev1 : (a.put (some d1) (.func (.yield l) #[] #[])).eval (.tmp tx) = a.tmps.getD tx undef := by
    simp [Act.put, Act.eval, Array.getElem?_setIfInBounds_ne (Ne.symm e1)]
  have run1 : (execOp (a.put (some d1) (.func (.yield l) #[] #[])).eval o1).run P E.w = .ok (.value z) E.w := by
    simp only [execOp, p1, ev1, Sem.run_bind, hz1, Result.andThen_ok, Sem.run_pure]
  rw [run1, Oper.uponIn_value, q1]
  refine ⟨fun _ _ => trivial, ?_⟩
  rw [hro, Oper.semAt_none]
  have hJ' : JJ y E.w := hab y _ _ hJ (xnq hS.heap.below hb)
  obtain ⟨fn, tm, asg, bo, hrun, hround⟩ := hY E.w hJ'
  have hsz : (a.tmps.setIfInBounds d1 (.func (.yield l) #[] #[])).size = n := by simp [hS.size]
  have ev2 : ((a.put (some d1) (.func (.yield l) #[] #[])).put (some d2) z).eval (.tmp d1) = .func (.yield l) #[] #[] := by
    simp [Act.put, Act.eval, Array.getElem?_setIfInBounds_ne (Ne.symm e2), Array.getElem_setIfInBounds, Ne.symm e2, hS.size, n1]
  have ev3 : ((a.put (some d1) (.func (.yield l) #[] #[])).put (some d2) z).eval (.tmp d2) = z := by
    simp [Act.put, Act.eval, hS.size, n2]
  have run2 : (execOp ((a.put (some d1) (.func (.yield l) #[] #[])).put (some d2) z).eval o2).run P E.w = .ok (.round l fn tm asg bo) E.w := by
    simp only [execOp, p2, resolve, ev2, ev3, Sem.run_bind, Sem.run_pure, Result.andThen_ok, Deferred.ofValue, invoke]
    simpa [ev3, invoke] using hrun
  rw [run2, Oper.uponIn_round, q2]
  refine ⟨fun h => by simp [Fence.wide] at h, ?_⟩
  refine RoundIn.mono (by simpa using hround) ?_
  rintro e W' (⟨rfl, k1, k2, k3⟩ | ⟨rfl, k1⟩)
  · refine ⟨fun _ _ => trivial, ?_⟩
    rw [hro, Oper.semAt_none]
    have run3 : (execOp ((((a.put (some d1) (.func (.yield l) #[] #[])).put (some d2) z).put (some d3) (.bool true))).eval o3).run P W' = .ok (.value (.bool false)) W' := by
      have : ((((a.put (some d1) (.func (.yield l) #[] #[])).put (some d2) z).put (some d3) (.bool true))).eval (.tmp d3) = .bool true := by simp [Act.put, Act.eval, hS.size, n3]
      simp [execOp, p3, this, Op.unary]
    rw [run3, Oper.uponIn_value, q3]
    refine ⟨_, yT, hT, ?_⟩
    refine SY.put (SY.put (SY.put (SY.put (SY.round (T := S.T) (H := S.H) (nx := S.nx) hS hz hzx hsub hlT (hGW _ k1) k1 k2 k3) n1 (fun E => by simp only [VRep])) n2 (fun E => by simp only [VRep])) n3 (fun E => by simp only [VRep])) n4 (fun E => by simp only [VRep])
  · refine ⟨fun _ _ => trivial, ?_⟩
    rw [hro, Oper.semAt_none]
    have run3 : (execOp ((((a.put (some d1) (.func (.yield l) #[] #[])).put (some d2) z).put (some d3) (.bool false))).eval o3).run P W' = .ok (.value (.bool true)) W' := by
      have : ((((a.put (some d1) (.func (.yield l) #[] #[])).put (some d2) z).put (some d3) (.bool false))).eval (.tmp d3) = .bool false := by simp [Act.put, Act.eval, hS.size, n3]
      simp [execOp, p3, this, Op.unary]
    rw [run3, Oper.uponIn_value, q3]
    refine ⟨_, yF, hF, ?_⟩
    refine SY.put (SY.put (SY.put (SY.put (SY.dead hS hlF k1) n1 (fun E => by simp only [VRep])) n2 (fun E => by simp only [VRep])) n3 (fun E => by simp only [VRep])) n4 (fun E => by simp only [VRep])
end
end Go.Proofs.YtefdlpandfhcgaaGreatDoor.AL

