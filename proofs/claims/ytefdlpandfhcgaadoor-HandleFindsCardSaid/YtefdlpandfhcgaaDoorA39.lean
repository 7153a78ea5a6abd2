/- A law of the given program is proved: part 39 of 50. -/
import Derived.RangeFuncNested
import Derived.RangeFuncLeaves
import Derived.TacticsIn
import Derived.ControlIn
import Derived.Test.YtefdlpandfhcgaaDoorA38
set_option linter.all false
/- AL: the walk of an iterator: whatever the rounds do to the world is told by a word JJ of its own. -/
set_option linter.all false
namespace Go.Proofs.YtefdlpandfhcgaaDoor.AL
open Go.RowKit
mutual
def posz : AV → Bool
  | .val _ => true
  | .agg cs => poszs cs
  | .tup cs => poszs cs
  | .sl sz xs => decide (0 < sz) && poszs xs
  | .ptr x _ => posz x && (match x with
    | .agg cs => !cs.isEmpty
    | x => x.one)
  | .fn _ a b => poszs a && poszs b
  | .ifc _ x => posz x
  | .e0 => true
  | .junk => true
  | _ => false
def poszs : List AV → Bool
  | [] => true
  | x :: xs => posz x && poszs xs
end
def Zc (Z : Nat → Prop) (w : World) (b : Nat) : Prop := Z b ∧ ∃ o, w.heap[b]? = some o ∧ o.isCells = true
theorem x0j {w : World} {b o : Nat} {v : Value} (h : w.cell? ⟨b, o, none⟩ = some v) : ∃ ob, w.heap[b]? = some ob ∧ ob.isCells = true := by
  unfold World.cell? at h
  simp only at h
  split at h
  · rename_i c T fr hb
    exact ⟨_, hb, rfl⟩
  · cases h
mutual
theorem VRep.cellsZ {Z : Nat → Prop} {w : World} : ∀ (x : AV) (u : Value), posz x = true → VRep (Ec Z w) x u → VRep (Ec (Zc Z w) w) x u
  | .val v, u, _, h => by simpa only [VRep] using h
  | .agg cs, u, hc, h => by
    simp only [VRep] at h ⊢
    obtain ⟨us, h1, h2⟩ := h
    exact ⟨us, VReps.cellsZ cs us (by simpa only [posz] using hc) h1, h2⟩
  | .tup cs, u, hc, h => by
    simp only [VRep] at h ⊢
    obtain ⟨us, h1, h2⟩ := h
    exact ⟨us, VReps.cellsZ cs us (by simpa only [posz] using hc) h1, h2⟩
  | .sl sz xs, u, hc, h => by
    simp only [posz, Bool.and_eq_true, decide_eq_true_eq] at hc
    simp only [VRep] at h ⊢
    obtain ⟨us, A, cap, h1, h2, h3, h4⟩ := h
    refine ⟨us, A, cap, VReps.cellsZ xs us hc.2 h1, h2, h3, ?_⟩
    rcases h4 with h4 | ⟨b, o, g1, g2, g3⟩
    · exact .inl h4
    · cases us with
      | nil => exact .inl rfl
      | cons u0 us' =>
        obtain ⟨k1, k2, k3⟩ := g3 0 u0 rfl
        have hlt : 0 < u0.cells.size := by omega
        have := k3 0 u0.cells[0] (by simp [hlt])
        obtain ⟨ob, hob⟩ := x0j this
        exact .inr ⟨b, o, g1, ⟨g2, ob, hob⟩, g3⟩
  | .ptr x off, u, hc, h => by
    simp only [posz, Bool.and_eq_true] at hc
    simp only [VRep] at h ⊢
    obtain ⟨v, b, o, h1, h2, h3, h4⟩ := h
    have hne : 0 < v.cells.size := by
      have hx : x.one = true ∨ ∃ cs, x = .agg cs := by
        cases x <;> first
          | exact .inr ⟨_, rfl⟩
          | exact .inl hc.2
      have := (h1.cells hx).length
      have hl : 0 < x.cells.length := by
        cases x <;> simp_all [AV.cells]
        cases ‹List AV› <;> simp_all
      simp at this
      omega
    have := h4 0 v.cells[0] (by simp [hne])
    obtain ⟨ob, hob⟩ := x0j this
    exact ⟨v, b, o, VRep.cellsZ x v hc.1 h1, h2, ⟨h3, ob, hob⟩, h4⟩
  | .fn f fi ca, u, hc, h => by
    simp only [posz, Bool.and_eq_true] at hc
    simp only [VRep] at h ⊢
    obtain ⟨a, b, h1, h2, h3⟩ := h
    exact ⟨a, b, VReps.cellsZ fi a hc.1 h1, VReps.cellsZ ca b hc.2 h2, h3⟩
  | .ifc t x, u, hc, h => by
    simp only [VRep] at h ⊢
    obtain ⟨v, h1, h2⟩ := h
    exact ⟨v, VRep.cellsZ x v (by simpa only [posz] using hc) h1, h2⟩
  | .e0, u, _, h => by simpa only [VRep] using h
  | .junk, u, _, h => by simp only [VRep]
  | .loc .., _, hc, _ => by simp [posz] at hc
  | .msl .., _, hc, _ => by simp [posz] at hc
  | .mp .., _, hc, _ => by simp [posz] at hc
  | .mtl .., _, hc, _ => by simp [posz] at hc
theorem VReps.cellsZ {Z : Nat → Prop} {w : World} : ∀ (xs : List AV) (us : List Value), poszs xs = true → VReps (Ec Z w) xs us → VReps (Ec (Zc Z w) w) xs us
  | [], us, _, h => by simpa only [VReps] using h
  | x :: xs, us, hc, h => by
    simp only [poszs, Bool.and_eq_true] at hc
    simp only [VReps] at h ⊢
    obtain ⟨u, us', h1, h2, h3⟩ := h
    exact ⟨u, us', VRep.cellsZ x u hc.1 h1, VReps.cellsZ xs us' hc.2 h2, h3⟩
end
section
variable {P : Program} {n : Nat} {σ : Type} (live : σ → Bool) (JJ : σ → World → Prop) (Zx : σ → Nat → Prop)
def SYl (n : Nat) (s : AS) (y : σ) (a : Act) (w : World) : Prop :=
  ∃ (C : Ctx) (E0 : Env) (k0 : Nat) (E : Env), JJ y C.w0 ∧ C.base = C.w0.heap.size ∧ k0 ≤ s.nx ∧ SR C E0 k0 n s a E ∧ E.w = w ∧ (∀ b, C.zone b → ¬ Zx y b) ∧ (∀ b, Zx y b → b < C.base)
def SYd (n : Nat) (s : AS) (y : σ) (a : Act) (w : World) : Prop :=
  JJ y w ∧ a.tmps.size = n ∧ a.defers = [] ∧ ∀ t, VRep (Ec (fun _ => False) w) (s.T t) (a.tmps.getD t undef)
def SY (n : Nat) (s : AS) (y : σ) (a : Act) (w : World) : Prop := if live y = true then SYl JJ Zx n s y a w else SYd JJ n s y a w
variable {live JJ Zx} {Q : Exit → AS → σ → Prop} {s : AS} {y : σ}
theorem SYl_SY {a : Act} {w : World} (h : live y = true) (hS : SYl JJ Zx n s y a w) : SY live JJ Zx n s y a w := by unfold AL.SY; rwa [if_pos h]
end
def keepT (T : Nat → AV) : Nat → AV := fun t => if closed (T t) = true ∧ posz (T t) = true then T t else .junk
section
variable {P : Program} {n : Nat} {σ : Type} {live : σ → Bool} {JJ : σ → World → Prop} {Zx : σ → Nat → Prop} {Q : Exit → AS → σ → Prop} {s : AS} {y : σ}
theorem SY.round {y' : σ} {C : Ctx} {E0 : Env} {k0 : Nat} {E : Env} {a : Act} {T : Nat → AV} {H : Nat → Option AO} {nx : Nat} (hS : SR C E0 k0 n ⟨T, H, nx⟩ a E) (hz : ∀ b, C.zone b → ¬ Zx y b) (hx : ∀ b, Zx y b → b < C.base) (hsub : ∀ b, Zx y' b → Zx y b) {W' : World}
    (hlv : live y' = true) (hG : GW W') (hJ : JJ y' W') (hsz : E.w.heap.size ≤ W'.heap.size) (hkeep : ∀ b o, ¬ Zx y b → E.w.heap[b]? = some o → o.isCells = true → W'.heap[b]? = some o) :
    SY live JJ Zx n ⟨keepT T, fun _ => none, nx⟩ y' a W' := by
  let Z' := Zc E.Z E.w
  have hzx : ∀ b, E.Z b → ¬ Zx y b := by
    intro b hb hxb
    rcases hS.heap.zsrc b hb with h | h
    · exact hz b h hxb
    · have := hx b hxb; omega
  have hsame : ∀ b, Z' b → W'.heap[b]? = E.w.heap[b]? := by
    rintro b ⟨hb, o, ho, hc⟩
    rw [ho]
    exact hkeep b o (hzx b hb) ho hc
  have hlt : ∀ b, Z' b → b < W'.heap.size := fun b hb => by have := hS.heap.zlt b hb.1; omega
  let E' : Env := Ec Z' W'
  refine SYl_SY hlv ⟨{ base := W'.heap.size, w0 := W', zone := Z', gw := hG, gb := hG.size }, E', nx, E', hJ, rfl, Nat.le_refl _, ?_, rfl, fun b hb h => hzx b hb.1 (hsub b h), fun b hb => by have := hx b (hsub b hb); have := hS.heap.base; show b < W'.heap.size; omega⟩
  refine ⟨⟨Below.refl _ _, Nat.le_refl _, hlt, fun b _ l c e => by simp [E', Ec] at e, fun b hb => .inl hb, fun l => rfl, fun l x e => by simp [E', Ec] at e, fun l l' b c c' e => by simp [E', Ec] at e, fun l o p e => by simp at e, fun l b c e => by simp [E', Ec] at e⟩, Stab.refl _, fun l k => k.elim, fun l k => .inl k, hS.size, hS.defers, ?_⟩
  intro t
  have ht := hS.tmps t
  simp only [keepT]
  split
  · rename_i hc
    obtain ⟨h1, h2⟩ := hc
    have h3 := VRep.close (Z := E.Z) (fun b hb => hb) _ _ h1 ht
    have h4 := VRep.cellsZ _ _ h2 h3
    exact VRep.stab (E := Ec Z' E.w) (E' := E') ⟨fun _ h => h, fun _ h => h.elim, fun b hb => ⟨hb, hsame b hb⟩⟩ _ _ h4
  · simp only [VRep]
theorem SY.put {T : Nat → AV} {H : Nat → Option AO} {nx : Nat} {a : Act} {w : World} (h : SY live JJ Zx n ⟨T, H, nx⟩ y a w) {d : Nat} (hd : d < n) {x : AV} {v : Value} (hv : ∀ E, VRep E x v) : SY live JJ Zx n ⟨upd T d x, H, nx⟩ y (a.put (some d) v) w := by
  unfold AL.SY at h ⊢
  split at h
  · rename_i hl
    rw [if_pos hl]
    obtain ⟨C, E0, k0, E, hJ, hb, hk, hS, rfl, hz⟩ := h
    exact ⟨C, E0, k0, E, hJ, hb, hk, ⟨hS.heap, hS.stab, hS.bound, hS.fresh, by rw [xgf]; exact hS.size, by rw [xud]; exact hS.defers, xbf hS.tmps hS.size (d := some d) (fun x e => by cases e; exact hd) (hv E)⟩, rfl, hz⟩
  · rename_i hl
    rw [if_neg hl]
    obtain ⟨h1, h2, h3, h4⟩ := h
    exact ⟨h1, by rw [xgf]; exact h2, by rw [xud]; exact h3, xbf h4 h2 (d := some d) (fun x e => by cases e; exact hd) (hv _)⟩
end
end Go.Proofs.YtefdlpandfhcgaaDoor.AL

