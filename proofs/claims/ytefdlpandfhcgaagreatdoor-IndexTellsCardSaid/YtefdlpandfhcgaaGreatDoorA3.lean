/- A law of the given program is proved: part 3 of 50. -/
import Derived.Test.YtefdlpandfhcgaaGreatDoorA2
set_option linter.all false
/- AL, part 2: mutable objects (AO), what they say of blocks (ORep), the heap's relation (HR) and its steps. -/
namespace Go.Proofs.YtefdlpandfhcgaaGreatDoor.AL
open Go.RowKit
def upd {α : Type} (f : Nat → α) (k : Nat) (v : α) : Nat → α := fun t => if t = k then v else f t
@[simp] theorem upd_same {α : Type} (f : Nat → α) (k : Nat) (v : α) : upd f k v k = v := if_pos rfl
theorem upd_ne {α : Type} (f : Nat → α) {k t : Nat} (v : α) (h : t ≠ k) : upd f k v t = f t := if_neg h
theorem upd_at {α : Type} (f : Nat → α) (k t : Nat) (v : α) : upd f k v t = if t = k then v else f t := rfl
inductive AO where
  | row (T sz : Nat) (xs : List AV)
  | map (ks : List Value) (vs : List AV)
  | siter (s : ByteArray) (pos : Nat)
  | mapb (bs : List Nat) (ck : Nat) (ks : List Value) (vs : List AV)
  deriving Inhabited
def flatV (us : List Value) : List Value := us.flatMap (fun u => u.cells.toList)
def ORep (E : Env) : Option (Nat × Nat) → AO → Prop
  | some (b, c), .row T sz xs => ∃ (cur : Array Value) (us : List Value), E.w.heap[b]? = some (.cells cur T (0, 0)) ∧ VReps E xs us ∧ (∀ u ∈ us, u.cells.size = sz ∧ ∀ v ∈ u.cells.toList, v.oneCell' = true) ∧
      xs.length ≤ c ∧ c ≤ maxLen ∧ cur.size = c * sz ∧ cur.toList.take (xs.length * sz) = flatV us
  | none, .row _ _ xs => xs = []
  | some (b, _), .map ks vs => ∃ (es : Array MapEntry) (clock : Nat), E.w.heap[b]? = some (.map es clock) ∧ es.toList.map (·.key) = ks ∧ VReps E vs (es.toList.map (·.val))
  | some (b, _), .siter s pos => E.w.heap[b]? = some (.stringIter s pos)
  | some (b, _), .mapb bs ck ks vs => ∃ es : Array MapEntry, E.w.heap[b]? = some (.map es ck) ∧ es.toList.map (·.key) = ks ∧ es.toList.map (·.born) = bs ∧ VReps E vs (es.toList.map (·.val))
  | none, _ => False
structure Ctx where
  base : Nat
  w0 : World
  zone : Nat → Prop
  gw : GW w0
  gb : gN ≤ base
structure HR (C : Ctx) (E : Env) (H : Nat → Option AO) : Prop where
  below : Below C.base C.w0 E.w
  base : C.base ≤ E.w.heap.size
  zlt : ∀ b, E.Z b → b < E.w.heap.size
  zlive : ∀ b, E.Z b → ∀ l c, E.L l ≠ some (some (b, c))
  zsrc : ∀ b, E.Z b → C.zone b ∨ C.base ≤ b
  dom : ∀ l, (H l).isSome = (E.L l).isSome
  known : ∀ l x, E.L l = some x → E.K l
  inj : ∀ l l' b c c', E.L l = some (some (b, c)) → E.L l' = some (some (b, c')) → l = l'
  obj : ∀ l o p, H l = some o → E.L l = some p → ORep E p o
  old : ∀ l b c, E.L l = some (some (b, c)) → C.base ≤ b ∧ b < E.w.heap.size
theorem HR.gw {C : Ctx} {E : Env} {H : Nat → Option AO} (h : HR C E H) : GW E.w := C.gw.mono h.below C.gb
structure ZG (Z : Nat → Prop) (w : World) : Prop where
  zlt : ∀ b, Z b → b < w.heap.size
  gw : GW w
theorem ORep.stab {E E' : Env} (s : Stab E E') {p : Option (Nat × Nat)} {o : AO} (hb : ∀ b c, p = some (b, c) → E'.w.heap[b]? = E.w.heap[b]?) (h : ORep E p o) : ORep E' p o := by
  cases p with
  | none => cases o <;> simpa only [ORep] using h
  | some q =>
    obtain ⟨b, c⟩ := q
    have hb := hb b c rfl
    cases o with
    | row T sz xs =>
      simp only [ORep] at h ⊢
      obtain ⟨cur, us, h1, h2, h3⟩ := h
      exact ⟨cur, us, hb.trans h1, h2.stab s, h3⟩
    | map ks vs =>
      simp only [ORep] at h ⊢
      obtain ⟨es, cl, h1, h2, h3⟩ := h
      exact ⟨es, cl, hb.trans h1, h2, h3.stab s⟩
    | siter t pos =>
      simp only [ORep] at h ⊢
      exact hb.trans h
    | mapb bs ck ks vs =>
      simp only [ORep] at h ⊢
      obtain ⟨es, h1, h2, h4, h3⟩ := h
      exact ⟨es, hb.trans h1, h2, h4, h3.stab s⟩
def Env.alloc (E : Env) (obj : Obj) (new c : Nat) : Env :=
  { Z := E.Z, w := E.w.alloc obj, L := upd E.L new (some (some (E.w.heap.size, c))), K := fun l => E.K l ∨ l = new }
theorem Env.alloc_stab {C : Ctx} {E : Env} {H : Nat → Option AO} (h : HR C E H) {new : Nat} (hn : ¬ E.K new) (obj : Obj) (c : Nat) : Stab E (E.alloc obj new c) :=
  ⟨fun l k => .inl k, fun l k x e => by
    have hne : l ≠ new := fun e => hn (e ▸ k)
    simpa only [Env.alloc, upd_ne _ _ hne] using e, fun b hz => ⟨hz, heap_alloc_old _ _ _ (h.zlt b hz)⟩⟩
theorem HR.alloc {C : Ctx} {E : Env} {H : Nat → Option AO} (h : HR C E H) {new : Nat} (hn : ¬ E.K new) (obj : Obj) (c : Nat) (o : AO)
    (ho : ORep (E.alloc obj new c) (some (E.w.heap.size, c)) o) : HR C (E.alloc obj new c) (upd H new (some o)) where
  below := h.below.alloc h.base obj
  base := by have := h.base; simp [Env.alloc]; omega
  zlt := fun b hz => by have := h.zlt b hz; simp [Env.alloc]; omega
  zlive := fun b hz l c' e => by
    have := h.zlt b hz
    simp only [Env.alloc, upd_at] at e
    split at e
    · injection e with e; injection e with e; injection e with e1 e2; omega
    · exact h.zlive b hz l c' e
  zsrc := h.zsrc
  dom := fun l => by
    simp only [Env.alloc, upd_at]
    split
    · rfl
    · exact h.dom l
  known := fun l x e => by
    simp only [Env.alloc, upd_at] at e
    split at e
    · exact .inr ‹_›
    · exact .inl (h.known l x e)
  inj := fun l l' b c c' e e' => by
    simp only [Env.alloc, upd_at] at e e'
    split at e <;> split at e'
    · omega
    · injection e with e; injection e with e; injection e with e1 e2
      have := (h.old l' b c' e').2
      omega
    · injection e' with e'; injection e' with e'; injection e' with e1 e2
      have := (h.old l b c e).2
      omega
    · exact h.inj l l' b c c' e e'
  obj := fun l o' p e e' => by
    by_cases hl : l = new
    · subst hl
      simp only [Env.alloc, upd_same] at e e'
      injection e with e
      injection e' with e'
      subst e
      subst e'
      exact ho
    · simp only [Env.alloc, upd_ne _ _ hl] at e e'
      exact (h.obj l o' p e e').stab (Env.alloc_stab h hn obj c) (fun b c hp => heap_alloc_old _ _ _ (h.old l b c (hp ▸ e')).2)
  old := fun l b c' e => by
    simp only [Env.alloc, upd_at] at e
    have := h.base
    split at e
    · injection e with e; injection e with e; injection e with e1 e2
      simp [Env.alloc]; omega
    · have := h.old l b c' e
      simp [Env.alloc]; omega
def Env.drew (E : Env) : Env := { E with w := E.w.drew }
theorem Env.drew_stab (E : Env) : Stab E E.drew := ⟨fun _ h => h, fun _ _ _ e => e, fun _ h => ⟨h, rfl⟩⟩
theorem HR.drew {C : Ctx} {E : Env} {H : Nat → Option AO} (h : HR C E H) : HR C E.drew H where
  below := h.below.drew
  base := h.base
  zlt := h.zlt
  zlive := h.zlive
  zsrc := h.zsrc
  dom := h.dom
  known := h.known
  inj := h.inj
  obj := fun l o p e e' => (h.obj l o p e e').stab (Env.drew_stab E) (fun _ _ _ => rfl)
  old := h.old
def Env.adopt (E : Env) (new : Nat) : Env := { E with L := upd E.L new (some none), K := fun l => E.K l ∨ l = new }
theorem Env.adopt_stab {E : Env} {new : Nat} (hn : ¬ E.K new) : Stab E (E.adopt new) :=
  ⟨fun l k => .inl k, fun l k x e => by
    have hne : l ≠ new := fun e => hn (e ▸ k)
    simpa only [Env.adopt, upd_ne _ _ hne] using e, fun b hz => ⟨hz, rfl⟩⟩
theorem HR.adopt {C : Ctx} {E : Env} {H : Nat → Option AO} (h : HR C E H) {new : Nat} (hn : ¬ E.K new) (T sz : Nat) : HR C (E.adopt new) (upd H new (some (.row T sz []))) where
  below := h.below
  base := h.base
  zlt := h.zlt
  zlive := fun b hz l c' e => by
    simp only [Env.adopt, upd_at] at e
    split at e
    · injection e with e; cases e
    · exact h.zlive b hz l c' e
  zsrc := h.zsrc
  dom := fun l => by
    simp only [Env.adopt, upd_at]
    split
    · rfl
    · exact h.dom l
  known := fun l x e => by
    simp only [Env.adopt, upd_at] at e
    split at e
    · exact .inr ‹_›
    · exact .inl (h.known l x e)
  inj := fun l l' b c c' e e' => by
    simp only [Env.adopt, upd_at] at e e'
    split at e <;> split at e'
    · omega
    · injection e with e; cases e
    · injection e' with e'; cases e'
    · exact h.inj l l' b c c' e e'
  obj := fun l o' p e e' => by
    by_cases hl : l = new
    · subst hl
      simp only [Env.adopt, upd_same] at e e'
      injection e with e
      injection e' with e'
      subst e
      subst e'
      simp only [ORep]
    · simp only [Env.adopt, upd_ne _ _ hl] at e e'
      exact (h.obj l o' p e e').stab (Env.adopt_stab hn) (fun _ _ _ => rfl)
  old := fun l b c' e => by
    simp only [Env.adopt, upd_at] at e
    split at e
    · injection e with e; cases e
    · exact h.old l b c' e
def Env.kill (E : Env) (l : Nat) : Env :=
  { E with L := upd E.L l none, Z := fun b => E.Z b ∨ ∃ c, E.L l = some (some (b, c)) }
theorem Env.kill_stab (E : Env) (l : Nat) : Stab E (E.kill l) :=
  ⟨fun _ h => h, fun l' k x e => by
    simp only [Env.kill, upd_at] at e
    split at e
    · cases e
    · exact e, fun b h => ⟨.inl h, rfl⟩⟩
theorem HR.kill {C : Ctx} {E : Env} {H : Nat → Option AO} (h : HR C E H) (l : Nat) : HR C (E.kill l) (upd H l none) where
  below := h.below
  base := h.base
  zlt := fun b hz => by
    rcases hz with hz | ⟨c, hz⟩
    · exact h.zlt b hz
    · exact (h.old l b c hz).2
  zlive := fun b hz l' c' e => by
    simp only [Env.kill, upd_at] at e
    split at e
    · cases e
    · rename_i hne
      rcases hz with hz | ⟨c, hz⟩
      · exact h.zlive b hz l' c' e
      · exact hne (h.inj _ _ _ _ _ e hz)
  zsrc := fun b hz => by
    rcases hz with hz | ⟨c, hz⟩
    · exact h.zsrc b hz
    · exact .inr (h.old l b c hz).1
  dom := fun l' => by
    simp only [Env.kill, upd_at]
    split
    · rfl
    · exact h.dom l'
  known := fun l' x e => by
    simp only [Env.kill, upd_at] at e
    split at e
    · cases e
    · exact h.known l' x e
  inj := fun l1 l2 b c c' e e' => by
    simp only [Env.kill, upd_at] at e e'
    split at e
    · cases e
    · split at e'
      · cases e'
      · exact h.inj l1 l2 b c c' e e'
  obj := fun l' o' p e e' => by
    by_cases hl : l' = l
    · subst hl
      simp only [Env.kill, upd_same] at e'
      cases e'
    · simp only [upd_ne _ _ hl] at e
      simp only [Env.kill, upd_ne _ _ hl] at e'
      exact (h.obj l' o' p e e').stab (Env.kill_stab E l) (fun _ _ _ => rfl)
  old := fun l' b c' e => by
    simp only [Env.kill, upd_at] at e
    split at e
    · cases e
    · exact h.old l' b c' e
def Env.rename (E : Env) (l new : Nat) : Env :=
  { E with L := upd (upd E.L l none) new (E.L l), K := fun k => E.K k ∨ k = new }
theorem Env.rename_stab {E : Env} {l new : Nat} (hn : ¬ E.K new) : Stab E (E.rename l new) :=
  ⟨fun _ h => .inl h, fun l' k x e => by
    have hne : l' ≠ new := fun e => hn (e ▸ k)
    simp only [Env.rename, upd_ne _ _ hne, upd_at] at e
    split at e
    · cases e
    · exact e, fun b h => ⟨h, rfl⟩⟩
theorem HR.rename {C : Ctx} {E : Env} {H : Nat → Option AO} (h : HR C E H) {l new : Nat} (hn : ¬ E.K new) (hl : E.K l) : HR C (E.rename l new) (upd (upd H l none) new (H l)) := by
  have hln : l ≠ new := fun e => hn (e ▸ hl)
  have key : ∀ l' x, (E.rename l new).L l' = some x → (l' = new ∧ E.L l = some x) ∨ (l' ≠ new ∧ l' ≠ l ∧ E.L l' = some x) := by
    intro l' x e
    simp only [Env.rename, upd_at] at e
    split at e
    · exact .inl ⟨‹_›, e⟩
    · split at e
      · cases e
      · exact .inr ⟨‹_›, ‹_›, e⟩
  exact {
    below := h.below
    base := h.base
    zlt := h.zlt
    zlive := fun b hz l' c e => by
      rcases key l' _ e with ⟨_, e⟩ | ⟨_, _, e⟩
      · exact h.zlive b hz l c e
      · exact h.zlive b hz l' c e
    zsrc := h.zsrc
    dom := fun l' => by
      simp only [Env.rename, upd_at]
      split
      · exact h.dom l
      · split
        · rfl
        · exact h.dom l'
    known := fun l' x e => by
      rcases key l' _ e with ⟨e1, e⟩ | ⟨_, _, e⟩
      · exact .inr e1
      · exact .inl (h.known l' x e)
    inj := fun l1 l2 b c c' e e' => by
      rcases key l1 _ e with ⟨e1, e⟩ | ⟨n1, n2, e⟩ <;> rcases key l2 _ e' with ⟨e1', e'⟩ | ⟨n1', n2', e'⟩
      · rw [e1, e1']
      · exact absurd (h.inj _ _ _ _ _ e' e) n2'
      · exact absurd (h.inj _ _ _ _ _ e e') n2
      · exact h.inj _ _ _ _ _ e e'
    obj := fun l' o' p e e' => by
      rcases key l' _ e' with ⟨e1, e2⟩ | ⟨n1, n2, e2⟩
      · subst e1
        simp only [upd_same] at e
        exact (h.obj l o' p e e2).stab (Env.rename_stab hn) (fun _ _ _ => rfl)
      · simp only [upd_ne _ _ n1, upd_ne _ _ n2] at e
        exact (h.obj l' o' p e e2).stab (Env.rename_stab hn) (fun _ _ _ => rfl)
    old := fun l' b c' e => by
      rcases key l' _ e with ⟨_, e⟩ | ⟨_, _, e⟩
      · exact h.old l b c' e
      · exact h.old l' b c' e }
structure Only (w w' : World) (b : Nat) : Prop where
  os : w'.os = w.os
  tape : w'.tape = w.tape
  output : w'.output = w.output
  size : w'.heap.size = w.heap.size
  block : ∀ k, k ≠ b → w'.heap[k]? = w.heap[k]?
theorem Only.setRow (w : World) (b : Nat) (cs : Array Value) : Only w (w.setRow b cs) b :=
  ⟨rfl, rfl, rfl, by simp, fun k hk => by simp only [World.setRow, Array.getElem?_modify]; rw [if_neg (by omega)]⟩
theorem Only.setObj (w : World) (b : Nat) (o : Obj) : Only w { w with heap := w.heap.setIfInBounds b o } b :=
  ⟨rfl, rfl, rfl, by simp, fun k hk => by simp only [Array.getElem?_setIfInBounds]; rw [if_neg (by omega)]⟩
theorem Env.only_stab {C : Ctx} {E : Env} {H : Nat → Option AO} (h : HR C E H) {l b c : Nat} (hl : E.L l = some (some (b, c))) {w' : World} (ho : Only E.w w' b) : Stab E { E with w := w' } :=
  ⟨fun _ h => h, fun _ _ _ e => e, fun b' hz => ⟨hz, ho.block b' (fun e => h.zlive b' hz l c (e ▸ hl))⟩⟩
theorem HR.only {C : Ctx} {E : Env} {H : Nat → Option AO} (h : HR C E H) {l b c : Nat} (hl : E.L l = some (some (b, c))) {w' : World} (ho : Only E.w w' b) (o : AO)
    (hr : ORep { E with w := w' } (some (b, c)) o) : HR C { E with w := w' } (upd H l (some o)) where
  below := h.below.trans ⟨ho.os, ho.tape, ho.output, by rw [ho.size]; exact Nat.le_refl _, fun k hk => ho.block k (fun e => by have := (h.old l b c hl).1; omega)⟩
  base := by have := h.base; simp only [ho.size]; exact this
  zlt := fun b' hz => by have := h.zlt b' hz; simp only [ho.size]; exact this
  zlive := h.zlive
  zsrc := h.zsrc
  dom := fun l' => by
    simp only [upd_at]
    split
    · rename_i e; subst e; simp [hl]
    · exact h.dom l'
  known := h.known
  inj := h.inj
  obj := fun l' o' p e e' => by
    by_cases hll : l' = l
    · subst hll
      simp only [upd_same] at e
      injection e with e
      subst e
      have e'' : E.L l' = some p := e'
      rw [hl] at e''
      injection e'' with e''
      subst e''
      exact hr
    · simp only [upd_ne _ _ hll] at e
      exact (h.obj l' o' p e e').stab (Env.only_stab h hl ho) (fun b' c' hp => ho.block b' (fun eb => hll (h.inj l' l b c' c (by rw [← eb, ← hp]; exact e') hl)))
  old := fun l' b' c' e => by
    have := h.old l' b' c' e
    simp only [ho.size]
    exact this
end Go.Proofs.YtefdlpandfhcgaaGreatDoor.AL

