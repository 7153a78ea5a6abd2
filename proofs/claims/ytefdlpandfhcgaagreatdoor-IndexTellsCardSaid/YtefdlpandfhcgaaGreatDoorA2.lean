/- A law of the given program is proved: part 2 of 50. -/
import Derived.OwnWalk
import Derived.ScopeJumps
import Derived.KernelRfl
import Derived.Below
import Derived.Test.YtefdlpandfhcgaaGreatDoorA1
set_option linter.all false
/- AL, part 1: abstract values, what they say of a world (VRep), and how that is kept when the world grows (Stab). -/
namespace Go.Proofs.YtefdlpandfhcgaaGreatDoor.AL
open Go.RowKit
inductive AV where
  | val (v : Value)
  | agg (cs : List AV)
  | tup (cs : List AV)
  | sl (sz : Nat) (xs : List AV)
  | ptr (x : AV) (off : Nat)
  | loc (l sz i off : Nat)
  | msl (l n : Nat)
  | mp (l : Nat)
  | mtl (l sz k n : Nat)
  | fn (f : Fn) (first captured : List AV)
  | ifc (t : TypeId) (x : AV)
  | e0
  | junk
  deriving Inhabited
def AV.cells : AV → List AV
  | .agg cs => cs
  | x => [x]
def AV.one : AV → Bool
  | .val v => v.oneCell'
  | .agg _ => false
  | .tup _ => false
  | .junk => false
  | _ => true
structure Env where
  Z : Nat → Prop
  w : World
  L : Nat → Option (Option (Nat × Nat))
  K : Nat → Prop
def xnf (w : World) (b o : Nat) (cs : Array Value) : Prop := ∀ j v, cs[j]? = some v → w.cell? ⟨b, o + j, none⟩ = some v
def SlAt (E : Env) (sz : Nat) (A : Option Addr) (us : List Value) : Prop :=
  us = [] ∨ ∃ b o, A = some ⟨b, o, none⟩ ∧ E.Z b ∧ ∀ (i : Nat) (u : Value), us[i]? = some u → u.cells.size = sz ∧ (∀ v ∈ u.cells.toList, v.oneCell' = true) ∧ xnf E.w b (o + i * sz) u.cells
mutual
def VRep (E : Env) : AV → Value → Prop
  | .val v, u => u = v
  | .agg cs, u => ∃ us : List Value, VReps E cs us ∧ u = .agg us.toArray
  | .tup cs, u => ∃ us : List Value, VReps E cs us ∧ u = .tuple us.toArray
  | .sl sz xs, u => ∃ us A cap, VReps E xs us ∧ u = .slice A xs.length cap ∧ xs.length ≤ cap ∧ SlAt E sz A us
  | .ptr x off, u => ∃ v b o, VRep E x v ∧ u = .pointer (some ⟨b, o + off, none⟩) ∧ E.Z b ∧ xnf E.w b o v.cells
  | .loc l sz i off, u => ∃ b0, E.K l ∧ u = .pointer (some ⟨b0, i * sz + off, none⟩) ∧ ∀ b c, E.L l = some (some (b, c)) → b0 = b
  | .msl l n, u => ∃ A c0, E.K l ∧ u = .slice A n c0 ∧ (0 < n → ∃ b0, A = some ⟨b0, 0, none⟩) ∧ n ≤ c0 ∧ (∀ b c, E.L l = some (some (b, c)) → A = some ⟨b, 0, none⟩ ∧ c0 = c) ∧ (E.L l = some none → n = 0 ∧ c0 = 0)
  | .mp l, u => ∃ b0, E.K l ∧ u = .map (some b0) ∧ ∀ b c, E.L l = some (some (b, c)) → b0 = b
  | .mtl l sz k n, u => ∃ A c0, E.K l ∧ u = .slice A n c0 ∧ n ≤ c0 ∧ (0 < n → ∃ b0, A = some ⟨b0, k * sz, none⟩ ∧ ∀ b c, E.L l = some (some (b, c)) → b0 = b ∧ c0 + k = c)
  | .fn f fi ca, u => ∃ a b : List Value, VReps E fi a ∧ VReps E ca b ∧ u = .func f a.toArray b.toArray
  | .ifc t x, u => ∃ v, VRep E x v ∧ u = .iface t v
  | .e0, u => ∃ A, u = .slice A 0 0
  | .junk, _ => True
def VReps (E : Env) : List AV → List Value → Prop
  | [], us => us = []
  | x :: xs, us => ∃ u us', VRep E x u ∧ VReps E xs us' ∧ us = u :: us'
end
structure Stab (E E' : Env) : Prop where
  K : ∀ l, E.K l → E'.K l
  L : ∀ l, E.K l → ∀ x, E'.L l = some x → E.L l = some x
  Z : ∀ b, E.Z b → E'.Z b ∧ E'.w.heap[b]? = E.w.heap[b]?
theorem Stab.refl (E : Env) : Stab E E := ⟨fun _ h => h, fun _ _ _ h => h, fun _ h => ⟨h, rfl⟩⟩
theorem Stab.trans {E1 E2 E3 : Env} (h : Stab E1 E2) (k : Stab E2 E3) : Stab E1 E3 :=
  ⟨fun l a => k.K l (h.K l a), fun l a x e => h.L l a x (k.L l (h.K l a) x e), fun b a => ⟨(k.Z b (h.Z b a).1).1, (k.Z b (h.Z b a).1).2.trans (h.Z b a).2⟩⟩
theorem xnf.stab {E E' : Env} (s : Stab E E') {b o : Nat} {cs : Array Value} (hz : E.Z b) (h : xnf E.w b o cs) : xnf E'.w b o cs :=
  fun j v hj => (World.cell?_of_block (a := ⟨b, o + j, none⟩) (s.Z b hz).2).trans (h j v hj)
theorem SlAt.stab {E E' : Env} (s : Stab E E') {sz : Nat} {A : Option Addr} {us : List Value} (h : SlAt E sz A us) : SlAt E' sz A us := by
  rcases h with h | ⟨b, o, rfl, hz, h⟩
  · exact .inl h
  · exact .inr ⟨b, o, rfl, (s.Z b hz).1, fun i u hu => ⟨(h i u hu).1, (h i u hu).2.1, (h i u hu).2.2.stab s hz⟩⟩
mutual
theorem VRep.stab {E E' : Env} (s : Stab E E') : ∀ (x : AV) (u : Value), VRep E x u → VRep E' x u
  | .val v, u, h => by simpa only [VRep] using h
  | .agg cs, u, h => by
    simp only [VRep] at h ⊢
    obtain ⟨us, h1, h2⟩ := h
    exact ⟨us, VReps.stab s cs us h1, h2⟩
  | .tup cs, u, h => by
    simp only [VRep] at h ⊢
    obtain ⟨us, h1, h2⟩ := h
    exact ⟨us, VReps.stab s cs us h1, h2⟩
  | .sl sz xs, u, h => by
    simp only [VRep] at h ⊢
    obtain ⟨us, A, cap, h1, h2, h3, h4⟩ := h
    exact ⟨us, A, cap, VReps.stab s xs us h1, h2, h3, h4.stab s⟩
  | .ptr x off, u, h => by
    simp only [VRep] at h ⊢
    obtain ⟨v, b, o, h1, h2, h3, h4⟩ := h
    exact ⟨v, b, o, VRep.stab s x v h1, h2, (s.Z b h3).1, h4.stab s h3⟩
  | .loc l sz i off, u, h => by
    simp only [VRep] at h ⊢
    obtain ⟨b0, h1, h2, h3⟩ := h
    exact ⟨b0, s.K l h1, h2, fun b c hb => h3 b c (s.L l h1 _ hb)⟩
  | .msl l n, u, h => by
    simp only [VRep] at h ⊢
    obtain ⟨A, c0, h1, h2, h5, h6, h3, h4⟩ := h
    exact ⟨A, c0, s.K l h1, h2, h5, h6, fun b c hb => h3 b c (s.L l h1 _ hb), fun hb => h4 (s.L l h1 _ hb)⟩
  | .mp l, u, h => by
    simp only [VRep] at h ⊢
    obtain ⟨b0, h1, h2, h3⟩ := h
    exact ⟨b0, s.K l h1, h2, fun b c hb => h3 b c (s.L l h1 _ hb)⟩
  | .mtl l sz k n, u, h => by
    simp only [VRep] at h ⊢
    obtain ⟨A, c0, h1, h2, h3, h4⟩ := h
    refine ⟨A, c0, s.K l h1, h2, h3, fun hn => ?_⟩
    obtain ⟨b0, h5, h6⟩ := h4 hn
    exact ⟨b0, h5, fun b c hb => h6 b c (s.L l h1 _ hb)⟩
  | .fn f fi ca, u, h => by
    simp only [VRep] at h ⊢
    obtain ⟨a, b, h1, h2, h3⟩ := h
    exact ⟨a, b, VReps.stab s fi a h1, VReps.stab s ca b h2, h3⟩
  | .ifc t x, u, h => by
    simp only [VRep] at h ⊢
    obtain ⟨v, h1, h2⟩ := h
    exact ⟨v, VRep.stab s x v h1, h2⟩
  | .e0, u, h => by simpa only [VRep] using h
  | .junk, u, h => by simp only [VRep]
theorem VReps.stab {E E' : Env} (s : Stab E E') : ∀ (xs : List AV) (us : List Value), VReps E xs us → VReps E' xs us
  | [], us, h => by simpa only [VReps] using h
  | x :: xs, us, h => by
    simp only [VReps] at h ⊢
    obtain ⟨u, us', h1, h2, h3⟩ := h
    exact ⟨u, us', VRep.stab s x u h1, VReps.stab s xs us' h2, h3⟩
end
theorem VReps.length {E : Env} : ∀ {xs : List AV} {us : List Value}, VReps E xs us → us.length = xs.length
  | [], us, h => by simp only [VReps] at h; simp [h]
  | x :: xs, us, h => by
    simp only [VReps] at h
    obtain ⟨u, us', _, h2, rfl⟩ := h
    simp [h2.length]
theorem VReps.cons {E : Env} {x : AV} {xs : List AV} {u : Value} {us : List Value} (h : VRep E x u) (t : VReps E xs us) : VReps E (x :: xs) (u :: us) := by
  simp only [VReps]
  exact ⟨u, us, h, t, rfl⟩
theorem VReps.nil {E : Env} : VReps E [] [] := by simp only [VReps]
theorem VReps.get {E : Env} : ∀ {xs : List AV} {us : List Value}, VReps E xs us → ∀ (i : Nat) (x : AV), xs[i]? = some x → ∃ u, us[i]? = some u ∧ VRep E x u
  | [], us, h, i, x, hx => by simp at hx
  | y :: ys, us, h, i, x, hx => by
    simp only [VReps] at h
    obtain ⟨u, us', h1, h2, rfl⟩ := h
    cases i with
    | zero =>
      have e : y = x := by simpa using hx
      exact ⟨u, rfl, e ▸ h1⟩
    | succ i =>
      obtain ⟨v, hv, hr⟩ := h2.get i x (by simpa using hx)
      exact ⟨v, by simpa using hv, hr⟩
theorem VReps.get' {E : Env} {xs : List AV} {us : List Value} (h : VReps E xs us) (i : Nat) (u : Value) (hu : us[i]? = some u) : ∃ x, xs[i]? = some x ∧ VRep E x u := by
  have hi : i < xs.length := by
    have := (List.getElem?_eq_some_iff.1 hu).1
    rw [h.length] at this
    exact this
  obtain ⟨v, hv, hr⟩ := h.get i _ (List.getElem?_eq_getElem hi)
  rw [hu] at hv
  obtain rfl := Option.some.inj hv
  exact ⟨_, List.getElem?_eq_getElem hi, hr⟩
theorem VReps.append {E : Env} : ∀ {xs : List AV} {us : List Value} {ys : List AV} {vs : List Value}, VReps E xs us → VReps E ys vs → VReps E (xs ++ ys) (us ++ vs)
  | [], us, ys, vs, h, k => by simp only [VReps] at h; subst h; simpa using k
  | x :: xs, us, ys, vs, h, k => by
    simp only [VReps] at h
    obtain ⟨u, us', h1, h2, rfl⟩ := h
    exact .cons h1 (h2.append k)
theorem VReps.take {E : Env} : ∀ {xs : List AV} {us : List Value} (n : Nat), VReps E xs us → VReps E (xs.take n) (us.take n)
  | [], us, n, h => by simp only [VReps] at h; subst h; simp [VReps]
  | x :: xs, us, 0, h => by simpa using VReps.nil
  | x :: xs, us, n + 1, h => by
    simp only [VReps] at h
    obtain ⟨u, us', h1, h2, rfl⟩ := h
    exact .cons h1 (h2.take n)
theorem VReps.drop {E : Env} : ∀ {xs : List AV} {us : List Value} (n : Nat), VReps E xs us → VReps E (xs.drop n) (us.drop n)
  | [], us, n, h => by simp only [VReps] at h; subst h; simp [VReps]
  | x :: xs, us, 0, h => by simpa using h
  | x :: xs, us, n + 1, h => by
    simp only [VReps] at h
    obtain ⟨u, us', h1, h2, rfl⟩ := h
    simpa using h2.drop n
theorem VReps.set {E : Env} : ∀ {xs : List AV} {us : List Value} (n : Nat) {x : AV} {u : Value}, VReps E xs us → VRep E x u → VReps E (xs.set n x) (us.set n u)
  | [], us, n, x, u, h, k => by simp only [VReps] at h; subst h; simp [VReps]
  | y :: ys, us, 0, x, u, h, k => by
    simp only [VReps] at h
    obtain ⟨v, us', h1, h2, rfl⟩ := h
    exact .cons k h2
  | y :: ys, us, n + 1, x, u, h, k => by
    simp only [VReps] at h
    obtain ⟨v, us', h1, h2, rfl⟩ := h
    exact .cons h1 (h2.set n k)
theorem VReps.of_forall {E : Env} : ∀ (xs : List AV) (us : List Value), us.length = xs.length → (∀ (i : Nat) (x : AV) (u : Value), xs[i]? = some x → us[i]? = some u → VRep E x u) → VReps E xs us
  | [], us, hl, h => by
    have : us = [] := List.eq_nil_of_length_eq_zero (by simpa using hl)
    subst this
    exact .nil
  | x :: xs, [], hl, h => by simp at hl
  | x :: xs, u :: us, hl, h => .cons (h 0 x u rfl rfl) (of_forall xs us (by simpa using hl) fun i y v hy hv => h (i + 1) y v (by simpa using hy) (by simpa using hv))
theorem VReps.replicate {E : Env} (n : Nat) {x : AV} {u : Value} (h : VRep E x u) : VReps E (List.replicate n x) (List.replicate n u) := by
  induction n with
  | zero => exact .nil
  | succ n ih => exact .cons h ih
theorem VRep.one_cells {E : Env} {x : AV} {u : Value} (h : VRep E x u) (ho : x.one = true) : u.oneCell' = true ∧ u.cells = #[u] ∧ x.cells = [x] := by
  have hc : ∀ v : Value, v.oneCell' = true → v.cells = #[v] := by
    intro v hv
    cases v <;> simp_all [Value.oneCell', Value.cells]
  cases x with
  | val v =>
    simp only [VRep] at h
    subst h
    exact ⟨ho, hc _ ho, rfl⟩
  | agg cs => simp [AV.one] at ho
  | tup cs => simp [AV.one] at ho
  | junk => simp [AV.one] at ho
  | sl sz xs =>
    simp only [VRep] at h
    obtain ⟨us, A, cap, _, rfl, _⟩ := h
    exact ⟨rfl, rfl, rfl⟩
  | ptr y off =>
    simp only [VRep] at h
    obtain ⟨v, b, o, _, rfl, _⟩ := h
    exact ⟨rfl, rfl, rfl⟩
  | fn f a b =>
    simp only [VRep] at h
    obtain ⟨_, _, _, _, rfl⟩ := h
    exact ⟨rfl, rfl, rfl⟩
  | ifc t y =>
    simp only [VRep] at h
    obtain ⟨_, _, rfl⟩ := h
    exact ⟨rfl, rfl, rfl⟩
  | e0 =>
    simp only [VRep] at h
    obtain ⟨_, rfl⟩ := h
    exact ⟨rfl, rfl, rfl⟩
  | loc l sz i off =>
    simp only [VRep] at h
    obtain ⟨_, _, rfl, _⟩ := h
    exact ⟨rfl, rfl, rfl⟩
  | msl l n =>
    simp only [VRep] at h
    obtain ⟨_, _, _, rfl, _⟩ := h
    exact ⟨rfl, rfl, rfl⟩
  | mp l =>
    simp only [VRep] at h
    obtain ⟨_, _, rfl, _⟩ := h
    exact ⟨rfl, rfl, rfl⟩
  | mtl l sz k n =>
    simp only [VRep] at h
    obtain ⟨_, _, _, rfl, _⟩ := h
    exact ⟨rfl, rfl, rfl⟩
theorem VRep.cells {E : Env} {x : AV} {u : Value} (h : VRep E x u) (hx : x.one = true ∨ ∃ cs, x = .agg cs) : VReps E x.cells u.cells.toList := by
  rcases hx with ho | ⟨cs, rfl⟩
  · obtain ⟨_, h2, h3⟩ := h.one_cells ho
    rw [h2, h3]
    exact .cons h .nil
  · simp only [VRep] at h
    obtain ⟨us, h1, rfl⟩ := h
    simpa [AV.cells, Value.cells] using h1
theorem VReps.one {E : Env} {xs : List AV} {us : List Value} (h : VReps E xs us) (ho : xs.all AV.one = true) : ∀ u ∈ us, u.oneCell' = true := by
  intro u hu
  obtain ⟨i, hi⟩ := List.getElem?_of_mem hu
  obtain ⟨x, hx, hr⟩ := h.get' i u hi
  exact (hr.one_cells (List.all_eq_true.1 ho x (List.mem_of_getElem? hx))).1
end Go.Proofs.YtefdlpandfhcgaaGreatDoor.AL

