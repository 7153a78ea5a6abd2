/- A law of the given program is proved: part 14 of 50. -/
import Derived.Test.YtefdlpandfhcgaaGreatDoorA13
set_option linter.all false
/- AL, part 12: what is closed, what is frozen; calls. -/
set_option linter.unusedSimpArgs false
namespace Go.Proofs.YtefdlpandfhcgaaGreatDoor.AL
open Go.RowKit
mutual
def closed : AV → Bool
  | .val _ => true
  | .agg cs => closeds cs
  | .tup cs => closeds cs
  | .sl _ xs => closeds xs
  | .ptr x _ => closed x
  | .loc _ _ _ _ => false
  | .msl _ _ => false
  | .mp _ => false
  | .mtl _ _ _ _ => false
  | .fn _ a b => closeds a && closeds b
  | .ifc _ x => closed x
  | .e0 => true
  | .junk => true
def closeds : List AV → Bool
  | [] => true
  | x :: xs => closed x && closeds xs
end
mutual
def flat : AV → Bool
  | .val _ => true
  | .agg cs => flats cs
  | .tup cs => flats cs
  | .sl _ xs => xs.isEmpty
  | .ifc _ x => flat x
  | .e0 => true
  | .junk => true
  | _ => false
def flats : List AV → Bool
  | [] => true
  | x :: xs => flat x && flats xs
end
theorem xeb {α : Type} (f : α → AV) (h : ∀ x, closed (f x) = true) : ∀ l : List α, closeds (l.map f) = true
  | [] => rfl
  | x :: xs => by simp [closeds, h x, xeb f h xs]
def Ec (Z : Nat → Prop) (w : World) : Env := { Z := Z, w := w, L := fun _ => none, K := fun _ => False }
theorem Ec.stab {E : Env} {Z : Nat → Prop} (h : ∀ b, Z b → E.Z b) : Stab (Ec Z E.w) E := ⟨fun _ h => h.elim, fun _ h => h.elim, fun b hz => ⟨h b hz, rfl⟩⟩
def Zall (E : Env) (b : Nat) : Prop := E.Z b ∨ ∃ l c, E.L l = some (some (b, c))
mutual
theorem VRep.close {E : Env} {Z : Nat → Prop} (hZ : ∀ b, E.Z b → Z b) : ∀ (x : AV) (u : Value), closed x = true → VRep E x u → VRep (Ec Z E.w) x u
  | .val v, u, _, h => by simpa only [VRep] using h
  | .agg cs, u, hc, h => by
    simp only [VRep] at h ⊢
    obtain ⟨us, h1, h2⟩ := h
    exact ⟨us, VReps.close hZ cs us (by simpa only [closed] using hc) h1, h2⟩
  | .tup cs, u, hc, h => by
    simp only [VRep] at h ⊢
    obtain ⟨us, h1, h2⟩ := h
    exact ⟨us, VReps.close hZ cs us (by simpa only [closed] using hc) h1, h2⟩
  | .sl sz xs, u, hc, h => by
    simp only [VRep] at h ⊢
    obtain ⟨us, A, cap, h1, h2, h3, h4⟩ := h
    refine ⟨us, A, cap, VReps.close hZ xs us (by simpa only [closed] using hc) h1, h2, h3, ?_⟩
    rcases h4 with h4 | ⟨b, o, h5, h6, h7⟩
    · exact .inl h4
    · exact .inr ⟨b, o, h5, hZ b h6, h7⟩
  | .ptr x off, u, hc, h => by
    simp only [VRep] at h ⊢
    obtain ⟨v, b, o, h1, h2, h3, h4⟩ := h
    exact ⟨v, b, o, VRep.close hZ x v (by simpa only [closed] using hc) h1, h2, hZ b h3, h4⟩
  | .loc l sz i off, u, hc, h => by simp [closed] at hc
  | .msl l n, u, hc, h => by simp [closed] at hc
  | .mp l, u, hc, h => by simp [closed] at hc
  | .mtl l sz k n, u, hc, h => by simp [closed] at hc
  | .fn f fi ca, u, hc, h => by
    simp only [VRep] at h ⊢
    simp only [closed, Bool.and_eq_true] at hc
    obtain ⟨a, b, h1, h2, h3⟩ := h
    exact ⟨a, b, VReps.close hZ fi a hc.1 h1, VReps.close hZ ca b hc.2 h2, h3⟩
  | .ifc t x, u, hc, h => by
    simp only [VRep] at h ⊢
    obtain ⟨v, h1, h2⟩ := h
    exact ⟨v, VRep.close hZ x v (by simpa only [closed] using hc) h1, h2⟩
  | .e0, u, _, h => by simpa only [VRep] using h
  | .junk, u, _, h => by simp only [VRep]
theorem VReps.close {E : Env} {Z : Nat → Prop} (hZ : ∀ b, E.Z b → Z b) : ∀ (xs : List AV) (us : List Value), closeds xs = true → VReps E xs us → VReps (Ec Z E.w) xs us
  | [], us, _, h => by simpa only [VReps] using h
  | x :: xs, us, hc, h => by
    simp only [VReps] at h ⊢
    simp only [closeds, Bool.and_eq_true] at hc
    obtain ⟨u, us', h1, h2, h3⟩ := h
    exact ⟨u, us', VRep.close hZ x u hc.1 h1, VReps.close hZ xs us' hc.2 h2, h3⟩
end
mutual
theorem VRep.flat {E E' : Env} : ∀ (x : AV) (u : Value), AL.flat x = true → VRep E x u → VRep E' x u
  | .val v, u, _, h => by simpa only [VRep] using h
  | .agg cs, u, hc, h => by
    simp only [VRep] at h ⊢
    obtain ⟨us, h1, h2⟩ := h
    exact ⟨us, VReps.flat cs us (by simpa only [AL.flat] using hc) h1, h2⟩
  | .tup cs, u, hc, h => by
    simp only [VRep] at h ⊢
    obtain ⟨us, h1, h2⟩ := h
    exact ⟨us, VReps.flat cs us (by simpa only [AL.flat] using hc) h1, h2⟩
  | .sl sz [], u, hc, h => by
    simp only [VRep, VReps] at h ⊢
    obtain ⟨us, A, cap, h1, h2, h3, h4⟩ := h
    subst h1
    exact ⟨[], A, cap, rfl, h2, h3, .inl rfl⟩
  | .sl sz (x :: xs), u, hc, h => by simp [AL.flat] at hc
  | .ptr x off, u, hc, h => by simp [AL.flat] at hc
  | .loc l sz i off, u, hc, h => by simp [AL.flat] at hc
  | .msl l n, u, hc, h => by simp [AL.flat] at hc
  | .mp l, u, hc, h => by simp [AL.flat] at hc
  | .mtl l sz k n, u, hc, h => by simp [AL.flat] at hc
  | .fn f fi ca, u, hc, h => by simp [AL.flat] at hc
  | .ifc t x, u, hc, h => by
    simp only [VRep] at h ⊢
    obtain ⟨v, h1, h2⟩ := h
    exact ⟨v, VRep.flat x v (by simpa only [AL.flat] using hc) h1, h2⟩
  | .e0, u, _, h => by simpa only [VRep] using h
  | .junk, u, _, h => by simp only [VRep]
theorem VReps.flat {E E' : Env} : ∀ (xs : List AV) (us : List Value), AL.flats xs = true → VReps E xs us → VReps E' xs us
  | [], us, _, h => by simpa only [VReps] using h
  | x :: xs, us, hc, h => by
    simp only [VReps] at h ⊢
    simp only [AL.flats, Bool.and_eq_true] at hc
    obtain ⟨u, us', h1, h2, h3⟩ := h
    exact ⟨u, us', VRep.flat x u hc.1 h1, VReps.flat xs us' hc.2 h2, h3⟩
end
mutual
def frz (H : Nat → Option AO) : Nat → AV → Option AV
  | 0, x => if closed x = true then some x else none
  | k + 1, x => if closed x = true then some x else
    match x with
    | .agg cs => (frzs H k cs).map .agg
    | .tup cs => (frzs H k cs).map .tup
    | .sl s xs => (frzs H k xs).map (.sl s)
    | .ptr y off => (frz H k y).map fun z => .ptr z off
    | .loc l sz i off => match H l with
      | some (.row _ sz' xs) => if sz = sz' then match xs[i]? with
        | some y => (frz H k y).map fun z => .ptr z off
        | none => none
        else none
      | _ => none
    | .msl l n => match H l with
      | some (.row _ s xs) => if n = xs.length then (frzs H k xs).map (.sl s) else none
      | _ => none
    | .mp _ => some .junk
    | .mtl l sz q n => match H l with
      | some (.row _ s xs) => if sz = s ∧ q + n ≤ xs.length then (frzs H k ((xs.drop q).take n)).map (.sl s) else none
      | _ => none
    | .fn f a b => match frzs H k a, frzs H k b with
      | some a', some b' => some (.fn f a' b')
      | _, _ => none
    | .ifc t y => (frz H k y).map (.ifc t)
    | _ => none
def frzs (H : Nat → Option AO) : Nat → List AV → Option (List AV)
  | 0, xs => if closeds xs = true then some xs else none
  | k + 1, xs => if closeds xs = true then some xs else
    match xs with
    | [] => some []
    | x :: xs => match frz H k x, frzs H k xs with
      | some y, some ys => some (y :: ys)
      | _, _ => none
end
theorem x8h {C : Ctx} {E : Env} {H : Nat → Option AO} (hR : HR C E H) : ∀ k : Nat, (∀ (x y : AV) (u : Value), frz H k x = some y → VRep E x u → VRep (Ec (Zall E) E.w) y u) ∧ (∀ (xs ys : List AV) (us : List Value), frzs H k xs = some ys → VReps E xs us → VReps (Ec (Zall E) E.w) ys us) := by
  intro k
  induction k with
  | zero =>
    constructor
    · intro x y u h hx
      simp only [frz] at h
      split at h
      · injection h with h; subst h
        exact VRep.close (fun b hz => .inl hz) _ _ ‹_› hx
      · cases h
    · intro x y u h hx
      simp only [frzs] at h
      split at h
      · injection h with h; subst h
        exact VReps.close (fun b hz => .inl hz) _ _ ‹_› hx
      · cases h
  | succ k ih =>
    obtain ⟨ih1, ih2⟩ := ih
    constructor
    · intro x y u h hx
      unfold frz at h
      split at h
      · injection h with h; subst h
        exact VRep.close (fun b hz => .inl hz) _ _ ‹_› hx
      · split at h
        · obtain ⟨z, h1, h2⟩ := Option.map_eq_some_iff.1 h
          subst h2
          simp only [VRep] at hx ⊢
          obtain ⟨us, h3, h4⟩ := hx
          exact ⟨us, ih2 _ _ _ h1 h3, h4⟩
        · obtain ⟨z, h1, h2⟩ := Option.map_eq_some_iff.1 h
          subst h2
          simp only [VRep] at hx ⊢
          obtain ⟨us, h3, h4⟩ := hx
          exact ⟨us, ih2 _ _ _ h1 h3, h4⟩
        · obtain ⟨z, h1, h2⟩ := Option.map_eq_some_iff.1 h
          subst h2
          simp only [VRep] at hx ⊢
          obtain ⟨us, A, cap, h3, h4, h5, h6⟩ := hx
          have h7 := ih2 _ _ _ h1 h3
          have e1 := h3.length
          have e2 := h7.length
          refine ⟨us, A, cap, h7, by rw [h4, ← e2, e1], by omega, ?_⟩
          rcases h6 with h6 | ⟨b, o, g1, g2, g3⟩
          · exact .inl h6
          · exact .inr ⟨b, o, g1, .inl g2, g3⟩
        · obtain ⟨z, h1, h2⟩ := Option.map_eq_some_iff.1 h
          subst h2
          simp only [VRep] at hx ⊢
          obtain ⟨v, b, o, h3, h4, h5, h6⟩ := hx
          exact ⟨v, b, o, ih1 _ _ _ h1 h3, h4, .inl h5, h6⟩
        · rename_i l sz i off _
          split at h
          · rename_i T sz' xs hl
            split at h
            · rename_i e
              subst e
              split at h
              · rename_i y' hy
                obtain ⟨z, h1, h2⟩ := Option.map_eq_some_iff.1 h
                subst h2
                obtain ⟨p, hp, ho⟩ := hR.live hl
                cases p with
                | none => simp only [ORep] at ho; subst ho; simp at hy
                | some q =>
                  obtain ⟨b, c⟩ := q
                  obtain ⟨v, g1, g2, g3, g4⟩ := ho.cells hy
                  simp only [VRep] at hx ⊢
                  obtain ⟨b0, _, rfl, hb⟩ := hx
                  obtain rfl := hb b c hp
                  exact ⟨v, b0, i * sz, ih1 _ _ _ h1 g1, rfl, .inr ⟨l, c, hp⟩, g4⟩
              · cases h
            · cases h
          · cases h
        · rename_i l n _
          split at h
          · rename_i T s xs hl
            split at h
            · rename_i e
              subst e
              obtain ⟨z, h1, h2⟩ := Option.map_eq_some_iff.1 h
              subst h2
              obtain ⟨p, hp, ho⟩ := hR.live hl
              simp only [VRep] at hx ⊢
              obtain ⟨A, c0, _, rfl, g1, g2, g3, g4⟩ := hx
              cases p with
              | none =>
                simp only [ORep] at ho
                subst ho
                have h7 := ih2 _ _ [] h1 VReps.nil
                have e2 := h7.length
                refine ⟨[], A, c0, h7, by rw [← e2]; rfl, by rw [← e2]; exact Nat.zero_le _, .inl rfl⟩
              | some q =>
                obtain ⟨b, c⟩ := q
                obtain ⟨rfl, rfl⟩ := g3 b c hp
                have ho' := ho
                simp only [ORep] at ho'
                obtain ⟨cur, us, q1, q2, q3, q4, q5, q6, q7⟩ := ho'
                have h7 := ih2 _ _ _ h1 q2
                have e1 := q2.length
                have e2 := h7.length
                refine ⟨us, _, c0, h7, by rw [← e2, e1], by omega, .inr ⟨b, 0, rfl, .inr ⟨l, c0, hp⟩, fun i u hi => ⟨(q3 u (List.mem_of_getElem? hi)).1, (q3 u (List.mem_of_getElem? hi)).2, ?_⟩⟩⟩
                intro j v hj
                show E.w.cell? _ = _
                rw [Nat.zero_add, cell_of_row E.w b _ cur T (0, 0) q1]
                have e := x7f (fun u hu => (q3 u hu).1) hi j v hj
                rw [← q7, List.getElem?_take] at e
                split at e
                · simpa using e
                · cases e
            · cases h
          · cases h
        · injection h with h; subst h; simp only [VRep]
        · rename_i l sz q n _
          split at h
          · rename_i T s xs hl
            split at h
            · rename_i e
              obtain ⟨e, hqn⟩ := e
              subst e
              obtain ⟨z, h1, h2⟩ := Option.map_eq_some_iff.1 h
              subst h2
              obtain ⟨p, hp, ho⟩ := hR.live hl
              simp only [VRep] at hx ⊢
              obtain ⟨A, c0, _, rfl, g1, g2⟩ := hx
              by_cases hn : n = 0
              · subst hn
                have h7 := ih2 _ _ [] h1 (by simp only [List.take_zero]; exact VReps.nil)
                have e2 := h7.length
                exact ⟨[], A, c0, h7, by rw [← e2]; rfl, by rw [← e2]; exact Nat.zero_le _, .inl rfl⟩
              obtain ⟨b0, rfl, g3⟩ := g2 (by omega)
              cases p with
              | none =>
                simp only [ORep] at ho
                subst ho
                simp at hqn
                omega
              | some r =>
                obtain ⟨b, c⟩ := r
                obtain ⟨rfl, rfl⟩ := g3 b c hp
                have ho' := ho
                simp only [ORep] at ho'
                obtain ⟨cur, us, q1, q2, q3, q4, q5, q6, q7⟩ := ho'
                have hl2 := q2.length
                have h7 := ih2 _ _ _ h1 ((q2.drop q).take n)
                have e1 := (VReps.take n (q2.drop q)).length
                have e2 := h7.length
                have hzl : z.length = n := by rw [← e2]; simp; omega
                refine ⟨(us.drop q).take n, _, c0, h7, by rw [hzl], by omega, .inr ⟨b0, q * sz, rfl, .inr ⟨l, _, hp⟩, fun i u hi => ?_⟩⟩
                have hi' : us[q + i]? = some u := by
                  rw [List.getElem?_take] at hi
                  split at hi
                  · simpa using hi
                  · cases hi
                refine ⟨(q3 u (List.mem_of_getElem? hi')).1, (q3 u (List.mem_of_getElem? hi')).2, ?_⟩
                intro j v hj
                show E.w.cell? _ = _
                rw [cell_of_row E.w b0 _ cur T (0, 0) q1]
                have e := x7f (fun u hu => (q3 u hu).1) hi' j v hj
                rw [← q7, List.getElem?_take] at e
                rw [Nat.add_mul] at e
                split at e
                · simpa [Nat.add_assoc] using e
                · cases e
            · cases h
          · cases h
        · split at h
          · rename_i a' b' ha hb
            injection h with h; subst h
            simp only [VRep] at hx ⊢
            obtain ⟨a, b, h1, h2, h3⟩ := hx
            exact ⟨a, b, ih2 _ _ _ ha h1, ih2 _ _ _ hb h2, h3⟩
          · cases h
        · obtain ⟨z, h1, h2⟩ := Option.map_eq_some_iff.1 h
          subst h2
          simp only [VRep] at hx ⊢
          obtain ⟨v, h3, h4⟩ := hx
          exact ⟨v, ih1 _ _ _ h1 h3, h4⟩
        · cases h
    · intro xs ys us h hx
      unfold frzs at h
      split at h
      · injection h with h; subst h
        exact VReps.close (fun b hz => .inl hz) _ _ ‹_› hx
      · split at h
        · injection h with h; subst h
          simpa only [VReps] using hx
        · split at h
          · rename_i y' ys' hy hys
            injection h with h; subst h
            simp only [VReps] at hx ⊢
            obtain ⟨u, us', h1, h2, h3⟩ := hx
            exact ⟨u, us', ih1 _ _ _ hy h1, ih2 _ _ _ hys h2, h3⟩
          · cases h
end Go.Proofs.YtefdlpandfhcgaaGreatDoor.AL

