/- A law of the given program is proved: part 43 of 50. -/
import Derived.Test.YtefdlpandfhcgaaGreatDoorA42
set_option linter.all false
/- AL: what a call hands back lies in new memory alone. -/
set_option linter.all false
namespace Go.Proofs.YtefdlpandfhcgaaGreatDoor.AL
open Go Go.Proofs Go.RowKit
mutual
def frN (H : Nat → Option AO) : Nat → AV → Option AV
  | 0, _ => none
  | k + 1, x => match x with
    | .val v => some (.val v)
    | .agg cs => (frNs H k cs).map .agg
    | .tup cs => (frNs H k cs).map .tup
    | .sl s [] => some (.sl s [])
    | .e0 => some .e0
    | .msl l n => match H l with
      | some (.row _ s xs) => if n = xs.length then (frNs H k xs).map (.sl s) else none
      | _ => none
    | .mtl l sz q n => match H l with
      | some (.row _ s xs) => if sz = s ∧ q + n ≤ xs.length then (frNs H k ((xs.drop q).take n)).map (.sl s) else none
      | _ => none
    | _ => none
def frNs (H : Nat → Option AO) : Nat → List AV → Option (List AV)
  | 0, _ => none
  | k + 1, xs => match xs with
    | [] => some []
    | x :: xs => match frN H k x, frNs H k xs with
      | some y, some ys => some (y :: ys)
      | _, _ => none
end
theorem xh3 {C : Ctx} {E : Env} {H : Nat → Option AO} (hR : HR C E H) : ∀ k : Nat, (∀ (x y : AV) (u : Value), frN H k x = some y → VRep E x u → VRep (Ec (fun b => C.base ≤ b ∧ b < E.w.heap.size) E.w) y u) ∧ (∀ (xs ys : List AV) (us : List Value), frNs H k xs = some ys → VReps E xs us → VReps (Ec (fun b => C.base ≤ b ∧ b < E.w.heap.size) E.w) ys us) := by
  intro k
  induction k with
  | zero => exact ⟨fun x y u h => by simp [frN] at h, fun x y u h => by simp [frNs] at h⟩
  | succ k ih =>
    obtain ⟨ih1, ih2⟩ := ih
    constructor
    · intro x y u h hx
      unfold frN at h
      split at h
      · injection h with h; subst h
        simpa only [VRep] using hx
      · obtain ⟨z, h1, h2⟩ := Option.map_eq_some_iff.1 h
        subst h2
        simp only [VRep] at hx ⊢
        obtain ⟨us, h3, h4⟩ := hx
        exact ⟨us, ih2 _ _ _ h1 h3, h4⟩
      · obtain ⟨z, h1, h2⟩ := Option.map_eq_some_iff.1 h
        subst h2
        simp only [VRep] at hx ⊢
        obtain ⟨us, h3, h4⟩ := hx
        exact ⟨us, ih2 _ _ _ h1 h3, h4⟩
      · injection h with h; subst h
        simp only [VRep, VReps] at hx ⊢
        obtain ⟨us, A, cap, h1, h2, h3, h4⟩ := hx
        subst h1
        exact ⟨[], A, cap, rfl, h2, h3, .inl rfl⟩
      · injection h with h; subst h
        simpa only [VRep] using hx
      · rename_i l n
        split at h
        · rename_i T s xs hl
          split at h
          · rename_i e
            subst e
            obtain ⟨z, h1, h2⟩ := Option.map_eq_some_iff.1 h
            subst h2
            obtain ⟨p, hp, ho⟩ := hR.live hl
            simp only [VRep] at hx ⊢
            obtain ⟨A, c0, _, rfl, g1, g2, g3, g4⟩ := hx
            cases p with
            | none =>
              simp only [ORep] at ho
              subst ho
              have h7 := ih2 _ _ [] h1 VReps.nil
              have e2 := h7.length
              refine ⟨[], A, c0, h7, by rw [← e2]; rfl, by rw [← e2]; exact Nat.zero_le _, .inl rfl⟩
            | some q =>
              obtain ⟨b, c⟩ := q
              obtain ⟨rfl, rfl⟩ := g3 b c hp
              have ho' := ho
              simp only [ORep] at ho'
              obtain ⟨cur, us, q1, q2, q3, q4, q5, q6, q7⟩ := ho'
              have h7 := ih2 _ _ _ h1 q2
              have e1 := q2.length
              have e2 := h7.length
              refine ⟨us, _, c0, h7, by rw [← e2, e1], by omega, .inr ⟨b, 0, rfl, hR.old l b c0 hp, fun i u hi => ⟨(q3 u (List.mem_of_getElem? hi)).1, (q3 u (List.mem_of_getElem? hi)).2, ?_⟩⟩⟩
              intro j v hj
              show E.w.cell? _ = _
              rw [Nat.zero_add, cell_of_row E.w b _ cur T (0, 0) q1]
              have e := x7f (fun u hu => (q3 u hu).1) hi j v hj
              rw [← q7, List.getElem?_take] at e
              split at e
              · simpa using e
              · cases e
          · cases h
        · cases h
      · rename_i l sz q n
        split at h
        · rename_i T s xs hl
          split at h
          · rename_i e
            obtain ⟨e, hqn⟩ := e
            subst e
            obtain ⟨z, h1, h2⟩ := Option.map_eq_some_iff.1 h
            subst h2
            obtain ⟨p, hp, ho⟩ := hR.live hl
            simp only [VRep] at hx ⊢
            obtain ⟨A, c0, _, rfl, g1, g2⟩ := hx
            by_cases hn : n = 0
            · subst hn
              have h7 := ih2 _ _ [] h1 (by simp only [List.take_zero]; exact VReps.nil)
              have e2 := h7.length
              exact ⟨[], A, c0, h7, by rw [← e2]; rfl, by rw [← e2]; exact Nat.zero_le _, .inl rfl⟩
            obtain ⟨b0, rfl, g3⟩ := g2 (by omega)
            cases p with
            | none =>
              simp only [ORep] at ho
              subst ho
              simp at hqn
              omega
            | some r =>
              obtain ⟨b, c⟩ := r
              obtain ⟨rfl, rfl⟩ := g3 b c hp
              have ho' := ho
              simp only [ORep] at ho'
              obtain ⟨cur, us, q1, q2, q3, q4, q5, q6, q7⟩ := ho'
              have hl2 := q2.length
              have h7 := ih2 _ _ _ h1 ((q2.drop q).take n)
              have e2 := h7.length
              have hzl : z.length = n := by rw [← e2]; simp; omega
              refine ⟨(us.drop q).take n, _, c0, h7, by rw [hzl], by omega, .inr ⟨b0, q * sz, rfl, hR.old l b0 _ hp, fun i u hi => ?_⟩⟩
              have hi' : us[q + i]? = some u := by
                rw [List.getElem?_take] at hi
                split at hi
                · simpa using hi
                · cases hi
              refine ⟨(q3 u (List.mem_of_getElem? hi')).1, (q3 u (List.mem_of_getElem? hi')).2, ?_⟩
              intro j v hj
              show E.w.cell? _ = _
              rw [cell_of_row E.w b0 _ cur T (0, 0) q1]
              have e := x7f (fun u hu => (q3 u hu).1) hi' j v hj
              rw [← q7, List.getElem?_take] at e
              rw [Nat.add_mul] at e
              split at e
              · simpa [Nat.add_assoc] using e
              · cases e
          · cases h
        · cases h
      · cases h
    · intro xs ys us h hx
      unfold frNs at h
      split at h
      · injection h with h; subst h
        simpa only [VReps] using hx
      · split at h
        · rename_i y' ys' hy hys
          injection h with h; subst h
          simp only [VReps] at hx ⊢
          obtain ⟨u, us', h1, h2, h3⟩ := hx
          exact ⟨u, us', ih1 _ _ _ hy h1, ih2 _ _ _ hys h2, h3⟩
        · cases h
theorem x2x {P : Program} {f : FuncId} {args : List AV} {r : AV} (m : Nat) (h : ACall P f args (fun _ => none) 0 fun r' H' _ => ∃ y, frN H' m r' = some y ∧ Sub y r) : OkN P f args r := by
  refine ⟨h.1, fun Z w vals hZ hv => ?_⟩
  let C : Ctx := { base := w.heap.size, w0 := w, zone := Z, gw := hZ.gw, gb := hZ.gw.size }
  have hR : HR C (Ec Z w) (fun _ => none) :=
    ⟨Below.refl _ _, Nat.le_refl _, hZ.zlt, fun _ _ _ _ e => by simp [Ec] at e, fun b hz => .inl hz, fun _ => rfl, fun _ _ e => by simp [Ec] at e, fun _ _ _ _ _ e => by simp [Ec] at e, fun _ _ _ e => by simp at e, fun _ _ _ e => by simp [Ec] at e⟩
  refine (h.2 C (Ec Z w) vals hR (fun l k => k.elim) hv).mono ?_
  rintro e w' ⟨v, r', H', nx', E', rfl, ⟨y, hm, hsub⟩, hv', hR', hs, _, _, rfl⟩
  exact ⟨v, rfl, hR'.below, hsub _ _ ((xh3 hR' m).1 _ _ _ hm hv')⟩
theorem xi2 {H H2 : Nat → Option AO} (hV : SubH H H2) : ∀ k : Nat, (∀ (x y : AV), frz H k x = some y → frz H2 k x = some y) ∧ (∀ (xs ys : List AV), frzs H k xs = some ys → frzs H2 k xs = some ys) := by
  intro k
  induction k with
  | zero => exact ⟨fun x y h => h, fun x y h => h⟩
  | succ k ih =>
    obtain ⟨i1, i2⟩ := ih
    constructor
    · intro x y hx
      unfold frz at hx ⊢
      split at hx
      · rename_i hcx; rw [if_pos hcx]; exact hx
      · rename_i hcx
        rw [if_neg hcx]
        split at hx
        · obtain ⟨z, q1, q2⟩ := Option.map_eq_some_iff.1 hx; simp [i2 _ _ q1, q2]
        · obtain ⟨z, q1, q2⟩ := Option.map_eq_some_iff.1 hx; simp [i2 _ _ q1, q2]
        · obtain ⟨z, q1, q2⟩ := Option.map_eq_some_iff.1 hx; simp [i2 _ _ q1, q2]
        · obtain ⟨z, q1, q2⟩ := Option.map_eq_some_iff.1 hx; simp [i1 _ _ q1, q2]
        · rename_i l sz i off
          cases hl : H l with
          | none => simp [hl] at hx
          | some ob =>
            rw [hl] at hx
            rw [hV l ob hl]
            cases ob with
            | row T sz' xs =>
              simp only at hx ⊢
              split at hx
              · rename_i e
                rw [if_pos e]
                cases hi : xs[i]? with
                | none => simp [hi] at hx
                | some y' =>
                  rw [hi] at hx
                  obtain ⟨z, q1, q2⟩ := Option.map_eq_some_iff.1 hx
                  simp [i1 _ _ q1, q2]
              · cases hx
            | map ks vs => cases hx
            | siter s p => cases hx
            | mapb bs ck ks vs => cases hx
        · rename_i l n
          cases hl : H l with
          | none => simp [hl] at hx
          | some ob =>
            rw [hl] at hx
            rw [hV l ob hl]
            cases ob with
            | row T sz' xs =>
              simp only at hx ⊢
              split at hx
              · rename_i e
                rw [if_pos e]
                obtain ⟨z, q1, q2⟩ := Option.map_eq_some_iff.1 hx
                simp [i2 _ _ q1, q2]
              · cases hx
            | map ks vs => cases hx
            | siter s p => cases hx
            | mapb bs ck ks vs => cases hx
        · exact hx
        · rename_i l sz' q n
          cases hl : H l with
          | none => simp [hl] at hx
          | some ob =>
            rw [hl] at hx
            rw [hV l ob hl]
            cases ob with
            | row T s2 xs =>
              simp only at hx ⊢
              split at hx
              · rename_i e
                rw [if_pos e]
                obtain ⟨z, q1, q2⟩ := Option.map_eq_some_iff.1 hx
                simp [i2 _ _ q1, q2]
              · cases hx
            | map ks vs => cases hx
            | siter s p => cases hx
            | mapb bs ck ks vs => cases hx
        · rename_i f' a' b'
          cases ha : frzs H k a' with
          | none => simp [ha] at hx
          | some a2 =>
            cases hb : frzs H k b' with
            | none => simp [ha, hb] at hx
            | some b2 =>
              rw [ha, hb] at hx
              rw [i2 _ _ ha, i2 _ _ hb]
              exact hx
        · obtain ⟨z, q1, q2⟩ := Option.map_eq_some_iff.1 hx; simp [i1 _ _ q1, q2]
        · cases hx
    · intro xs ys hx
      unfold frzs at hx ⊢
      split at hx
      · rename_i hcx; rw [if_pos hcx]; exact hx
      · rename_i hcx
        rw [if_neg hcx]
        split at hx
        · exact hx
        · rename_i x xs'
          cases ha : frz H k x with
          | none => simp [ha] at hx
          | some a2 =>
            cases hb : frzs H k xs' with
            | none => simp [ha, hb] at hx
            | some b2 =>
              rw [ha, hb] at hx
              simp only [i1 _ _ ha, i2 _ _ hb]
              exact hx
theorem xx6 {P : Program} {V : Nat → Option AO} {new : Nat} {ρ : Operand → AV} {c : Call} {f : FuncId} {ag ag' : List AV} {r : AV} (m : Nat) (h : OkN P f ag' r) (hc : xvb ρ c = some (f, ag)) (hm : frzs V m ag = some ag') : OpS1 P (.call c) V ρ new r := by
  intro o ho C E H2 a hR hV hρ hn next Q hnext
  obtain ⟨vals, h1, h2⟩ := x7g (P := P) ho hρ hc h.1
  unfold Oper.wp
  rw [h2, Oper.upon_enter]
  refine (h.2 (Zall E) E.w vals ⟨?_, hR.gw⟩ ((x8h hR m).2 _ _ _ ((xi2 hV m).2 _ _ hm) h1)).mono ?_
  · intro b hz
    rcases hz with hz | ⟨l, c, hz⟩
    · exact hR.zlt b hz
    · exact (hR.old l b c hz).2
  rintro e w' ⟨v, rfl, hb, hv⟩
  obtain ⟨k1, k2⟩ := xqk hR hb
  refine hnext v _ ?_ k1 k2 fun l kl => .inl kl
  exact hv.stab (Ec.stab (E := { E with w := w', Z := fun b => E.Z b ∨ (E.w.heap.size ≤ b ∧ b < w'.heap.size) }) fun b hz => .inr hz)
end Go.Proofs.YtefdlpandfhcgaaGreatDoor.AL

