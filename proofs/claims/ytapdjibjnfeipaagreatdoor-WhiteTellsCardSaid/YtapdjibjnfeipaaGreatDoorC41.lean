/- A law of the given program is proved: part 41 of 50. -/
import Derived.Test.YtapdjibjnfeipaaGreatDoorC40
set_option linter.all false
/- AL: what a call hands back lies in new memory alone. -/
set_option linter.all false
namespace Go.Proofs.YtapdjibjnfeipaaGreatDoor.AL
open Go Go.Proofs Go.RowKit
mutual
def frN (H : Nat → Option AO) : Nat → AV → Option AV
  | 0, _ => none
  | k + 1, x => match x with
    | .val v => some (.val v)
    | .agg cs => (frNs H k cs).map .agg
    | .tup cs => (frNs H k cs).map .tup
    | .sl s [] => some (.sl s [])
    | .e0 => some .e0
    | .msl l n => match H l with
      | some (.row _ s xs) => if n = xs.length then (frNs H k xs).map (.sl s) else none
      | _ => none
    | .mtl l sz q n => match H l with
      | some (.row _ s xs) => if sz = s ∧ q + n ≤ xs.length then (frNs H k ((xs.drop q).take n)).map (.sl s) else none
      | _ => none
    | _ => none
def frNs (H : Nat → Option AO) : Nat → List AV → Option (List AV)
  | 0, _ => none
  | k + 1, xs => match xs with
    | [] => some []
    | x :: xs => match frN H k x, frNs H k xs with
      | some y, some ys => some (y :: ys)
      | _, _ => none
end
theorem frN_sound {C : Ctx} {E : Env} {H : Nat → Option AO} (hR : HR C E H) : ∀ k : Nat, (∀ (x y : AV) (u : Value), frN H k x = some y → VRep E x u → VRep (Ec (fun b => C.base ≤ b ∧ b < E.w.heap.size) E.w) y u) ∧ (∀ (xs ys : List AV) (us : List Value), frNs H k xs = some ys → VReps E xs us → VReps (Ec (fun b => C.base ≤ b ∧ b < E.w.heap.size) E.w) ys us) := by
  intro k
  induction k with
  | zero => exact ⟨fun x y u h => by simp [frN] at h, fun x y u h => by simp [frNs] at h⟩
  | succ k ih =>
    obtain ⟨ih1, ih2⟩ := ih
    constructor
    · intro x y u h hx
      unfold frN at h
      split at h
      · injection h with h; subst h
        simpa only [VRep] using hx
      · obtain ⟨z, h1, h2⟩ := Option.map_eq_some_iff.1 h
        subst h2
        simp only [VRep] at hx ⊢
        obtain ⟨us, h3, h4⟩ := hx
        exact ⟨us, ih2 _ _ _ h1 h3, h4⟩
      · obtain ⟨z, h1, h2⟩ := Option.map_eq_some_iff.1 h
        subst h2
        simp only [VRep] at hx ⊢
        obtain ⟨us, h3, h4⟩ := hx
        exact ⟨us, ih2 _ _ _ h1 h3, h4⟩
      · injection h with h; subst h
        simp only [VRep, VReps] at hx ⊢
        obtain ⟨us, A, cap, h1, h2, h3, h4⟩ := hx
        subst h1
        exact ⟨[], A, cap, rfl, h2, h3, .inl rfl⟩
      · injection h with h; subst h
        simpa only [VRep] using hx
      · rename_i l n
        split at h
        · rename_i T s xs hl
          split at h
          · rename_i e
            subst e
            obtain ⟨z, h1, h2⟩ := Option.map_eq_some_iff.1 h
            subst h2
            obtain ⟨p, hp, ho⟩ := hR.live hl
            simp only [VRep] at hx ⊢
            obtain ⟨A, c0, _, rfl, g1, g2, g3, g4⟩ := hx
            cases p with
            | none =>
              simp only [ORep] at ho
              subst ho
              have h7 := ih2 _ _ [] h1 VReps.nil
              have e2 := h7.length
              refine ⟨[], A, c0, h7, by rw [← e2]; rfl, by rw [← e2]; exact Nat.zero_le _, .inl rfl⟩
            | some q =>
              obtain ⟨b, c⟩ := q
              obtain ⟨rfl, rfl⟩ := g3 b c hp
              have ho' := ho
              simp only [ORep] at ho'
              obtain ⟨cur, us, q1, q2, q3, q4, q5, q6, q7⟩ := ho'
              have h7 := ih2 _ _ _ h1 q2
              have e1 := q2.length
              have e2 := h7.length
              refine ⟨us, _, c0, h7, by rw [← e2, e1], by omega, .inr ⟨b, 0, rfl, hR.old l b c0 hp, fun i u hi => ⟨(q3 u (List.mem_of_getElem? hi)).1, (q3 u (List.mem_of_getElem? hi)).2, ?_⟩⟩⟩
              intro j v hj
              show E.w.cell? _ = _
              rw [Nat.zero_add, cell_of_row E.w b _ cur T (0, 0) q1]
              have e := flatV_at (fun u hu => (q3 u hu).1) hi j v hj
              rw [← q7, List.getElem?_take] at e
              split at e
              · simpa using e
              · cases e
          · cases h
        · cases h
      · rename_i l sz q n
        split at h
        · rename_i T s xs hl
          split at h
          · rename_i e
            obtain ⟨e, hqn⟩ := e
            subst e
            obtain ⟨z, h1, h2⟩ := Option.map_eq_some_iff.1 h
            subst h2
            obtain ⟨p, hp, ho⟩ := hR.live hl
            simp only [VRep] at hx ⊢
            obtain ⟨A, c0, _, rfl, g1, g2⟩ := hx
            by_cases hn : n = 0
            · subst hn
              have h7 := ih2 _ _ [] h1 (by simp only [List.take_zero]; exact VReps.nil)
              have e2 := h7.length
              exact ⟨[], A, c0, h7, by rw [← e2]; rfl, by rw [← e2]; exact Nat.zero_le _, .inl rfl⟩
            obtain ⟨b0, rfl, g3⟩ := g2 (by omega)
            cases p with
            | none =>
              simp only [ORep] at ho
              subst ho
              simp at hqn
              omega
            | some r =>
              obtain ⟨b, c⟩ := r
              obtain ⟨rfl, rfl⟩ := g3 b c hp
              have ho' := ho
              simp only [ORep] at ho'
              obtain ⟨cur, us, q1, q2, q3, q4, q5, q6, q7⟩ := ho'
              have hl2 := q2.length
              have h7 := ih2 _ _ _ h1 ((q2.drop q).take n)
              have e2 := h7.length
              have hzl : z.length = n := by rw [← e2]; simp; omega
              refine ⟨(us.drop q).take n, _, c0, h7, by rw [hzl], by omega, .inr ⟨b0, q * sz, rfl, hR.old l b0 _ hp, fun i u hi => ?_⟩⟩
              have hi' : us[q + i]? = some u := by
                rw [List.getElem?_take] at hi
                split at hi
                · simpa using hi
                · cases hi
              refine ⟨(q3 u (List.mem_of_getElem? hi')).1, (q3 u (List.mem_of_getElem? hi')).2, ?_⟩
              intro j v hj
              show E.w.cell? _ = _
              rw [cell_of_row E.w b0 _ cur T (0, 0) q1]
              have e := flatV_at (fun u hu => (q3 u hu).1) hi' j v hj
              rw [← q7, List.getElem?_take] at e
              rw [Nat.add_mul] at e
              split at e
              · simpa [Nat.add_assoc] using e
              · cases e
          · cases h
        · cases h
      · cases h
    · intro xs ys us h hx
      unfold frNs at h
      split at h
      · injection h with h; subst h
        simpa only [VReps] using hx
      · split at h
        · rename_i y' ys' hy hys
          injection h with h; subst h
          simp only [VReps] at hx ⊢
          obtain ⟨u, us', h1, h2, h3⟩ := hx
          exact ⟨u, us', ih1 _ _ _ hy h1, ih2 _ _ _ hys h2, h3⟩
        · cases h
theorem okN_of_acall {P : Program} {f : FuncId} {args : List AV} {r : AV} (m : Nat) (h : ACall P f args (fun _ => none) 0 fun r' H' _ => ∃ y, frN H' m r' = some y ∧ Sub y r) : OkN P f args r := by
  refine ⟨h.1, fun Z w vals hZ hv => ?_⟩
  let C : Ctx := { base := w.heap.size, w0 := w, zone := Z, gw := hZ.gw, gb := hZ.gw.size }
  have hR : HR C (Ec Z w) (fun _ => none) :=
    ⟨Below.refl _ _, Nat.le_refl _, hZ.zlt, fun _ _ _ _ e => by simp [Ec] at e, fun b hz => .inl hz, fun _ => rfl, fun _ _ e => by simp [Ec] at e, fun _ _ _ _ _ e => by simp [Ec] at e, fun _ _ _ e => by simp at e, fun _ _ _ e => by simp [Ec] at e⟩
  refine (h.2 C (Ec Z w) vals hR (fun l k => k.elim) hv).mono ?_
  rintro e w' ⟨v, r', H', nx', E', rfl, ⟨y, hm, hsub⟩, hv', hR', hs, _, _, rfl⟩
  exact ⟨v, rfl, hR'.below, hsub _ _ ((frN_sound hR' m).1 _ _ _ hm hv')⟩
theorem frzs_mono {H H2 : Nat → Option AO} (hV : SubH H H2) : ∀ k : Nat, (∀ (x y : AV), frz H k x = some y → frz H2 k x = some y) ∧ (∀ (xs ys : List AV), frzs H k xs = some ys → frzs H2 k xs = some ys) := by
  intro k
  induction k with
  | zero => exact ⟨fun x y h => h, fun x y h => h⟩
  | succ k ih =>
    obtain ⟨i1, i2⟩ := ih
    constructor
    · intro x y hx
      unfold frz at hx ⊢
      split at hx
      · rename_i hcx; rw [if_pos hcx]; exact hx
      · rename_i hcx
        rw [if_neg hcx]
        split at hx
        · obtain ⟨z, q1, q2⟩ := Option.map_eq_some_iff.1 hx; simp [i2 _ _ q1, q2]
        · obtain ⟨z, q1, q2⟩ := Option.map_eq_some_iff.1 hx; simp [i2 _ _ q1, q2]
        · obtain ⟨z, q1, q2⟩ := Option.map_eq_some_iff.1 hx; simp [i2 _ _ q1, q2]
        · obtain ⟨z, q1, q2⟩ := Option.map_eq_some_iff.1 hx; simp [i1 _ _ q1, q2]
        · rename_i l sz i off
          cases hl : H l with
          | none => simp [hl] at hx
          | some ob =>
            rw [hl] at hx
            rw [hV l ob hl]
            cases ob with
            | row T sz' xs =>
              simp only at hx ⊢
              split at hx
              · rename_i e
                rw [if_pos e]
                cases hi : xs[i]? with
                | none => simp [hi] at hx
                | some y' =>
                  rw [hi] at hx
                  obtain ⟨z, q1, q2⟩ := Option.map_eq_some_iff.1 hx
                  simp [i1 _ _ q1, q2]
              · cases hx
            | map ks vs => cases hx
            | siter s p => cases hx
        · rename_i l n
          cases hl : H l with
          | none => simp [hl] at hx
          | some ob =>
            rw [hl] at hx
            rw [hV l ob hl]
            cases ob with
            | row T sz' xs =>
              simp only at hx ⊢
              split at hx
              · rename_i e
                rw [if_pos e]
                obtain ⟨z, q1, q2⟩ := Option.map_eq_some_iff.1 hx
                simp [i2 _ _ q1, q2]
              · cases hx
            | map ks vs => cases hx
            | siter s p => cases hx
        · exact hx
        · rename_i l sz' q n
          cases hl : H l with
          | none => simp [hl] at hx
          | some ob =>
            rw [hl] at hx
            rw [hV l ob hl]
            cases ob with
            | row T s2 xs =>
              simp only at hx ⊢
              split at hx
              · rename_i e
                rw [if_pos e]
                obtain ⟨z, q1, q2⟩ := Option.map_eq_some_iff.1 hx
                simp [i2 _ _ q1, q2]
              · cases hx
            | map ks vs => cases hx
            | siter s p => cases hx
        · rename_i f' a' b'
          cases ha : frzs H k a' with
          | none => simp [ha] at hx
          | some a2 =>
            cases hb : frzs H k b' with
            | none => simp [ha, hb] at hx
            | some b2 =>
              rw [ha, hb] at hx
              rw [i2 _ _ ha, i2 _ _ hb]
              exact hx
        · obtain ⟨z, q1, q2⟩ := Option.map_eq_some_iff.1 hx; simp [i1 _ _ q1, q2]
        · cases hx
    · intro xs ys hx
      unfold frzs at hx ⊢
      split at hx
      · rename_i hcx; rw [if_pos hcx]; exact hx
      · rename_i hcx
        rw [if_neg hcx]
        split at hx
        · exact hx
        · rename_i x xs'
          cases ha : frz H k x with
          | none => simp [ha] at hx
          | some a2 =>
            cases hb : frzs H k xs' with
            | none => simp [ha, hb] at hx
            | some b2 =>
              rw [ha, hb] at hx
              simp only [i1 _ _ ha, i2 _ _ hb]
              exact hx
theorem OpS1_okn {P : Program} {V : Nat → Option AO} {new : Nat} {ρ : Operand → AV} {c : Call} {f : FuncId} {ag ag' : List AV} {r : AV} (m : Nat) (h : OkN P f ag' r) (hc : callArgs ρ c = some (f, ag)) (hm : frzs V m ag = some ag') : OpS1 P (.call c) V ρ new r := by
  intro o ho C E H2 a hR hV hρ hn next Q hnext
  obtain ⟨vals, h1, h2⟩ := callArgs_run (P := P) ho hρ hc h.1
  unfold Oper.wp
  rw [h2, Oper.upon_enter]
  refine (h.2 (Zall E) E.w vals ⟨?_, hR.gw⟩ ((frz_sound hR m).2 _ _ _ ((frzs_mono hV m).2 _ _ hm) h1)).mono ?_
  · intro b hz
    rcases hz with hz | ⟨l, c, hz⟩
    · exact hR.zlt b hz
    · exact (hR.old l b c hz).2
  rintro e w' ⟨v, rfl, hb, hv⟩
  obtain ⟨k1, k2⟩ := after_ok hR hb
  refine hnext v _ ?_ k1 k2 fun l kl => .inl kl
  exact hv.stab (Ec.stab (E := { E with w := w', Z := fun b => E.Z b ∨ (E.w.heap.size ≤ b ∧ b < w'.heap.size) }) fun b hz => .inr hz)
end Go.Proofs.YtapdjibjnfeipaaGreatDoor.AL

/- slices.DeleteFunc, in place; what is left is handed back as plain data. -/
set_option linter.all false
namespace Go.Proofs.YtapdjibjnfeipaaGreatDoor.AL
open Go Go.Proofs Go.RowKit
theorem fk1t {C : Ctx} {E : Env} {H : Nat → Option AO} {l T sz : Nat} {ys : List AV} {u : Value} (hR : HR C E H) (hl : H l = some (.row T sz ys)) (hu : VRep E (.mtl l sz 0 ys.length) u) : VRep (E.kill l) (.sl sz ys) u := by
  have hs := Env.kill_stab E l
  simp only [VRep] at hu ⊢
  obtain ⟨A, c0, _, g0, q1, q2⟩ := hu
  obtain ⟨p, hp, ho'⟩ := hR.live hl
  by_cases hy : ys = []
  · subst hy
    exact ⟨[], A, c0, VReps.nil, g0, Nat.zero_le _, .inl rfl⟩
  have hyl : 0 < ys.length := List.length_pos_iff.2 hy
  obtain ⟨b0, rfl, hb⟩ := q2 hyl
  cases p with
  | none => simp only [ORep] at ho'; exact absurd ho' hy
  | some q =>
    obtain ⟨b, c⟩ := q
    obtain ⟨rfl, hc⟩ := hb b c hp
    simp only [ORep] at ho'
    obtain ⟨cur, vs, h1, h2, h3, h4, h5, h6, h7⟩ := ho'
    refine ⟨vs, _, c0, h2.stab hs, g0, q1, .inr ⟨b0, 0, by simp, .inr ⟨c, hp⟩, fun i u hu => ⟨(h3 u (List.mem_of_getElem? hu)).1, (h3 u (List.mem_of_getElem? hu)).2, fun j v hj => ?_⟩⟩⟩
    show E.w.cell? _ = _
    rw [cell_of_row E.w b0 _ cur T (0, 0) h1]
    have e := flatV_at (fun u hu => (h3 u hu).1) hu j v hj
    rw [← h7, List.getElem?_take] at e
    split at e
    · simpa using e
    · cases e
theorem ACall.left {P : Program} {f : FuncId} {args : List AV} {H : Nat → Option AO} {nx q T sz : Nat} {xs ys : List AV} (hc : closeds ys = true) (hq : q < nx) (hH : H q = some (.row T sz xs))
    (h : ACall P f args H nx fun r H' nx' => (∃ m, (r = .msl q m ∨ r = .mtl q sz 0 m) ∧ m = ys.length ∧ H' q = some (.row T sz ys)) ∧ ∀ j, j < nx → j ≠ q → H' j = H j) : ACall P f args H nx fun r H' nx' => r = .sl sz ys ∧ H' = upd H q none ∧ nx' = nx := by
  refine ⟨h.1, fun C E vals hR hb hv => (h.2 C E vals hR hb hv).mono ?_⟩
  rintro e w' ⟨v, r', H1, nx1, E1, rfl, ⟨⟨m, hr, rfl, hH1⟩, hH2⟩, hv1, hR1, hS, hn1, hn2, rfl⟩
  obtain ⟨q', hq', ho⟩ := hR1.live hH1
  obtain ⟨p, hp, _⟩ := hR.live hH
  have hk := hR.known q p hp
  obtain ⟨g1, g2, g3⟩ := low_one (l := q) (l0 := q) (T := T) (sz := sz) (xs := ys) (q := q') hR hb hR1 hS (.inl ⟨hq', hH1⟩) hc (.inr ⟨rfl, hk, hq'⟩) hH2
  have hrow : upd H q (some (AO.row T sz ys)) q = some (.row T sz ys) := upd_same _ _ _
  have e2 : upd (upd H q (some (AO.row T sz ys))) q none = upd H q none := by
    funext j; simp only [upd_at]; split <;> rfl
  have hk2 := g1.kill q
  rw [e2] at hk2
  refine ⟨v, .sl sz ys, upd H q none, nx, _, rfl, ⟨rfl, rfl, rfl⟩, ?_, hk2, g2.trans (Env.kill_stab _ _), Nat.le_refl _, ?_, rfl⟩
  · rcases hr with rfl | rfl
    · refine (fk1 g1 (VRep.lo g3 _ _ (by simpa only [inK] using hk) hv1) ?_).2.1
      rw [hrow]
      simp [fkK, hc]
    · exact fk1t g1 hrow (VRep.lo g3 _ _ (by simpa only [inK] using hk) hv1)
  · rintro j (hj | hj)
    · exact .inl hj
    · subst hj; exact .inl hk
end Go.Proofs.YtapdjibjnfeipaaGreatDoor.AL

/- slices.DeleteFunc at elements of one cell (the element's variable is no box). -/
set_option linter.all false
namespace Go.Proofs.YtapdjibjnfeipaaGreatDoor.AL
open Go Go.Proofs Go.RowKit
end Go.Proofs.YtapdjibjnfeipaaGreatDoor.AL

/- slices.DeleteFunc at elements of one cell, whose row stays the caller's own. -/
set_option linter.all false
namespace Go.Proofs.YtapdjibjnfeipaaGreatDoor.AL
open Go Go.Proofs Go.RowKit
theorem ACall.turn {P : Program} {f : FuncId} {args : List AV} {H : Nat → Option AO} {nx l T sz : Nat} {xs ys : List AV} {r : AV} (hcy : closeds ys = true) (hl : l < nx) (hH : H l = some (.row T sz xs)) (hr : ∀ K : Nat → Prop, K l → inK K r)
    (h : ACall P f args H nx fun r' H' nx' => r' = r ∧ H' l = some (.row T sz ys) ∧ ∀ j, j < nx → j ≠ l → H' j = H j) : ACall P f args H nx fun r' H' nx' => r' = r ∧ H' = upd H l (some (.row T sz ys)) ∧ nx' = nx := by
  refine ⟨h.1, fun C E vals hR hb hv => (h.2 C E vals hR hb hv).mono ?_⟩
  rintro e w' ⟨v, r', H1, nx1, E1, rfl, ⟨rfl, hH1, hH2⟩, hv1, hR1, hS, hn1, hn2, rfl⟩
  obtain ⟨q, hq, ho⟩ := hR1.live hH1
  obtain ⟨p, hp, _⟩ := hR.live hH
  have hk := hR.known l p hp
  obtain ⟨g1, g2, g3⟩ := low_one (l := l) (l0 := l) (T := T) (sz := sz) (xs := ys) (q := q) hR hb hR1 hS (.inl ⟨hq, hH1⟩) hcy (.inr ⟨rfl, hk, hq⟩) hH2
  refine ⟨v, r', _, nx, _, rfl, ⟨rfl, rfl, rfl⟩, VRep.lo g3 _ _ (hr _ hk) hv1, g1, g2, Nat.le_refl _, ?_, rfl⟩
  rintro j (hj | hj)
  · exact .inl hj
  · subst hj; exact .inl hk
end Go.Proofs.YtapdjibjnfeipaaGreatDoor.AL

