/- A law of the given program is proved: part 41 of 51. -/
import Derived.Test.YtapdjibjnfeipaaGreatDoorD40
set_option linter.all false
/- AL: what a call hands back lies in new memory alone. -/
set_option linter.all false
namespace Go.Proofs.YtapdjibjnfeipaaGreatDoor.AL
open Go Go.Proofs Go.RowKit
mutual
def frN (H : Nat → Option AO) : Nat → AV → Option AV
  | 0, _ => none
  | k + 1, x => match x with
    | .val v => some (.val v)
    | .agg cs => (frNs H k cs).map .agg
    | .tup cs => (frNs H k cs).map .tup
    | .sl s [] => some (.sl s [])
    | .e0 => some .e0
    | .msl l n => match H l with
      | some (.row _ s xs) => if n = xs.length then (frNs H k xs).map (.sl s) else none
      | _ => none
    | .mtl l sz q n => match H l with
      | some (.row _ s xs) => if sz = s ∧ q + n ≤ xs.length then (frNs H k ((xs.drop q).take n)).map (.sl s) else none
      | _ => none
    | _ => none
def frNs (H : Nat → Option AO) : Nat → List AV → Option (List AV)
  | 0, _ => none
  | k + 1, xs => match xs with
    | [] => some []
    | x :: xs => match frN H k x, frNs H k xs with
      | some y, some ys => some (y :: ys)
      | _, _ => none
end
theorem xp2 {C : Ctx} {E : Env} {H : Nat → Option AO} (hR : HR C E H) : ∀ k : Nat, (∀ (x y : AV) (u : Value), frN H k x = some y → VRep E x u → VRep (Ec (fun b => C.base ≤ b ∧ b < E.w.heap.size) E.w) y u) ∧ (∀ (xs ys : List AV) (us : List Value), frNs H k xs = some ys → VReps E xs us → VReps (Ec (fun b => C.base ≤ b ∧ b < E.w.heap.size) E.w) ys us) := by
  intro k
  induction k with
  | zero => exact ⟨fun x y u h => by simp [frN] at h, fun x y u h => by simp [frNs] at h⟩
  | succ k ih =>
    obtain ⟨ih1, ih2⟩ := ih
    constructor
    · intro x y u h hx
      unfold frN at h
      split at h
      · injection h with h; subst h
        simpa only [VRep] using hx
      · obtain ⟨z, h1, h2⟩ := Option.map_eq_some_iff.1 h
        subst h2
        simp only [VRep] at hx ⊢
        obtain ⟨us, h3, h4⟩ := hx
        exact ⟨us, ih2 _ _ _ h1 h3, h4⟩
      · obtain ⟨z, h1, h2⟩ := Option.map_eq_some_iff.1 h
        subst h2
        simp only [VRep] at hx ⊢
        obtain ⟨us, h3, h4⟩ := hx
        exact ⟨us, ih2 _ _ _ h1 h3, h4⟩
      · injection h with h; subst h
        simp only [VRep, VReps] at hx ⊢
        obtain ⟨us, A, cap, h1, h2, h3, h4⟩ := hx
        subst h1
        exact ⟨[], A, cap, rfl, h2, h3, .inl rfl⟩
      · injection h with h; subst h
        simpa only [VRep] using hx
      · rename_i l n
        split at h
        · rename_i T s xs hl
          split at h
          · rename_i e
            subst e
            obtain ⟨z, h1, h2⟩ := Option.map_eq_some_iff.1 h
            subst h2
            obtain ⟨p, hp, ho⟩ := hR.live hl
            simp only [VRep] at hx ⊢
            obtain ⟨A, c0, _, rfl, g1, g2, g3, g4⟩ := hx
            cases p with
            | none =>
              simp only [ORep] at ho
              subst ho
              have h7 := ih2 _ _ [] h1 VReps.nil
              have e2 := h7.length
              refine ⟨[], A, c0, h7, by rw [← e2]; rfl, by rw [← e2]; exact Nat.zero_le _, .inl rfl⟩
            | some q =>
              obtain ⟨b, c⟩ := q
              obtain ⟨rfl, rfl⟩ := g3 b c hp
              have ho' := ho
              simp only [ORep] at ho'
              obtain ⟨cur, us, q1, q2, q3, q4, q5, q6, q7⟩ := ho'
              have h7 := ih2 _ _ _ h1 q2
              have e1 := q2.length
              have e2 := h7.length
              refine ⟨us, _, c0, h7, by rw [← e2, e1], by omega, .inr ⟨b, 0, rfl, hR.old l b c0 hp, fun i u hi => ⟨(q3 u (List.mem_of_getElem? hi)).1, (q3 u (List.mem_of_getElem? hi)).2, ?_⟩⟩⟩
              intro j v hj
              show E.w.cell? _ = _
              rw [Nat.zero_add, cell_of_row E.w b _ cur T (0, 0) q1]
              have e := xjf (fun u hu => (q3 u hu).1) hi j v hj
              rw [← q7, List.getElem?_take] at e
              split at e
              · simpa using e
              · cases e
          · cases h
        · cases h
      · rename_i l sz q n
        split at h
        · rename_i T s xs hl
          split at h
          · rename_i e
            obtain ⟨e, hqn⟩ := e
            subst e
            obtain ⟨z, h1, h2⟩ := Option.map_eq_some_iff.1 h
            subst h2
            obtain ⟨p, hp, ho⟩ := hR.live hl
            simp only [VRep] at hx ⊢
            obtain ⟨A, c0, _, rfl, g1, g2⟩ := hx
            by_cases hn : n = 0
            · subst hn
              have h7 := ih2 _ _ [] h1 (by simp only [List.take_zero]; exact VReps.nil)
              have e2 := h7.length
              exact ⟨[], A, c0, h7, by rw [← e2]; rfl, by rw [← e2]; exact Nat.zero_le _, .inl rfl⟩
            obtain ⟨b0, rfl, g3⟩ := g2 (by omega)
            cases p with
            | none =>
              simp only [ORep] at ho
              subst ho
              simp at hqn
              omega
            | some r =>
              obtain ⟨b, c⟩ := r
              obtain ⟨rfl, rfl⟩ := g3 b c hp
              have ho' := ho
              simp only [ORep] at ho'
              obtain ⟨cur, us, q1, q2, q3, q4, q5, q6, q7⟩ := ho'
              have hl2 := q2.length
              have h7 := ih2 _ _ _ h1 ((q2.drop q).take n)
              have e2 := h7.length
              have hzl : z.length = n := by rw [← e2]; simp; omega
              refine ⟨(us.drop q).take n, _, c0, h7, by rw [hzl], by omega, .inr ⟨b0, q * sz, rfl, hR.old l b0 _ hp, fun i u hi => ?_⟩⟩
              have hi' : us[q + i]? = some u := by
                rw [List.getElem?_take] at hi
                split at hi
                · simpa using hi
                · cases hi
              refine ⟨(q3 u (List.mem_of_getElem? hi')).1, (q3 u (List.mem_of_getElem? hi')).2, ?_⟩
              intro j v hj
              show E.w.cell? _ = _
              rw [cell_of_row E.w b0 _ cur T (0, 0) q1]
              have e := xjf (fun u hu => (q3 u hu).1) hi' j v hj
              rw [← q7, List.getElem?_take] at e
              rw [Nat.add_mul] at e
              split at e
              · simpa [Nat.add_assoc] using e
              · cases e
          · cases h
        · cases h
      · cases h
    · intro xs ys us h hx
      unfold frNs at h
      split at h
      · injection h with h; subst h
        simpa only [VReps] using hx
      · split at h
        · rename_i y' ys' hy hys
          injection h with h; subst h
          simp only [VReps] at hx ⊢
          obtain ⟨u, us', h1, h2, h3⟩ := hx
          exact ⟨u, us', ih1 _ _ _ hy h1, ih2 _ _ _ hys h2, h3⟩
        · cases h
theorem xhx {P : Program} {f : FuncId} {args : List AV} {r : AV} (m : Nat) (h : ACall P f args (fun _ => none) 0 fun r' H' _ => ∃ y, frN H' m r' = some y ∧ Sub y r) : OkN P f args r := by
  refine ⟨h.1, fun Z w vals hZ hv => ?_⟩
  let C : Ctx := { base := w.heap.size, w0 := w, zone := Z, gw := hZ.gw, gb := hZ.gw.size }
  have hR : HR C (Ec Z w) (fun _ => none) :=
    ⟨Below.refl _ _, Nat.le_refl _, hZ.zlt, fun _ _ _ _ e => by simp [Ec] at e, fun b hz => .inl hz, fun _ => rfl, fun _ _ e => by simp [Ec] at e, fun _ _ _ _ _ e => by simp [Ec] at e, fun _ _ _ e => by simp at e, fun _ _ _ e => by simp [Ec] at e⟩
  refine (h.2 C (Ec Z w) vals hR (fun l k => k.elim) hv).mono ?_
  rintro e w' ⟨v, r', H', nx', E', rfl, ⟨y, hm, hsub⟩, hv', hR', hs, _, _, rfl⟩
  exact ⟨v, rfl, hR'.below, hsub _ _ ((xp2 hR' m).1 _ _ _ hm hv')⟩
theorem xn3 {H H2 : Nat → Option AO} (hV : SubH H H2) : ∀ k : Nat, (∀ (x y : AV), frz H k x = some y → frz H2 k x = some y) ∧ (∀ (xs ys : List AV), frzs H k xs = some ys → frzs H2 k xs = some ys) := by
  intro k
  induction k with
  | zero => exact ⟨fun x y h => h, fun x y h => h⟩
  | succ k ih =>
    obtain ⟨i1, i2⟩ := ih
    constructor
    · intro x y hx
      unfold frz at hx ⊢
      split at hx
      · rename_i hcx; rw [if_pos hcx]; exact hx
      · rename_i hcx
        rw [if_neg hcx]
        split at hx
        · obtain ⟨z, q1, q2⟩ := Option.map_eq_some_iff.1 hx; simp [i2 _ _ q1, q2]
        · obtain ⟨z, q1, q2⟩ := Option.map_eq_some_iff.1 hx; simp [i2 _ _ q1, q2]
        · obtain ⟨z, q1, q2⟩ := Option.map_eq_some_iff.1 hx; simp [i2 _ _ q1, q2]
        · obtain ⟨z, q1, q2⟩ := Option.map_eq_some_iff.1 hx; simp [i1 _ _ q1, q2]
        · rename_i l sz i off
          cases hl : H l with
          | none => simp [hl] at hx
          | some ob =>
            rw [hl] at hx
            rw [hV l ob hl]
            cases ob with
            | row T sz' xs =>
              simp only at hx ⊢
              split at hx
              · rename_i e
                rw [if_pos e]
                cases hi : xs[i]? with
                | none => simp [hi] at hx
                | some y' =>
                  rw [hi] at hx
                  obtain ⟨z, q1, q2⟩ := Option.map_eq_some_iff.1 hx
                  simp [i1 _ _ q1, q2]
              · cases hx
            | map ks vs => cases hx
            | siter s p => cases hx
        · rename_i l n
          cases hl : H l with
          | none => simp [hl] at hx
          | some ob =>
            rw [hl] at hx
            rw [hV l ob hl]
            cases ob with
            | row T sz' xs =>
              simp only at hx ⊢
              split at hx
              · rename_i e
                rw [if_pos e]
                obtain ⟨z, q1, q2⟩ := Option.map_eq_some_iff.1 hx
                simp [i2 _ _ q1, q2]
              · cases hx
            | map ks vs => cases hx
            | siter s p => cases hx
        · exact hx
        · rename_i l sz' q n
          cases hl : H l with
          | none => simp [hl] at hx
          | some ob =>
            rw [hl] at hx
            rw [hV l ob hl]
            cases ob with
            | row T s2 xs =>
              simp only at hx ⊢
              split at hx
              · rename_i e
                rw [if_pos e]
                obtain ⟨z, q1, q2⟩ := Option.map_eq_some_iff.1 hx
                simp [i2 _ _ q1, q2]
              · cases hx
            | map ks vs => cases hx
            | siter s p => cases hx
        · rename_i f' a' b'
          cases ha : frzs H k a' with
          | none => simp [ha] at hx
          | some a2 =>
            cases hb : frzs H k b' with
            | none => simp [ha, hb] at hx
            | some b2 =>
              rw [ha, hb] at hx
              rw [i2 _ _ ha, i2 _ _ hb]
              exact hx
        · obtain ⟨z, q1, q2⟩ := Option.map_eq_some_iff.1 hx; simp [i1 _ _ q1, q2]
        · cases hx
    · intro xs ys hx
      unfold frzs at hx ⊢
      split at hx
      · rename_i hcx; rw [if_pos hcx]; exact hx
      · rename_i hcx
        rw [if_neg hcx]
        split at hx
        · exact hx
        · rename_i x xs'
          cases ha : frz H k x with
          | none => simp [ha] at hx
          | some a2 =>
            cases hb : frzs H k xs' with
            | none => simp [ha, hb] at hx
            | some b2 =>
              rw [ha, hb] at hx
              simp only [i1 _ _ ha, i2 _ _ hb]
              exact hx
theorem xv5 {P : Program} {V : Nat → Option AO} {new : Nat} {ρ : Operand → AV} {c : Call} {f : FuncId} {ag ag' : List AV} {r : AV} (m : Nat) (h : OkN P f ag' r) (hc : xjb ρ c = some (f, ag)) (hm : frzs V m ag = some ag') : OpS1 P (.call c) V ρ new r := by
  intro o ho C E H2 a hR hV hρ hn next Q hnext
  obtain ⟨vals, h1, h2⟩ := x8d (P := P) ho hρ hc h.1
  unfold Oper.wp
  rw [h2, Oper.upon_enter]
  refine (h.2 (Zall E) E.w vals ⟨?_, hR.gw⟩ ((x3k hR m).2 _ _ _ ((xn3 hV m).2 _ _ hm) h1)).mono ?_
  · intro b hz
    rcases hz with hz | ⟨l, c, hz⟩
    · exact hR.zlt b hz
    · exact (hR.old l b c hz).2
  rintro e w' ⟨v, rfl, hb, hv⟩
  obtain ⟨k1, k2⟩ := x2h hR hb
  refine hnext v _ ?_ k1 k2 fun l kl => .inl kl
  exact hv.stab (Ec.stab (E := { E with w := w', Z := fun b => E.Z b ∨ (E.w.heap.size ≤ b ∧ b < w'.heap.size) }) fun b hz => .inr hz)
end Go.Proofs.YtapdjibjnfeipaaGreatDoor.AL

/- slices.DeleteFunc, in place; what is left is handed back as plain data. -/
set_option linter.all false
namespace Go.Proofs.YtapdjibjnfeipaaGreatDoor.AL
open Go Go.Proofs Go.RowKit
def delM {α : Type} (p : α → Option Bool) : List α → Option (List α)
  | [] => some []
  | x :: xs => (p x).bind fun b => (delM p xs).bind fun r => some (if b = true then r else x :: r)
def x3e {α : Type} (p : α → Option Bool) (l : List α) : Option (List α) := (ck (l.length < 4611686018427387904)).bind fun _ => delM p l
theorem xkt {α : Type} {p : α → Option Bool} : ∀ {l r : List α}, delM p l = some r → (∀ x ∈ l, p x = some ((p x).getD false)) ∧ r = l.filter fun x => !((p x).getD false)
  | [], r, h => by
    simp only [delM, Option.some.injEq] at h
    subst h
    simp
  | x :: xs, r, h => by
    unfold delM at h
    obtain ⟨b, h1, h⟩ := bsE h
    obtain ⟨r', h2, h⟩ := bsE h
    obtain rfl := Option.some.inj h
    obtain ⟨g1, g2⟩ := xkt h2
    refine ⟨fun y hy => ?_, ?_⟩
    · rcases List.mem_cons.1 hy with rfl | hy
      · rw [h1]; rfl
      · exact g1 y hy
    · rw [List.filter_cons, h1, g2]
      cases b <;> simp
theorem xyz {P : Program} (x : Operand) (T : TypeId) (V : Nat → Option AO) (new : Nat) (ρ : Operand → AV) : evalOp P (.call (Call.mk (.builtin .clear) #[x] #[T])) V new ρ = xnd P T V (ρ x) := by
  simp [evalOp]
theorem xhy {P : Program} (T : TypeId) (x a : Operand) (V : Nat → Option AO) (new : Nat) (ρ : Operand → AV) : evalOp P (.slice T x (some a) none none) V new ρ = (x3b P T (ρ x) (some (ρ a)) none none).map fun v => (v, []) := _root_.id rfl
theorem xvy {P : Program} (T : TypeId) (x a : Operand) (V : Nat → Option AO) (new : Nat) (ρ : Operand → AV) : evalOp P (.slice T x none (some a) none) V new ρ = (x3b P T (ρ x) none (some (ρ a)) none).map fun v => (v, []) := _root_.id rfl
theorem fk1t {C : Ctx} {E : Env} {H : Nat → Option AO} {l T sz : Nat} {ys : List AV} {u : Value} (hR : HR C E H) (hl : H l = some (.row T sz ys)) (hu : VRep E (.mtl l sz 0 ys.length) u) : VRep (E.kill l) (.sl sz ys) u := by
  have hs := Env.kill_stab E l
  simp only [VRep] at hu ⊢
  obtain ⟨A, c0, _, g0, q1, q2⟩ := hu
  obtain ⟨p, hp, ho'⟩ := hR.live hl
  by_cases hy : ys = []
  · subst hy
    exact ⟨[], A, c0, VReps.nil, g0, Nat.zero_le _, .inl rfl⟩
  have hyl : 0 < ys.length := List.length_pos_iff.2 hy
  obtain ⟨b0, rfl, hb⟩ := q2 hyl
  cases p with
  | none => simp only [ORep] at ho'; exact absurd ho' hy
  | some q =>
    obtain ⟨b, c⟩ := q
    obtain ⟨rfl, hc⟩ := hb b c hp
    simp only [ORep] at ho'
    obtain ⟨cur, vs, h1, h2, h3, h4, h5, h6, h7⟩ := ho'
    refine ⟨vs, _, c0, h2.stab hs, g0, q1, .inr ⟨b0, 0, by simp, .inr ⟨c, hp⟩, fun i u hu => ⟨(h3 u (List.mem_of_getElem? hu)).1, (h3 u (List.mem_of_getElem? hu)).2, fun j v hj => ?_⟩⟩⟩
    show E.w.cell? _ = _
    rw [cell_of_row E.w b0 _ cur T (0, 0) h1]
    have e := xjf (fun u hu => (h3 u hu).1) hu j v hj
    rw [← h7, List.getElem?_take] at e
    split at e
    · simpa using e
    · cases e
theorem ACall.left {P : Program} {f : FuncId} {args : List AV} {H : Nat → Option AO} {nx q T sz : Nat} {xs ys : List AV} (hc : closeds ys = true) (hq : q < nx) (hH : H q = some (.row T sz xs))
    (h : ACall P f args H nx fun r H' nx' => (∃ m, (r = .msl q m ∨ r = .mtl q sz 0 m) ∧ m = ys.length ∧ H' q = some (.row T sz ys)) ∧ ∀ j, j < nx → j ≠ q → H' j = H j) : ACall P f args H nx fun r H' nx' => r = .sl sz ys ∧ H' = upd H q none ∧ nx' = nx := by
  refine ⟨h.1, fun C E vals hR hb hv => (h.2 C E vals hR hb hv).mono ?_⟩
  rintro e w' ⟨v, r', H1, nx1, E1, rfl, ⟨⟨m, hr, rfl, hH1⟩, hH2⟩, hv1, hR1, hS, hn1, hn2, rfl⟩
  obtain ⟨q', hq', ho⟩ := hR1.live hH1
  obtain ⟨p, hp, _⟩ := hR.live hH
  have hk := hR.known q p hp
  obtain ⟨g1, g2, g3⟩ := xao (l := q) (l0 := q) (T := T) (sz := sz) (xs := ys) (q := q') hR hb hR1 hS (.inl ⟨hq', hH1⟩) hc (.inr ⟨rfl, hk, hq'⟩) hH2
  have hrow : upd H q (some (AO.row T sz ys)) q = some (.row T sz ys) := upd_same _ _ _
  have e2 : upd (upd H q (some (AO.row T sz ys))) q none = upd H q none := by
    funext j; simp only [upd_at]; split <;> rfl
  have hk2 := g1.kill q
  rw [e2] at hk2
  refine ⟨v, .sl sz ys, upd H q none, nx, _, rfl, ⟨rfl, rfl, rfl⟩, ?_, hk2, g2.trans (Env.kill_stab _ _), Nat.le_refl _, ?_, rfl⟩
  · rcases hr with rfl | rfl
    · refine (fk1 g1 (VRep.lo g3 _ _ (by simpa only [inK] using hk) hv1) ?_).2.1
      rw [hrow]
      simp [fkK, hc]
    · exact fk1t g1 hrow (VRep.lo g3 _ _ (by simpa only [inK] using hk) hv1)
  · rintro j (hj | hj)
    · exact .inl hj
    · subst hj; exact .inl hk
end Go.Proofs.YtapdjibjnfeipaaGreatDoor.AL

/- slices.DeleteFunc at elements of one cell (the element's variable is no box). -/
set_option linter.all false
namespace Go.Proofs.YtapdjibjnfeipaaGreatDoor.AL
open Go Go.Proofs Go.RowKit
def delAC1 (g : FuncId) (S F E : TypeId) : AC := (.seq (.region [⟨.assign (.const (Value.slice none 0 0)), some 4, none⟩])
 (.seq (.region [⟨.move (.tmp 0), some 8, none⟩,
  ⟨.move (.tmp 1), some 9, none⟩,
  ⟨.call (Go.Call.mk (.value (.func g)) #[.tmp 8, .tmp 9] #[S, F]), some 10, none⟩,
  ⟨.assign (.tmp 10), some 5, none⟩])
 (.seq (.seq (.region [⟨.move (.tmp 5), some 11, none⟩,
  ⟨.binOp .eql 3 (.tmp 11) (.const (Value.int .i64 (-1))) 3, some 12, none⟩])
 (.cond (.tmp 12) (.seq (.region [⟨.move (.tmp 0), some 13, none⟩,
  ⟨.assign (.tmp 13), some 4, none⟩])
 .ret)
 .skip))
 (.seq (.seq (.region [⟨.move (.tmp 5), some 14, none⟩,
  ⟨.binOp .add 3 (.tmp 14) (.const (Value.int .i64 1)) 3, some 15, none⟩,
  ⟨.assign (.tmp 15), some 6, none⟩])
 (.block 0 (.loop (.seq (.seq (.region [⟨.move (.tmp 6), some 16, none⟩,
  ⟨.move (.tmp 0), some 17, none⟩,
  ⟨.call (Go.Call.mk (.builtin .len) #[.tmp 17] #[S]), some 18, none⟩,
  ⟨.binOp .lss 3 (.tmp 16) (.tmp 18) 3, some 19, none⟩])
 (.cond (.tmp 19) .skip
 (.exit 0)))
 (.seq (.block 1 (.seq (.region [⟨.move (.tmp 0), some 22, none⟩,
  ⟨.move (.tmp 6), some 23, none⟩,
  ⟨.indexAddr S (.tmp 22) (.tmp 23), some 24, none⟩,
  ⟨.load E (.tmp 24), some 25, none⟩,
  ⟨.assign (.tmp 25), some 7, none⟩])
 (.seq (.region [⟨.move (.tmp 1), some 26, none⟩,
  ⟨.move (.tmp 7), some 27, none⟩,
  ⟨.call (Go.Call.mk (.value (.tmp 26)) #[.tmp 27] #[E]), some 28, none⟩,
  ⟨.unOp .not 4 (.tmp 28), some 29, none⟩])
 (.cond (.tmp 29) (.seq (.region [⟨.move (.tmp 0), some 30, none⟩,
  ⟨.move (.tmp 5), some 31, none⟩,
  ⟨.move (.tmp 7), some 32, none⟩,
  ⟨.indexAddr S (.tmp 30) (.tmp 31), some 33, none⟩,
  ⟨.store E (.tmp 33) (.tmp 32), none, none⟩])
 (.region [⟨.move (.tmp 5), some 34, none⟩,
  ⟨.binOp .add 3 (.tmp 34) (.const (Value.int .i64 1)) 3, some 35, none⟩,
  ⟨.assign (.tmp 35), some 5, none⟩]))
 .skip))))
 (.region [⟨.move (.tmp 6), some 20, none⟩,
  ⟨.binOp .add 3 (.tmp 20) (.const (Value.int .i64 1)) 3, some 21, none⟩,
  ⟨.assign (.tmp 21), some 6, none⟩]))))))
 (.seq (.region [⟨.move (.tmp 0), some 36, none⟩,
  ⟨.move (.tmp 5), some 37, none⟩,
  ⟨.slice S (.tmp 36) (some (.tmp 37)) none none, some 38, none⟩,
  ⟨.call (Go.Call.mk (.builtin .clear) #[.tmp 38] #[S]), none, none⟩])
 (.seq (.region [⟨.move (.tmp 0), some 39, none⟩,
  ⟨.move (.tmp 5), some 40, none⟩,
  ⟨.slice S (.tmp 39) none (some (.tmp 40)) none, some 41, none⟩,
  ⟨.assign (.tmp 41), some 4, none⟩])
 .ret))))))
set_option maxHeartbeats 1000000 in
theorem x66 {α : Type} {P : Program} {g f : FuncId} {S F E n : Nat} {b : Bool} {z0 : AV} (hi : FnC P g 19 [.tmp 4] (idxAC S E)) (hS : xp P S = some E) (hE : aggN P E = some (b, n)) (hz : zeroOf P E = some z0) (hzs : xd z0 n = true)
    (enc : α → AV) (l : List α) (p : α → Bool) (hlen : l.length < 4611686018427387904) {ca ca' : List AV} (hp : ∀ x ∈ l, Ok P f (enc x :: ca') (bool (p x))) (hx : ∀ x, closed (enc x) = true) (hcc : closeds ca' = true)
    (hld : ∀ x, evalLd P E (enc x) 0 = some (enc x)) (hst : ∀ x y, stAV (enc x) 0 (enc y) = some (enc y)) (hst0 : ∀ y, stAV z0 0 (enc y) = some (enc y)) (hsz : ∀ x, xd (enc x) n = true)
    (H : Nat → Option AO) (nx q : Nat) (hq : q < nx) (hH : H q = some (.row E n (l.map enc))) (hcap : ∀ H' : Nat → Option AO, (∀ j, j < nx → j ≠ q → H' j = H j) → frzs H' 9 ca = some ca') :
    cw P 42 (delAC1 g S F E) (finQ P [.tmp 4] fun r H' nx' => (∃ m, (r = .msl q m ∨ r = .mtl q n 0 m) ∧ m = (l.filter fun x => !p x).length ∧ H' q = some (.row E n ((l.filter fun x => !p x).map enc))) ∧ ∀ j, j < nx → j ≠ q → H' j = H j) ⟨argT [.msl q l.length, .fn (.func f) [] ca], H, nx⟩ := by
  have i1 : ∀ (l len : Nat) (k : IntKind) (n' : Int), xx P S (.msl l len) (.val (.int k n')) = if 0 ≤ n' ∧ n' < len then some (.loc l n n'.toNat 0) else none := fun l len k n' => xke _ hS hE l len k n'
  have s1 : ∀ (V : Nat → Option AO) (l sz i off : Nat) (v : AV), xmb P E V (.loc l sz i off) v = if xd v n = true then (rowT (V l) sz i).bind fun p => (stAV p.2.2 off v).map fun x' => [(l, some (.row p.1 sz (p.2.1.set i x')))] else none := fun V l sz i off v => xbc _ hE V l sz i off v
  have l1 : ∀ (l m : Nat), xlb P S (.msl l m) = some (int m) := fun l m => x7l _ hS l m
  have a1 : ∀ (V : Nat → Option AO) (new : Nat) (ρ : Operand → AV), evalOp P (.alloc E) V new ρ = some (.loc new n 0 0, [(new, some (.row E n [z0]))]) := fun V new ρ => by
    rw [xrg, hE, hz]
    simp [allocK, hzs]
  have hxl := xu enc hx l
  have hfz : ∀ (H' : Nat → Option AO) (x : α), (∀ j, j < nx → j ≠ q → H' j = H j) → frzs H' 10 (enc x :: ca) = some (enc x :: ca') := fun H' x h => by
    rw [xrk, fz_clo H' 9 _ (hx x), hcap H' h]; rfl
  have hany : l.any p = false → (l.filter fun x => !p x) = l := fun h => by
    rw [List.filter_eq_self]
    intro x hx'
    have := List.any_eq_false.1 h x hx'
    simpa using this
  unfold delAC1
  simp only [EV, ↓EVd, isCall, sevalprocAttr]
  refine S1_okb 12 (xsq hi hS hE (fi := []) (ca := ca') enc l p (by omega) (fun x hx' => hp x hx') (fun x hx' => by simp [closeds, hx x, hcc]) (fun x _ => hld x)) rfl ?_ rfl ?_
  · show frzs H 12 [.msl q l.length, .fn (.func f) [] ca] = some [.sl n (l.map enc), .fn (.func f) [] ca']
    rw [xrk, xrk, fz_msl, hH, xhv, if_pos (by simp), xro _ _ _ hxl, fz_fn, hcap H (fun _ _ _ => rfl), xro _ _ [] rfl]
    rfl
  cases ha : l.any p with
  | false =>
    have e1 : idxF p l = -1 := by unfold idxF; rw [ha]; rfl
    rw [e1]
    simp only [EV, ↓EVd, isCall, sevalprocAttr]
    refine ⟨⟨l.length, rfl, by rw [hany ha], by rw [hany ha]; exact hH⟩, fun _ _ _ => trivial⟩
  | true =>
    obtain ⟨a, hal, ha1, ha2⟩ : ∃ a, a < l.length ∧ idxF p l = (a : Int) ∧ (l.take (a + 1)).filter (fun x => !p x) = l.take a := by
      have hlt : l.findIdx p < l.length := List.findIdx_lt_length.2 (List.any_eq_true.1 ha)
      refine ⟨l.findIdx p, hlt, by unfold idxF; rw [ha]; rfl, ?_⟩
      rw [List.take_succ_eq_append_getElem hlt, List.filter_append]
      have h1 : p l[l.findIdx p] = true := List.findIdx_getElem
      rw [List.filter_cons, h1]
      simp only [Bool.not_true, Bool.false_eq_true, if_false, List.filter_nil, List.append_nil]
      rw [List.filter_eq_self]
      intro x hx'
      obtain ⟨k, hk, rfl⟩ := List.getElem_of_mem hx'
      have hk' : k < l.findIdx p := by simp at hk; omega
      have := List.not_of_lt_findIdx hk'
      simpa using this
    rw [ha1]
    have w0 : IntKind.i64.wrap ((a : Int) + 1) = ((a + 1 : Nat) : Int) := Go.IntWalk.i64_in _ (by omega)
    have e0 : ((a : Int) = -1) = False := eq_false (by omega)
    simp only [e0, w0, EV, ↓EVd, isCall, sevalprocAttr]
    obtain ⟨J, hJ⟩ : ∃ J : AS → Prop, J = fun s => s.T 0 = .msl q l.length ∧ (∃ (i : Nat) (z : List α), s.T 5 = int i ∧ i ≤ l.length ∧ z.length = l.length ∧ s.H q = some (.row E n (z.map enc)) ∧ z.take i = l.filter fun x => !p x) ∧ nx ≤ s.nx ∧ ∀ j, j < nx → j ≠ q → s.H j = H j := ⟨_, rfl⟩
    refine xsu 0 J ?_ ?_
    rotate_left
    · rintro ⟨T, H', nx'⟩ hs
      rw [hJ] at hs
      obtain ⟨k0, ⟨i, z, k5, k6, k7, k8, k9⟩, k10, k11⟩ := hs
      simp only at k0 k5 k8 k10 k11
      have hzt : (z.take i).length = i := by simp; omega
      have b1 : x3b P S (.msl q l.length) (some (int i)) none none = some (.mtl q n i (l.length - i)) := by
        have : (i : Int) ≤ (l.length : Int) := by omega
        simp [x3b, hS, hE, bounds, x0f, this]
      have b2 : x3b P S (.msl q l.length) none (some (int i)) none = some (.msl q i) := by
        have : (i : Int) ≤ (l.length : Int) := by omega
        simp [x3b, hS, hE, bounds, x0f, this]
      have b3 : ∃ us, xnd P S H' (.mtl q n i (l.length - i)) = some (.tup [], us) ∧ applyU H' us q = some (.row E n ((z.take i).map enc)) ∧ ∀ j, j ≠ q → applyU H' us j = H' j := by
        by_cases hn0 : l.length - i = 0
        · refine ⟨[], by simp [xnd, hS, hE, hz, hzs, hn0], ?_, fun _ _ => rfl⟩
          rw [show z.take i = z by rw [List.take_of_length_le (by omega)]]
          exact k8
        · refine ⟨[(q, some (.row E n ((z.map enc).take i)))], by simp [xnd, hS, hE, hz, hzs, hn0, k8]; omega, ?_, fun j hj => by simp [applyU, upd_at, hj]⟩
          simp [applyU, List.map_take]
      obtain ⟨us, c1, c2, c3⟩ := b3
      simp only [k0, k5, b1, b2, c1, xyz, ↓xhy, ↓xvy, opt, EV, ↓EVd, isCall, sevalprocAttr]
      refine ⟨⟨i, rfl, by rw [← k9, hzt], by rw [← k9]; exact c2⟩, fun j h1 h2 => by rw [c3 j h2]; exact k11 j h1 h2⟩
    refine xfp (fun s => s.T 0 = .msl q l.length ∧ s.T 1 = .fn (.func f) [] ca ∧ (∃ (i j : Nat) (z : List α), s.T 5 = int i ∧ s.T 6 = int j ∧ i < j ∧ j ≤ l.length ∧ z.length = l.length ∧ s.H q = some (.row E n (z.map enc)) ∧ z.take i = (l.take j).filter (fun x => !p x) ∧ ∀ k, j ≤ k → z[k]? = l[k]?) ∧ nx ≤ s.nx ∧ ∀ j, j < nx → j ≠ q → s.H j = H j) (fun s => ((l.length : Int) - iv (s.T 6)).toNat) ?_ ?_
    · simp only [EV, ↓EVd, isCall, sevalprocAttr]
      exact ⟨⟨a, a + 1, l, by simp, by simp, by omega, by omega, rfl, hH, ha2.symm, fun _ _ => rfl⟩, by omega, fun _ _ _ => trivial⟩
    · rintro ⟨T, H', nx'⟩ ⟨k0, k1, ⟨i, j, z, k2, k3, k4, k5, k6, k7, k8, k9⟩, k10, k11⟩
      simp only at k0 k1 k2 k3 k7 k10 k11
      apply cw_cwp
      have kq := lq (show q < nx' by omega)
      dsimp only [Lq] at kq
      by_cases hc : (j : Int) < (l.length : Int)
      · have e1 : ((j : Int) < (l.length : Int)) = True := eq_true hc
        have e2 : ((0 : Int) ≤ (j : Int)) = True := eq_true (by omega)
        have e3 : ((0 : Int) ≤ (i : Int)) = True := eq_true (by omega)
        have e4 : ((i : Int) < (l.length : Int)) = True := eq_true (by omega)
        have hj0 : ((j : Int)).toNat = j := by omega
        have hi0 : ((i : Int)).toNat = i := by omega
        have hjl : j < l.length := by omega
        have hil : i < z.length := by omega
        have z1 : (z.map enc)[j]? = some (enc l[j]) := by rw [List.getElem?_map, k9 j (Nat.le_refl _), List.getElem?_eq_getElem hjl]; rfl
        have z2 : (z.map enc)[i]? = some (enc z[i]) := by simp [hil]
        have d1 := hld l[j]
        have d2 := hst0 l[j]
        have d3 := hst z[i] l[j]
        have d5 := hsz l[j]
        have w1 : IntKind.i64.wrap ((i : Int) + 1) = ((i + 1 : Nat) : Int) := Go.IntWalk.i64_in _ (by omega)
        have w2 : IntKind.i64.wrap ((j : Int) + 1) = ((j + 1 : Nat) : Int) := Go.IntWalk.i64_in _ (by omega)
        have hm : l[j] ∈ l := List.getElem_mem hjl
        have htk : l.take (j + 1) = l.take j ++ [l[j]] := List.take_succ_eq_append_getElem hjl
        have hone : n = 0 ∨ 0 < n := Nat.eq_zero_or_pos n
        simp only [i1, s1, l1, a1, kq, k0, k1, k2, k3, k7, e1, e2, hj0, z1, d1, d2, d5, EV, ↓EVd, isCall, sevalprocAttr]
        refine S1_okb 10 (hp _ hm) rfl (hfz _ _ ?_) rfl ?_
        · intro j' h1 h2
          exact k11 j' h1 h2
        cases hb : p l[j] with
        | true =>
          simp only [i1, s1, l1, a1, kq, k0, k1, k2, k3, k7, e1, e2, e3, e4, hj0, hi0, z1, z2, d1, d2, d3, d5, w1, w2, EV, ↓EVd, isCall, sevalprocAttr]
          refine ⟨⟨⟨i, j + 1, z, by simp, by simp, by omega, by omega, k6, ?_, ?_, fun k hk => k9 k (by omega)⟩, by omega, ?_⟩, by omega⟩
          · first | exact k7 | rfl | trivial
          · rw [k8, htk, List.filter_append, List.filter_cons, hb]; simp
          · intro j' h1 h2
            repeat rw [if_neg (by omega)]
            exact k11 j' h1 h2
        | false =>
          simp only [i1, s1, l1, a1, kq, k0, k1, k2, k3, k7, e1, e2, e3, e4, hj0, hi0, z1, z2, d1, d2, d3, d5, w1, w2, EV, ↓EVd, isCall, sevalprocAttr]
          refine ⟨⟨⟨i + 1, j + 1, z.set i l[j], by simp, by simp, by omega, by omega, by simpa using k6, ?_, ?_, ?_⟩, by omega, ?_⟩, by omega⟩
          · first | rfl | trivial
          · rw [htk, List.filter_append, List.filter_cons, hb, ← k8]
            simp only [Bool.not_false, if_true, List.filter_nil]
            rw [List.take_succ_eq_append_getElem (by simpa using hil)]
            simp [List.take_set_of_le]
          · intro k hk
            rw [List.getElem?_set_ne (by omega)]
            exact k9 k (by omega)
          · intro j' h1 h2
            repeat rw [if_neg (by omega)]
            exact k11 j' h1 h2
      · have e1 : ((j : Int) < (l.length : Int)) = False := eq_false hc
        obtain rfl : j = l.length := by omega
        rw [List.take_length] at k8
        simp only [l1, k0, k1, k2, k3, e1, EV, ↓EVd, isCall, sevalprocAttr]
        rw [hJ]
        exact TI.here ⟨by simp only [k0, EV, ↓EVd, sevalprocAttr], ⟨i, z, by simp only [k2, EV, ↓EVd, sevalprocAttr], by omega, k6, k7, k8⟩, by show nx ≤ nx' + 4; omega, k11⟩
theorem qdel1 {α : Type} {P : Program} {g g' f : FuncId} {S F E n : Nat} {b : Bool} {z0 : AV} (hf : FnC P g' 42 [.tmp 4] (delAC1 g S F E)) (hi : FnC P g 19 [.tmp 4] (idxAC S E)) (hS : xp P S = some E) (hE : aggN P E = some (b, n)) (hz : zeroOf P E = some z0) (hzs : xd z0 n = true)
    (enc : α → AV) (l : List α) (p : α → Option Bool) (r : List α) (hr : x3e p l = some r) {ca ca' : List AV} (hp : ∀ x b, p x = some b → Ok P f (enc x :: ca') (bool b)) (hx : ∀ x, closed (enc x) = true) (hcc : closeds ca' = true)
    (hld : ∀ x, evalLd P E (enc x) 0 = some (enc x)) (hst : ∀ x y, stAV (enc x) 0 (enc y) = some (enc y)) (hst0 : ∀ y, stAV z0 0 (enc y) = some (enc y)) (hsz : ∀ x, xd (enc x) n = true)
    {H : Nat → Option AO} {nx q new : Nat} {ρ : Operand → AV} {k : AV → (Nat → Option AO) → Nat → Prop} {c : Call} (hc : xjb ρ c = some (g', [.msl q l.length, .fn (.func f) [] ca])) (hq : q < nx) (hH : H q = some (.row E n (l.map enc))) (hcap : ∀ H' : Nat → Option AO, (∀ j, j < nx → j ≠ q → H' j = H j) → frzs H' 9 ca = some ca')
    (hk : k (.sl n (r.map enc)) (upd H q none) nx) : Sem1 P (.call c) H nx new ρ k := by
  obtain ⟨hlen, hr⟩ := ckE hr
  obtain ⟨h1, rfl⟩ := xkt hr
  have hA : ACall P g' [.msl q l.length, .fn (.func f) [] ca] H nx fun r H' nx' => r = .sl n ((l.filter fun x => !((p x).getD false)).map enc) ∧ H' = upd H q none ∧ nx' = nx := by
    refine ACall.left (xu enc hx _) hq hH ((acallF hf (by simp) (x66 hi hS hE hz hzs enc l (fun x => (p x).getD false) hlen (fun x hx' => hp x _ (h1 x hx')) hx hcc hld hst hst0 hsz H nx q hq hH hcap)).mono ?_)
    rintro r H' nx' ⟨⟨m, g1, g2, g3⟩, g4⟩
    exact ⟨r, Sub.refl _, ⟨m, g1, by simpa using g2, g3⟩, g4⟩
  refine x5d (hA.mono fun r H' nx' ⟨e1, e2, e3⟩ => ⟨r, Sub.refl _, ?_⟩) hc
  subst e1; subst e2; subst e3
  exact hk
end Go.Proofs.YtapdjibjnfeipaaGreatDoor.AL

/- slices.DeleteFunc at elements of one cell, whose row stays the caller's own. -/
set_option linter.all false
namespace Go.Proofs.YtapdjibjnfeipaaGreatDoor.AL
open Go Go.Proofs Go.RowKit
set_option maxHeartbeats 1000000 in
theorem xe7 {α : Type} {P : Program} {g f : FuncId} {S F E n : Nat} {b : Bool} {z0 : AV} (hi : FnC P g 19 [.tmp 4] (idxAC S E)) (hS : xp P S = some E) (hE : aggN P E = some (b, n)) (hz : zeroOf P E = some z0) (hzs : xd z0 n = true)
    (enc : α → AV) (l : List α) (p : α → Bool) (hlen : l.length < 4611686018427387904) {ca ca' : List AV} (hp : ∀ x ∈ l, Ok P f (enc x :: ca') (bool (p x))) (hx : ∀ x, closed (enc x) = true) (hcc : closeds ca' = true)
    (hld : ∀ x, evalLd P E (enc x) 0 = some (enc x)) (hst : ∀ x y, stAV (enc x) 0 (enc y) = some (enc y)) (hst0 : ∀ y, stAV z0 0 (enc y) = some (enc y)) (hsz : ∀ x, xd (enc x) n = true)
    (H : Nat → Option AO) (nx q : Nat) (hq : q < nx) (hH : H q = some (.row E n (l.map enc))) (hcap : ∀ H' : Nat → Option AO, (∀ j, j < nx → j ≠ q → H' j = H j) → frzs H' 9 ca = some ca') :
    cw P 42 (delAC1 g S F E) (finQ P [.tmp 4] fun r H' nx' => (r = .msl q (l.filter fun x => !p x).length ∧ H' q = some (.row E n ((l.filter fun x => !p x).map enc))) ∧ ∀ j, j < nx → j ≠ q → H' j = H j) ⟨argT [.msl q l.length, .fn (.func f) [] ca], H, nx⟩ := by
  have i1 : ∀ (l len : Nat) (k : IntKind) (n' : Int), xx P S (.msl l len) (.val (.int k n')) = if 0 ≤ n' ∧ n' < len then some (.loc l n n'.toNat 0) else none := fun l len k n' => xke _ hS hE l len k n'
  have s1 : ∀ (V : Nat → Option AO) (l sz i off : Nat) (v : AV), xmb P E V (.loc l sz i off) v = if xd v n = true then (rowT (V l) sz i).bind fun p => (stAV p.2.2 off v).map fun x' => [(l, some (.row p.1 sz (p.2.1.set i x')))] else none := fun V l sz i off v => xbc _ hE V l sz i off v
  have l1 : ∀ (l m : Nat), xlb P S (.msl l m) = some (int m) := fun l m => x7l _ hS l m
  have a1 : ∀ (V : Nat → Option AO) (new : Nat) (ρ : Operand → AV), evalOp P (.alloc E) V new ρ = some (.loc new n 0 0, [(new, some (.row E n [z0]))]) := fun V new ρ => by
    rw [xrg, hE, hz]
    simp [allocK, hzs]
  have hxl := xu enc hx l
  have hfz : ∀ (H' : Nat → Option AO) (x : α), (∀ j, j < nx → j ≠ q → H' j = H j) → frzs H' 10 (enc x :: ca) = some (enc x :: ca') := fun H' x h => by
    rw [xrk, fz_clo H' 9 _ (hx x), hcap H' h]; rfl
  have hany : l.any p = false → (l.filter fun x => !p x) = l := fun h => by
    rw [List.filter_eq_self]
    intro x hx'
    have := List.any_eq_false.1 h x hx'
    simpa using this
  unfold delAC1
  simp only [EV, ↓EVd, isCall, sevalprocAttr]
  refine S1_okb 12 (xsq hi hS hE (fi := []) (ca := ca') enc l p (by omega) (fun x hx' => hp x hx') (fun x hx' => by simp [closeds, hx x, hcc]) (fun x _ => hld x)) rfl ?_ rfl ?_
  · show frzs H 12 [.msl q l.length, .fn (.func f) [] ca] = some [.sl n (l.map enc), .fn (.func f) [] ca']
    rw [xrk, xrk, fz_msl, hH, xhv, if_pos (by simp), xro _ _ _ hxl, fz_fn, hcap H (fun _ _ _ => rfl), xro _ _ [] rfl]
    rfl
  cases ha : l.any p with
  | false =>
    have e1 : idxF p l = -1 := by unfold idxF; rw [ha]; rfl
    rw [e1]
    simp only [EV, ↓EVd, isCall, sevalprocAttr]
    refine ⟨⟨by rw [hany ha], by rw [hany ha]; exact hH⟩, fun _ _ _ => trivial⟩
  | true =>
    obtain ⟨a, hal, ha1, ha2⟩ : ∃ a, a < l.length ∧ idxF p l = (a : Int) ∧ (l.take (a + 1)).filter (fun x => !p x) = l.take a := by
      have hlt : l.findIdx p < l.length := List.findIdx_lt_length.2 (List.any_eq_true.1 ha)
      refine ⟨l.findIdx p, hlt, by unfold idxF; rw [ha]; rfl, ?_⟩
      rw [List.take_succ_eq_append_getElem hlt, List.filter_append]
      have h1 : p l[l.findIdx p] = true := List.findIdx_getElem
      rw [List.filter_cons, h1]
      simp only [Bool.not_true, Bool.false_eq_true, if_false, List.filter_nil, List.append_nil]
      rw [List.filter_eq_self]
      intro x hx'
      obtain ⟨k, hk, rfl⟩ := List.getElem_of_mem hx'
      have hk' : k < l.findIdx p := by simp at hk; omega
      have := List.not_of_lt_findIdx hk'
      simpa using this
    rw [ha1]
    have w0 : IntKind.i64.wrap ((a : Int) + 1) = ((a + 1 : Nat) : Int) := Go.IntWalk.i64_in _ (by omega)
    have e0 : ((a : Int) = -1) = False := eq_false (by omega)
    simp only [e0, w0, EV, ↓EVd, isCall, sevalprocAttr]
    obtain ⟨J, hJ⟩ : ∃ J : AS → Prop, J = fun s => s.T 0 = .msl q l.length ∧ (∃ (i : Nat) (z : List α), s.T 5 = int i ∧ i ≤ l.length ∧ z.length = l.length ∧ s.H q = some (.row E n (z.map enc)) ∧ z.take i = l.filter fun x => !p x) ∧ nx ≤ s.nx ∧ ∀ j, j < nx → j ≠ q → s.H j = H j := ⟨_, rfl⟩
    refine xsu 0 J ?_ ?_
    rotate_left
    · rintro ⟨T, H', nx'⟩ hs
      rw [hJ] at hs
      obtain ⟨k0, ⟨i, z, k5, k6, k7, k8, k9⟩, k10, k11⟩ := hs
      simp only at k0 k5 k8 k10 k11
      have hzt : (z.take i).length = i := by simp; omega
      have b1 : x3b P S (.msl q l.length) (some (int i)) none none = some (.mtl q n i (l.length - i)) := by
        have : (i : Int) ≤ (l.length : Int) := by omega
        simp [x3b, hS, hE, bounds, x0f, this]
      have b2 : x3b P S (.msl q l.length) none (some (int i)) none = some (.msl q i) := by
        have : (i : Int) ≤ (l.length : Int) := by omega
        simp [x3b, hS, hE, bounds, x0f, this]
      have b3 : ∃ us, xnd P S H' (.mtl q n i (l.length - i)) = some (.tup [], us) ∧ applyU H' us q = some (.row E n ((z.take i).map enc)) ∧ ∀ j, j ≠ q → applyU H' us j = H' j := by
        by_cases hn0 : l.length - i = 0
        · refine ⟨[], by simp [xnd, hS, hE, hz, hzs, hn0], ?_, fun _ _ => rfl⟩
          rw [show z.take i = z by rw [List.take_of_length_le (by omega)]]
          exact k8
        · refine ⟨[(q, some (.row E n ((z.map enc).take i)))], by simp [xnd, hS, hE, hz, hzs, hn0, k8]; omega, ?_, fun j hj => by simp [applyU, upd_at, hj]⟩
          simp [applyU, List.map_take]
      obtain ⟨us, c1, c2, c3⟩ := b3
      simp only [k0, k5, b1, b2, c1, xyz, ↓xhy, ↓xvy, opt, EV, ↓EVd, isCall, sevalprocAttr]
      refine ⟨⟨by rw [← k9, hzt], by rw [← k9]; exact c2⟩, fun j h1 h2 => by rw [c3 j h2]; exact k11 j h1 h2⟩
    refine xfp (fun s => s.T 0 = .msl q l.length ∧ s.T 1 = .fn (.func f) [] ca ∧ (∃ (i j : Nat) (z : List α), s.T 5 = int i ∧ s.T 6 = int j ∧ i < j ∧ j ≤ l.length ∧ z.length = l.length ∧ s.H q = some (.row E n (z.map enc)) ∧ z.take i = (l.take j).filter (fun x => !p x) ∧ ∀ k, j ≤ k → z[k]? = l[k]?) ∧ nx ≤ s.nx ∧ ∀ j, j < nx → j ≠ q → s.H j = H j) (fun s => ((l.length : Int) - iv (s.T 6)).toNat) ?_ ?_
    · simp only [EV, ↓EVd, isCall, sevalprocAttr]
      exact ⟨⟨a, a + 1, l, by simp, by simp, by omega, by omega, rfl, hH, ha2.symm, fun _ _ => rfl⟩, by omega, fun _ _ _ => trivial⟩
    · rintro ⟨T, H', nx'⟩ ⟨k0, k1, ⟨i, j, z, k2, k3, k4, k5, k6, k7, k8, k9⟩, k10, k11⟩
      simp only at k0 k1 k2 k3 k7 k10 k11
      apply cw_cwp
      have kq := lq (show q < nx' by omega)
      dsimp only [Lq] at kq
      by_cases hc : (j : Int) < (l.length : Int)
      · have e1 : ((j : Int) < (l.length : Int)) = True := eq_true hc
        have e2 : ((0 : Int) ≤ (j : Int)) = True := eq_true (by omega)
        have e3 : ((0 : Int) ≤ (i : Int)) = True := eq_true (by omega)
        have e4 : ((i : Int) < (l.length : Int)) = True := eq_true (by omega)
        have hj0 : ((j : Int)).toNat = j := by omega
        have hi0 : ((i : Int)).toNat = i := by omega
        have hjl : j < l.length := by omega
        have hil : i < z.length := by omega
        have z1 : (z.map enc)[j]? = some (enc l[j]) := by rw [List.getElem?_map, k9 j (Nat.le_refl _), List.getElem?_eq_getElem hjl]; rfl
        have z2 : (z.map enc)[i]? = some (enc z[i]) := by simp [hil]
        have d1 := hld l[j]
        have d2 := hst0 l[j]
        have d3 := hst z[i] l[j]
        have d5 := hsz l[j]
        have w1 : IntKind.i64.wrap ((i : Int) + 1) = ((i + 1 : Nat) : Int) := Go.IntWalk.i64_in _ (by omega)
        have w2 : IntKind.i64.wrap ((j : Int) + 1) = ((j + 1 : Nat) : Int) := Go.IntWalk.i64_in _ (by omega)
        have hm : l[j] ∈ l := List.getElem_mem hjl
        have htk : l.take (j + 1) = l.take j ++ [l[j]] := List.take_succ_eq_append_getElem hjl
        have hone : n = 0 ∨ 0 < n := Nat.eq_zero_or_pos n
        simp only [i1, s1, l1, a1, kq, k0, k1, k2, k3, k7, e1, e2, hj0, z1, d1, d2, d5, EV, ↓EVd, isCall, sevalprocAttr]
        refine S1_okb 10 (hp _ hm) rfl (hfz _ _ ?_) rfl ?_
        · intro j' h1 h2
          exact k11 j' h1 h2
        cases hb : p l[j] with
        | true =>
          simp only [i1, s1, l1, a1, kq, k0, k1, k2, k3, k7, e1, e2, e3, e4, hj0, hi0, z1, z2, d1, d2, d3, d5, w1, w2, EV, ↓EVd, isCall, sevalprocAttr]
          refine ⟨⟨⟨i, j + 1, z, by simp, by simp, by omega, by omega, k6, ?_, ?_, fun k hk => k9 k (by omega)⟩, by omega, ?_⟩, by omega⟩
          · first | exact k7 | rfl | trivial
          · rw [k8, htk, List.filter_append, List.filter_cons, hb]; simp
          · intro j' h1 h2
            repeat rw [if_neg (by omega)]
            exact k11 j' h1 h2
        | false =>
          simp only [i1, s1, l1, a1, kq, k0, k1, k2, k3, k7, e1, e2, e3, e4, hj0, hi0, z1, z2, d1, d2, d3, d5, w1, w2, EV, ↓EVd, isCall, sevalprocAttr]
          refine ⟨⟨⟨i + 1, j + 1, z.set i l[j], by simp, by simp, by omega, by omega, by simpa using k6, ?_, ?_, ?_⟩, by omega, ?_⟩, by omega⟩
          · first | rfl | trivial
          · rw [htk, List.filter_append, List.filter_cons, hb, ← k8]
            simp only [Bool.not_false, if_true, List.filter_nil]
            rw [List.take_succ_eq_append_getElem (by simpa using hil)]
            simp [List.take_set_of_le]
          · intro k hk
            rw [List.getElem?_set_ne (by omega)]
            exact k9 k (by omega)
          · intro j' h1 h2
            repeat rw [if_neg (by omega)]
            exact k11 j' h1 h2
      · have e1 : ((j : Int) < (l.length : Int)) = False := eq_false hc
        obtain rfl : j = l.length := by omega
        rw [List.take_length] at k8
        simp only [l1, k0, k1, k2, k3, e1, EV, ↓EVd, isCall, sevalprocAttr]
        rw [hJ]
        exact TI.here ⟨by simp only [k0, EV, ↓EVd, sevalprocAttr], ⟨i, z, by simp only [k2, EV, ↓EVd, sevalprocAttr], by omega, k6, k7, k8⟩, by show nx ≤ nx' + 4; omega, k11⟩
theorem ACall.turn {P : Program} {f : FuncId} {args : List AV} {H : Nat → Option AO} {nx l T sz : Nat} {xs ys : List AV} {r : AV} (hcy : closeds ys = true) (hl : l < nx) (hH : H l = some (.row T sz xs)) (hr : ∀ K : Nat → Prop, K l → inK K r)
    (h : ACall P f args H nx fun r' H' nx' => r' = r ∧ H' l = some (.row T sz ys) ∧ ∀ j, j < nx → j ≠ l → H' j = H j) : ACall P f args H nx fun r' H' nx' => r' = r ∧ H' = upd H l (some (.row T sz ys)) ∧ nx' = nx := by
  refine ⟨h.1, fun C E vals hR hb hv => (h.2 C E vals hR hb hv).mono ?_⟩
  rintro e w' ⟨v, r', H1, nx1, E1, rfl, ⟨rfl, hH1, hH2⟩, hv1, hR1, hS, hn1, hn2, rfl⟩
  obtain ⟨q, hq, ho⟩ := hR1.live hH1
  obtain ⟨p, hp, _⟩ := hR.live hH
  have hk := hR.known l p hp
  obtain ⟨g1, g2, g3⟩ := xao (l := l) (l0 := l) (T := T) (sz := sz) (xs := ys) (q := q) hR hb hR1 hS (.inl ⟨hq, hH1⟩) hcy (.inr ⟨rfl, hk, hq⟩) hH2
  refine ⟨v, r', _, nx, _, rfl, ⟨rfl, rfl, rfl⟩, VRep.lo g3 _ _ (hr _ hk) hv1, g1, g2, Nat.le_refl _, ?_, rfl⟩
  rintro j (hj | hj)
  · exact .inl hj
  · subst hj; exact .inl hk
theorem qdel1i {α : Type} {P : Program} {g g' f : FuncId} {S F E n : Nat} {b : Bool} {z0 : AV} (hf : FnC P g' 42 [.tmp 4] (delAC1 g S F E)) (hi : FnC P g 19 [.tmp 4] (idxAC S E)) (hS : xp P S = some E) (hE : aggN P E = some (b, n)) (hz : zeroOf P E = some z0) (hzs : xd z0 n = true)
    (enc : α → AV) (l : List α) (p : α → Option Bool) (r : List α) (hr : x3e p l = some r) {ca ca' : List AV} (hp : ∀ x b, p x = some b → Ok P f (enc x :: ca') (bool b)) (hx : ∀ x, closed (enc x) = true) (hcc : closeds ca' = true)
    (hld : ∀ x, evalLd P E (enc x) 0 = some (enc x)) (hst : ∀ x y, stAV (enc x) 0 (enc y) = some (enc y)) (hst0 : ∀ y, stAV z0 0 (enc y) = some (enc y)) (hsz : ∀ x, xd (enc x) n = true)
    {H : Nat → Option AO} {nx q new : Nat} {ρ : Operand → AV} {k : AV → (Nat → Option AO) → Nat → Prop} {c : Call} (hc : xjb ρ c = some (g', [.msl q l.length, .fn (.func f) [] ca])) (hq : q < nx) (hH : H q = some (.row E n (l.map enc))) (hcap : ∀ H' : Nat → Option AO, (∀ j, j < nx → j ≠ q → H' j = H j) → frzs H' 9 ca = some ca')
    (hk : k (.msl q r.length) (upd H q (some (.row E n (r.map enc)))) nx) : Sem1 P (.call c) H nx new ρ k := by
  obtain ⟨hlen, hr⟩ := ckE hr
  obtain ⟨h1, rfl⟩ := xkt hr
  have hA : ACall P g' [.msl q l.length, .fn (.func f) [] ca] H nx fun r H' nx' => r = .msl q (l.filter fun x => !((p x).getD false)).length ∧ H' = upd H q (some (.row E n ((l.filter fun x => !((p x).getD false)).map enc))) ∧ nx' = nx := by
    refine ACall.turn (xu enc hx _) hq hH (fun K hK => by simpa only [inK] using hK) ((acallF hf (by simp) (xe7 hi hS hE hz hzs enc l (fun x => (p x).getD false) hlen (fun x hx' => hp x _ (h1 x hx')) hx hcc hld hst hst0 hsz H nx q hq hH hcap)).mono ?_)
    rintro r H' nx' ⟨⟨g1, g2⟩, g3⟩
    exact ⟨r, Sub.refl _, g1, g2, g3⟩
  refine x5d (hA.mono fun r H' nx' ⟨e1, e2, e3⟩ => ⟨r, Sub.refl _, ?_⟩) hc
  subst e1; subst e2; subst e3
  exact hk
end Go.Proofs.YtapdjibjnfeipaaGreatDoor.AL

