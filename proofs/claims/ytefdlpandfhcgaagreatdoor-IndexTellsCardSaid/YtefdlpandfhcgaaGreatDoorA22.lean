/- A law of the given program is proved: part 22 of 50. -/
import Derived.IntWalk
import Derived.Test.YtefdlpandfhcgaaGreatDoorA21
set_option linter.all false
/- Models: the words in which the models of the program's functions are written (gen.py writes these). -/
set_option linter.unusedSimpArgs false
set_option linter.unusedVariables false
namespace Go.Proofs.YtefdlpandfhcgaaGreatDoor.AL
abbrev wr (n : Int) : Int := IntKind.i64.wrap n
theorem wr_in {n : Int} (h1 : -9223372036854775808 ≤ n) (h2 : n < 9223372036854775808) : wr n = n := Go.IntWalk.i64_in n (by omega)
def ix {α : Type} (xs : List α) (n : Int) : Option α := if 0 ≤ n then xs[n.toNat]? else none
def ap {α : Type} (k : Nat) (xs ys : List α) : Option (List α) := if (xs.length + ys.length) * k ≤ 140737488355328 ∧ xs.length + ys.length ≤ 9223372036854775807 then some (xs ++ ys) else none
def ck (p : Prop) [Decidable p] : Option Unit := if p then some () else none
inductive St (σ ρ : Type) where
  | nx (s : σ)
  | out (r : ρ)
def iter {σ ρ : Type} (B : σ → Option (St σ ρ)) : Nat → σ → Option ρ
  | 0, _ => none
  | k + 1, s => (B s).bind fun
    | .nx s' => iter B k s'
    | .out r => some r
def big : Nat := 1000000000000000000
theorem x2u {σ ρ : Type} (B : σ → Option (St σ ρ)) (s : σ) : iter B 0 s = none := rfl
theorem xec {σ ρ : Type} (B : σ → Option (St σ ρ)) (k : Nat) (s : σ) : iter B (k + 1) s = (B s).bind fun
    | .nx s' => iter B k s'
    | .out r => some r := rfl
theorem xat {α : Type} {xs : List α} {n : Int} {x : α} (h : ix xs n = some x) : 0 ≤ n ∧ xs[n.toNat]? = some x := by
  unfold ix at h
  split at h
  · exact ⟨‹_›, h⟩
  · cases h
theorem ix_enc {α β : Type} (f : α → β) {xs : List α} {n : Int} {x : α} (h : ix xs n = some x) : (xs.map f)[n.toNat]? = some (f x) := by
  rw [List.getElem?_map, (xat h).2]; rfl
theorem ix_lt {α : Type} {xs : List α} {n : Int} {x : α} (h : ix xs n = some x) : n < xs.length := by
  obtain ⟨h1, h2⟩ := xat h
  have := (List.getElem?_eq_some_iff.1 h2).1
  omega
theorem xyu {α : Type} {xs : List α} {n : Int} {x : α} (h : ix xs n = some x) : 0 ≤ n := (xat h).1
theorem x68 {α : Type} {k : Nat} {xs ys zs : List α} (h : ap k xs ys = some zs) : zs = xs ++ ys ∧ (xs.length + ys.length) * k ≤ 140737488355328 ∧ xs.length + ys.length ≤ 9223372036854775807 := by
  unfold ap at h
  split at h
  · injection h with h
    exact ⟨h.symm, ‹_›⟩
  · cases h
theorem xss {p : Prop} [Decidable p] {u : Unit} (h : ck p = some u) : p := by
  unfold ck at h
  split at h
  · assumption
  · cases h
theorem x06 {α β : Type} (f : α → β) (l : List α) (a : α) : l.map f ++ [f a] = (l ++ [a]).map f := by simp
theorem x4y {α β : Type} (f : α → β) (l : List α) (n : Nat) (a : α) : (l.map f).set n (f a) = (l.set n a).map f := by simp
section
variable {α β : Type}
theorem xfq (f : α → β) (a : α) : (some a).map f = some (f a) := _root_.id rfl
theorem xhs (a : α) (l : List α) : (a :: l).length = l.length + 1 := _root_.id rfl
theorem xnu : ([] : List α).length = 0 := _root_.id rfl
theorem xkz (a : α) (l : List α) : (a :: l)[0]? = some a := _root_.id rfl
theorem x20 (a : α) (l : List α) (i : Nat) : (a :: l)[i + 1]? = l[i]? := _root_.id rfl
theorem xyy (a d : α) (l : List α) : (a :: l).getD 0 d = a := _root_.id rfl
theorem xuy (a d : α) (l : List α) (i : Nat) : (a :: l).getD (i + 1) d = l.getD i d := _root_.id rfl
theorem xg1 (a b : α) (l : List α) : (a :: l).set 0 b = b :: l := _root_.id rfl
theorem x5z (a b : α) (l : List α) (i : Nat) : (a :: l).set (i + 1) b = a :: l.set i b := _root_.id rfl
theorem x3z (f : α → β) (a : α) (l : List α) : (a :: l).map f = f a :: l.map f := _root_.id rfl
theorem x92 (f : α → β) : ([] : List α).map f = [] := _root_.id rfl
theorem xky (a : α) (l : List α) (i : Nat) : (a :: l).take (i + 1) = a :: l.take i := _root_.id rfl
theorem x6x (l : List α) : l.take 0 = [] := _root_.id rfl
theorem xny (a : α) (l : List α) (i : Nat) : (a :: l).drop (i + 1) = l.drop i := _root_.id rfl
theorem xly (l : List α) : l.drop 0 = l := _root_.id rfl
theorem xw0 (a : α) (l m : List α) : a :: l ++ m = a :: (l ++ m) := _root_.id rfl
theorem x12 (l : List α) : [] ++ l = l := _root_.id rfl
theorem xq2 (l : List α) : l ++ [] = l := List.append_nil l
theorem xy0 (i : Nat) : ([] : List α).drop i = [] := List.drop_nil
theorem xlp (f : α → β) (l : List α) : (l.map f).length = l.length := List.length_map _
theorem xiu (l m : List α) : (l ++ m).length = l.length + m.length := List.length_append
theorem x8t (n : Nat) (a : α) : (List.replicate n a).length = n := List.length_replicate
theorem xqu (l : List α) (n : Nat) (a : α) : (l.set n a).length = l.length := List.length_set
theorem x00 (n : Nat) (a : α) : List.replicate (n + 1) a = a :: List.replicate n a := _root_.id rfl
theorem xe1 (a : α) : List.replicate 0 a = [] := _root_.id rfl
theorem xx2 (n : Nat) : (n == n) = true := beq_self_eq_true n
theorem xw5 (a b : Nat) : (a ≠ b) = ¬ a = b := _root_.id rfl
end
theorem xuw (v : Value) : closed (.val v) = true := _root_.id rfl
theorem xgy (s : Nat) (xs : List AV) : closed (.sl s xs) = closeds xs := _root_.id rfl
theorem xnx (xs : List AV) : closed (.agg xs) = closeds xs := _root_.id rfl
theorem x0v (xs : List AV) : closed (.tup xs) = closeds xs := _root_.id rfl
theorem xwv (x : AV) (o : Nat) : closed (.ptr x o) = closed x := _root_.id rfl
theorem xty (f : Fn) (a b : List AV) : closed (.fn f a b) = (closeds a && closeds b) := _root_.id rfl
theorem xkv : closeds [] = true := _root_.id rfl
theorem xmt (x : AV) (xs : List AV) : closeds (x :: xs) = (closed x && closeds xs) := _root_.id rfl
section
variable {P : Program} {n : Nat} {Q : Exit → AS → Prop} {s : AS}
theorem x6o {x : AC} (I : Nat → AS → Prop) (k : Nat) (h0 : I k s) (zero : ∀ s, ¬ I 0 s) (round : ∀ k s, I (k + 1) s → cwp P n x (seqQ (I k) Q) s) : cwp P n (.loop x) Q s := by
  classical
  refine xy5 (fun s => ∃ k, I k s) (fun s => if h : ∃ k, I k s then Classical.choose (xyb h) else 0) ⟨k, h0⟩ ?_
  intro s hs
  have hm := Classical.choose_spec (xyb hs)
  simp only [dif_pos hs]
  generalize Classical.choose (xyb hs) = m at hm
  cases m with
  | zero => exact absurd hm.1 (zero s)
  | succ m =>
    refine xcc (round m s hm.1) ?_
    intro e s' hq
    cases e with
    | normal =>
      have hex : ∃ k, I k s' := ⟨m, hq⟩
      refine ⟨hex, ?_⟩
      simp only [dif_pos hex]
      have := (Classical.choose_spec (xyb hex)).2 m hq
      omega
    | _ => exact hq
def Tn (n : Nat) (s s' : AS) : Prop := ∀ (C : Ctx) (E0 : Env) (k0 : Nat) (E : Env) (a : Act), k0 ≤ s.nx → SR C E0 k0 n s a E → ∃ E', k0 ≤ s'.nx ∧ SR C E0 k0 n s' a E' ∧ E'.w = E.w
theorem Tn.refl (s : AS) : Tn n s s := fun _ _ _ E _ hk h => ⟨E, hk, h, rfl⟩
theorem Tn.trans {s t u : AS} (h : Tn n s t) (k : Tn n t u) : Tn n s u := fun C E0 k0 E a hk hS => by
  obtain ⟨E', h1, h2, h3⟩ := h C E0 k0 E a hk hS
  obtain ⟨E'', g1, g2, g3⟩ := k C E0 k0 E' a h1 h2
  exact ⟨E'', g1, g2, g3.trans h3⟩
theorem x64 {c : Code} {s' : AS} (hs : Tn n s s') (h : awp P n c Q s') : awp P n c Q s := by
  intro C E0 k0 E a hk hS
  obtain ⟨E', h1, h2, h3⟩ := hs C E0 k0 E a hk hS
  rw [← h3]
  exact h C E0 k0 E' a h1 h2
theorem xcr {c : AC} {s' : AS} (hs : Tn n s s') (h : cwp P n c Q s') : cwp P n c Q s := fun c' hc => x64 hs (h c' hc)
theorem Tn.adopt {T : Nat → AV} {H : Nat → Option AO} {nx : Nat} (t Ty sz : Nat) (ht : T t = nilS) : Tn n ⟨T, H, nx⟩ ⟨upd T t (.msl nx 0), upd H nx (some (.row Ty sz [])), nx + 1⟩ := by
  intro C E0 k0 E a hk hS
  have hn : ¬ E.K nx := fun k => by have := hS.bound _ k; simp at this
  refine ⟨E.adopt nx, by show k0 ≤ nx + 1; simp at hk; omega, ⟨hS.heap.adopt hn Ty sz, hS.stab.trans (Env.adopt_stab hn), ?_, ?_, hS.size, hS.defers, ?_⟩, rfl⟩
  · intro l hl
    rcases hl with hl | hl
    · have := hS.bound l hl; show l < nx + 1; simp at this; omega
    · show l < nx + 1; omega
  · intro l hl
    rcases hl with hl | hl
    · exact hS.fresh l hl
    · exact .inr (by simp at hk; omega)
  · intro u
    have hu := (hS.tmps u).stab (Env.adopt_stab hn)
    simp only [upd_at]
    split
    · rename_i e
      subst e
      simp only [ht] at hu
      simp only [VRep] at hu ⊢
      refine ⟨none, 0, .inr rfl, hu, fun h => absurd h (by omega), Nat.le_refl _, fun b c e => ?_, fun _ => by simp⟩
      simp [Env.adopt] at e
    · exact hu
theorem Tn.slot {T : Nat → AV} {H : Nat → Option AO} {nx : Nat} (t : Nat) (y : AV) (h : Sub (T t) y) : Tn n ⟨T, H, nx⟩ ⟨upd T t y, H, nx⟩ := by
  intro C E0 k0 E a hk hS
  refine ⟨E, hk, ⟨hS.heap, hS.stab, hS.bound, hS.fresh, hS.size, hS.defers, ?_⟩, rfl⟩
  intro u
  have hu := hS.tmps u
  simp only [upd_at]
  split
  · rename_i e
    subst e
    exact h _ _ hu
  · exact hu
theorem Tn.row {T : Nat → AV} {H : Nat → Option AO} {nx : Nat} (l Ty sz : Nat) (xs ys : List AV) (hl : H l = some (.row Ty sz xs)) (h : Subs xs ys) : Tn n ⟨T, H, nx⟩ ⟨T, upd H l (some (.row Ty sz ys)), nx⟩ := by
  intro C E0 k0 E a hk hS
  refine ⟨E, hk, ⟨{ below := hS.heap.below, base := hS.heap.base, zlt := hS.heap.zlt, zlive := hS.heap.zlive, zsrc := hS.heap.zsrc, known := hS.heap.known, inj := hS.heap.inj, old := hS.heap.old, dom := ?_, obj := ?_ }, hS.stab, hS.bound, hS.fresh, hS.size, hS.defers, hS.tmps⟩, rfl⟩
  · intro k
    have := hS.heap.dom k
    simp only [upd_at]
    split
    · rename_i e
      subst e
      simp only [hl] at this
      rw [← this]
      rfl
    · exact this
  · intro k o p e e'
    simp only [upd_at] at e
    split at e
    · rename_i ek
      subst ek
      injection e with e
      subst e
      have ho := hS.heap.obj k _ p hl e'
      cases p with
      | none =>
        simp only [ORep] at ho ⊢
        subst ho
        have := Subs.length h E [] VReps.nil
        exact List.eq_nil_of_length_eq_zero (by simpa using this.symm)
      | some q =>
        obtain ⟨b, c⟩ := q
        simp only [ORep] at ho ⊢
        obtain ⟨cur, us, h1, h2, h3, h4, h5, h6, h7⟩ := ho
        have hlen := Subs.length h E us h2
        exact ⟨cur, us, h1, h _ _ h2, h3, by rw [← hlen]; exact h4, h5, h6, by rw [← hlen]; exact h7⟩
    · exact hS.heap.obj k o p e e'
theorem VReps.set1 {E : Env} : ∀ {cs : List AV} {us : List Value} (j : Nat) {x : AV}, VReps E cs us → (∀ u, us[j]? = some u → VRep E x u) → VReps E (cs.set j x) us
  | [], us, j, x, h, _ => by simpa using h
  | c :: cs, us, 0, x, h, hx => by
    simp only [VReps] at h
    obtain ⟨u, us', h1, h2, rfl⟩ := h
    exact .cons (hx u rfl) h2
  | c :: cs, us, j + 1, x, h, hx => by
    simp only [VReps] at h
    obtain ⟨u, us', h1, h2, rfl⟩ := h
    exact .cons h1 (VReps.set1 j h2 (fun v hv => hx v (by simpa using hv)))
theorem Tn.adoptC {T : Nat → AV} {H : Nat → Option AO} {nx : Nat} (l j Ty sz Te se : Nat) (cs : List AV) (hl : H l = some (.row Ty sz [.agg cs])) (hj : cs[j]? = some nilS) :
    Tn n ⟨T, H, nx⟩ ⟨T, upd (upd H nx (some (.row Te se []))) l (some (.row Ty sz [.agg (cs.set j (.msl nx 0))])), nx + 1⟩ := by
  intro C E0 k0 E a hk hS
  have hn : ¬ E.K nx := fun k => by have := hS.bound _ k; simp at this
  have hst := Env.adopt_stab hn
  have hA := hS.heap.adopt hn Te se
  have hne : l ≠ nx := by
    intro e
    subst e
    have h1 := hS.heap.dom l
    simp only [hl] at h1
    cases hL : E.L l with
    | none => rw [hL] at h1; cases h1
    | some x => exact hn (hS.heap.known l x hL)
  refine ⟨E.adopt nx, by show k0 ≤ nx + 1; simp at hk; omega, ⟨{ below := hA.below, base := hA.base, zlt := hA.zlt, zlive := hA.zlive, zsrc := hA.zsrc, known := hA.known, inj := hA.inj, old := hA.old, dom := ?_, obj := ?_ }, hS.stab.trans hst, ?_, ?_, hS.size, hS.defers, fun t => (hS.tmps t).stab hst⟩, rfl⟩
  · intro k
    have := hA.dom k
    simp only [upd_at] at this ⊢
    split
    · rename_i e
      subst e
      rw [if_neg hne, hl] at this
      rw [← this]; rfl
    · exact this
  · intro k o p e e'
    simp only [upd_at] at e
    split at e
    · rename_i ek
      subst ek
      injection e with e
      subst e
      have ho := hA.obj k (.row Ty sz [.agg cs]) p (by simp only [upd_at]; rw [if_neg hne]; exact hl) e'
      cases p with
      | none => simp only [ORep] at ho; cases ho
      | some q =>
        obtain ⟨b, c⟩ := q
        simp only [ORep] at ho ⊢
        obtain ⟨cur, us, h1, h2, h3⟩ := ho
        refine ⟨cur, us, h1, ?_, h3⟩
        simp only [VReps, VRep] at h2 ⊢
        obtain ⟨u, us', ⟨vs, g1, rfl⟩, g2, rfl⟩ := h2
        refine ⟨_, us', ⟨vs, ?_, rfl⟩, g2, rfl⟩
        refine VReps.set1 j g1 fun u hu => ?_
        obtain ⟨x, hx, hr⟩ := g1.get' j u hu
        rw [hj] at hx
        injection hx with hx
        subst hx
        simp only [VRep] at hr ⊢
        refine ⟨none, 0, .inr rfl, hr, fun h => absurd h (by omega), Nat.le_refl _, fun b c e => ?_, fun _ => by simp⟩
        simp [Env.adopt] at e
    · exact hA.obj k o p (by simp only [upd_at]; exact e) e'
  · intro l hl
    rcases hl with hl | hl
    · have := hS.bound l hl; show l < nx + 1; simp at this; omega
    · show l < nx + 1; omega
  · intro l hl
    rcases hl with hl | hl
    · exact hS.fresh l hl
    · exact .inr (by simp at hk; omega)
def fkK (m : Nat) (o : Option AO) : Option AV := match o with
  | some (.row _ sz ys) => if m = ys.length ∧ closeds ys = true then some (.sl sz ys) else none
  | _ => none
def fkO (a : Option AV) (b : Option (List AV × (Nat → Option AO))) : Option (List AV × (Nat → Option AO)) := match a, b with
  | some x, some (xs, H) => some (x :: xs, H)
  | _, _ => none
def fk (H : Nat → Option AO) : List AV → Option (List AV × (Nat → Option AO))
  | [] => some ([], H)
  | x :: xs => match x with
    | .msl l m => fkO (fkK m (H l)) (fk (upd H l none) xs)
    | x => if closed x = true then fkO (some x) (fk H xs) else none
theorem x04 {C : Ctx} : ∀ (xs : List AV) (E : Env) (H : Nat → Option AO) (us : List Value) (ys : List AV) (H' : Nat → Option AO), HR C E H → VReps E xs us → fk H xs = some (ys, H') →
    ∃ E', HR C E' H' ∧ Stab E E' ∧ (∀ l, E'.K l → E.K l) ∧ E'.w = E.w ∧ VReps E' ys us ∧ closeds ys = true := by
  intro xs
  induction xs with
  | nil =>
    intro E H us ys H' hR hv h
    simp only [fk, Option.some.injEq, Prod.mk.injEq] at h
    obtain ⟨rfl, rfl⟩ := h
    exact ⟨E, hR, Stab.refl E, fun _ h => h, rfl, hv, rfl⟩
  | cons x xs ih =>
    intro E H us ys H' hR hv h
    simp only [VReps] at hv
    obtain ⟨u, us', hu, hus, rfl⟩ := hv
    have plain : ∀ x : AV, closed x = true → VRep E x u → fkO (some x) (fk H xs) = some (ys, H') → ∃ E', HR C E' H' ∧ Stab E E' ∧ (∀ l, E'.K l → E.K l) ∧ E'.w = E.w ∧ VReps E' ys (u :: us') ∧ closeds ys = true := by
      intro x hc hu h
      cases hx : fk H xs with
      | none => rw [hx] at h; cases h
      | some q =>
        obtain ⟨zs, H2⟩ := q
        rw [hx] at h
        simp only [fkO, Option.some.injEq, Prod.mk.injEq] at h
        obtain ⟨rfl, rfl⟩ := h
        obtain ⟨E', g1, g2, g3, g4, g5, g6⟩ := ih E H us' zs H2 hR hus hx
        exact ⟨E', g1, g2, g3, g4, .cons (hu.stab g2) g5, by simp [closeds, hc, g6]⟩
    unfold fk at h
    split at h
    · rename_i l m
      cases ho : H l with
      | none => rw [ho] at h; simp [fkK, fkO] at h
      | some ob =>
        cases ob with
        | map ks vs => rw [ho] at h; simp [fkK, fkO] at h
        | siter s q => rw [ho] at h; simp [fkK, fkO] at h
        | mapb bs ck ks vs => rw [ho] at h; simp [fkK, fkO] at h
        | row Ty sz zs =>
          rw [ho] at h
          simp only [fkK] at h
          split at h
          · rename_i hmc
            obtain ⟨hm, hc⟩ := hmc
            cases hx : fk (upd H l none) xs with
            | none => rw [hx] at h; simp [fkO] at h
            | some q =>
              obtain ⟨ws, H2⟩ := q
              rw [hx] at h
              simp only [fkO, Option.some.injEq, Prod.mk.injEq] at h
              obtain ⟨rfl, rfl⟩ := h
              have hs := Env.kill_stab E l
              obtain ⟨E', g1, g2, g3, g4, g5, g6⟩ := ih (E.kill l) (upd H l none) us' ws H2 (hR.kill l) (VReps.stab hs _ _ hus) hx
              refine ⟨E', g1, hs.trans g2, fun k hk => g3 k hk, g4, .cons ?_ g5, by simp [closeds, closed, hc, g6]⟩
              refine VRep.stab g2 _ _ ?_
              simp only [VRep] at hu ⊢
              obtain ⟨A, c0, _, g0, q1, q2, q3, q4⟩ := hu
              obtain ⟨p, hp, ho'⟩ := hR.live ho
              subst hm
              cases p with
              | none =>
                simp only [ORep] at ho'
                subst ho'
                exact ⟨[], A, c0, VReps.nil, g0, Nat.zero_le _, .inl rfl⟩
              | some q =>
                obtain ⟨b, c⟩ := q
                obtain ⟨rfl, rfl⟩ := q3 b c hp
                simp only [ORep] at ho'
                obtain ⟨cur, vs, h1, h2, h3, h4, h5, h6, h7⟩ := ho'
                refine ⟨vs, _, c0, h2.stab hs, g0, q2, ?_⟩
                by_cases hz : vs = []
                · exact .inl hz
                refine .inr ⟨b, 0, rfl, .inr ⟨c0, hp⟩, fun i u hu => ⟨(h3 u (List.mem_of_getElem? hu)).1, (h3 u (List.mem_of_getElem? hu)).2, fun j v hj => ?_⟩⟩
                show E.w.cell? _ = _
                rw [cell_of_row E.w b _ cur Ty (0, 0) h1]
                have e := x7f (fun u hu => (h3 u hu).1) hu j v hj
                rw [← h7, List.getElem?_take] at e
                split at e
                · simpa using e
                · cases e
          · simp [fkO] at h
    · split at h
      · exact plain x ‹_› hu h
      · cases h
theorem xq1 {T e : Nat} (ht : P.underlying T = some (.slice e)) (w : World) (A : Option Addr) (l c : Nat) : (Op.equalIn Op.maxDepth T (.slice A l c) (.slice none 0 0)).run P w = .ok A.isNone w := by
  show (Op.equalIn (9999 + 1) T (.slice A l c) (.slice none 0 0)).run P w = _
  unfold Op.equalIn
  cases A <;> simp [run_underlying ht]
theorem fk_nil (H : Nat → Option AO) : fk H [] = some ([], H) := _root_.id rfl
theorem fk_msl (H : Nat → Option AO) (l m : Nat) (xs : List AV) : fk H (.msl l m :: xs) = fkO (fkK m (H l)) (fk (upd H l none) xs) := _root_.id rfl
theorem fk_clo (H : Nat → Option AO) (x : AV) (xs : List AV) (h : closed x = true) : fk H (x :: xs) = fkO (some x) (fk H xs) := by
  cases x <;> first
    | (simp only [fk, h, if_true]; done)
    | (simp [closed] at h)
theorem x58 (m Ty sz : Nat) (ys : List AV) : fkK m (some (.row Ty sz ys)) = if m = ys.length ∧ closeds ys = true then some (.sl sz ys) else none := _root_.id rfl
theorem xc7 (x : AV) (xs : List AV) (H : Nat → Option AO) : fkO (some x) (some (xs, H)) = some (x :: xs, H) := _root_.id rfl
def TI (n : Nat) (J : AS → Prop) (s : AS) : Prop := ∃ s', Tn n s s' ∧ J s'
theorem TI.here {J : AS → Prop} {s : AS} (h : J s) : TI n J s := ⟨s, Tn.refl s, h⟩
theorem TI.by {J : AS → Prop} {s s' : AS} (h : Tn n s s') (k : TI n J s') : TI n J s := by
  obtain ⟨s'', h1, h2⟩ := k
  exact ⟨s'', h.trans h1, h2⟩
theorem xkx {x : AC} (I : Nat → AS → Prop) (k : Nat) (h0 : TI n (I k) s) (zero : ∀ s, ¬ I 0 s) (round : ∀ k s, I (k + 1) s → cwp P n x (seqQ (TI n (I k)) Q) s) : cwp P n (.loop x) Q s := by
  refine x6o (fun k => TI n (I k)) k h0 (fun s h => ?_) fun k s h => ?_
  · obtain ⟨s', _, h⟩ := h
    exact zero s' h
  · obtain ⟨s', h1, h2⟩ := h
    exact xcr h1 (round k s' h2)
def partO (off : Nat) : AV → Option AV
  | .agg cs => cs[off]?
  | _ => none
theorem xs1 (off : Nat) (cs : List AV) : partO off (.agg cs) = cs[off]? := _root_.id rfl
theorem xuu {T f o ft n : Nat} (h : xcb P T f = some (o, ft)) (h2 : aggN P ft = some (false, n)) (x : AV) : xzf P T f x = partO o x := by
  cases x <;> simp [xzf, h, partO, partOf, h2]
theorem xjs {c : Code} {Q' : Exit → AS → Prop} (h : awp P n c Q' s) (hq : ∀ e s, Q' e s → TI n (Q e) s) : awp P n c Q s := fun C E0 k0 E a hk hS =>
  wp_mono (h C E0 k0 E a hk hS) fun e a w ⟨s', E', h1, h2, h3, h4⟩ => by
    obtain ⟨s'', g1, g2⟩ := hq e s' h1
    obtain ⟨E'', k1, k2, k3⟩ := g1 C E0 k0 E' a h2 h3
    exact ⟨s'', E'', g2, k1, k2, k3.trans h4⟩
theorem xqs {x rest : AC} (l : Nat) (I : Nat → AS → Prop) (hf : findA x l = some rest) (zero : ∀ s, ¬ I 0 s)
    (first : cwp P n x (jumpQ l (fun s => ∃ k, TI n (I k) s) Q) s) (pass : ∀ k s, I (k + 1) s → cwp P n rest (jumpQ l (TI n (I k)) Q) s) : cwp P n (.scope x) Q s := by
  classical
  have hz : ∀ s, ¬ TI n (I 0) s := fun s ⟨s', _, h⟩ => zero s' h
  refine xu2 l (fun s => ∃ k, TI n (I k) s) (fun s => if h : ∃ k, TI n (I k) s then Classical.choose (xyb h) else 0) hf first ?_
  intro s hs
  have hm := Classical.choose_spec (xyb hs)
  simp only [dif_pos hs]
  generalize Classical.choose (xyb hs) = m at hm
  cases m with
  | zero => exact absurd hm.1 (hz s)
  | succ m =>
    obtain ⟨s', h1, h2⟩ := hm.1
    refine xcc (xcr h1 (pass m s' h2)) ?_
    intro e s'' hq
    cases e with
    | goto l' =>
      obtain ⟨g1, g2⟩ := hq
      have hex : ∃ k, TI n (I k) s'' := ⟨m, g2⟩
      refine ⟨g1, hex, ?_⟩
      simp only [dif_pos hex]
      have := (Classical.choose_spec (xyb hex)).2 m g2
      omega
    | _ => exact hq
theorem xoz {a b : AC} (l : Nat) (I : Nat → AS → Prop) (k : Nat) (hf : findA (.seq a (.seq (.label l) b)) l = some (.seq .skip b)) (zero : ∀ s, ¬ I 0 s)
    (pre : ∀ K : AS → Prop, (∀ s, TI n (I (k + 1)) s → K s) → cwp P n a (seqQ K (jumpQ l (fun _ => False) Q)) s)
    (pass : ∀ k s, I (k + 1) s → cwp P n b (jumpQ l (TI n (I k)) Q) s) : cwp P n (.scope (.seq a (.seq (.label l) b))) Q s := by
  have skipb : ∀ (Q' : Exit → AS → Prop) (s : AS), cwp P n b Q' s → cwp P n (.seq .skip b) Q' s := fun Q' s h => x4i fun K hK => xjm (hK s h)
  refine xqs l I hf zero ?_ (fun k s h => skipb _ _ (pass k s h))
  refine x4i fun K hK => ?_
  refine xcc (pre K fun s hs => hK s ?_) ?_
  · obtain ⟨s', h1, h2⟩ := hs
    refine x4i fun K2 hK2 => xgj (hK2 s (xcr h1 (xcc (pass k s' h2) ?_)))
    intro e s'' hq
    cases e with
    | goto l' => exact ⟨hq.1, k, hq.2⟩
    | _ => exact hq
  · intro e s' hq
    cases e with
    | goto l' => exact hq.2.elim
    | _ => exact hq
def nmQ (J : AS → Prop) (Q : Exit → AS → Prop) : Exit → AS → Prop
  | .normal, s => J s
  | e, s => Q e s
theorem x94 {x : AC} (J : AS → Prop) (h : cwp P n x (nmQ (TI n J) Q) s) (k : ∀ s, J s → Q .normal s) : cwp P n x Q s := fun c hc => by
  refine xjs (h c hc) fun e s hs => ?_
  cases e with
  | normal =>
    obtain ⟨s', h1, h2⟩ := hs
    exact ⟨s', h1, k s' h2⟩
  | exit i => exact TI.here hs
  | ret => exact TI.here hs
  | goto _ => exact TI.here hs
  | panic _ => exact TI.here hs
  | outgrown => exact TI.here hs
theorem xf7 (J : AS → Prop) : nmQ J Q .normal s = J s := _root_.id rfl
theorem x76 (l : Nat) (J : AS → Prop) : jumpQ l J Q .normal s = Q .normal s := _root_.id rfl
theorem L_goto (l : Nat) (J : AS → Prop) : jumpQ l J Q (.goto l) s = J s := by simp [jumpQ]
def exQ (id : Nat) (J : AS → Prop) (Q : Exit → AS → Prop) : Exit → AS → Prop
  | .exit i, s => if i = id then J s else Q (.exit i) s
  | e, s => Q e s
theorem xv9 {x : AC} (id : Nat) (J : AS → Prop) (h : cwp P n x (exQ id (TI n J) Q) s) (k : ∀ s, J s → Q (.exit id) s) : cwp P n x Q s := fun c hc => by
  refine xjs (h c hc) fun e s hs => ?_
  cases e with
  | exit i =>
    simp only [exQ] at hs
    split at hs
    · rename_i e
      subst e
      obtain ⟨s', h1, h2⟩ := hs
      exact ⟨s', h1, k s' h2⟩
    · exact TI.here hs
  | normal => exact TI.here hs
  | ret => exact TI.here hs
  | goto _ => exact TI.here hs
  | panic _ => exact TI.here hs
  | outgrown => exact TI.here hs
theorem xp7 (id i : Nat) (J : AS → Prop) : exQ id J Q (.exit i) s = if i = id then J s else Q (.exit i) s := _root_.id rfl
theorem X_ret (id : Nat) (J : AS → Prop) : exQ id J Q .ret s = Q .ret s := _root_.id rfl
end
def ixB (s : ByteArray) (n : Int) : Option UInt8 := if 0 ≤ n then s[n.toNat]? else none
theorem x7w {s : ByteArray} {n : Int} {x : UInt8} (h : ixB s n = some x) : 0 ≤ n ∧ s[n.toNat]? = some x := by
  unfold ixB at h
  split at h
  · exact ⟨‹_›, h⟩
  · cases h
theorem xtz {s : ByteArray} {n : Int} {x : UInt8} (h : ixB s n = some x) : (0 ≤ n) = True := eq_true (x7w h).1
def idxM {α : Type} (p : α → Option Bool) : List α → Nat → Option Int
  | [], _ => some (-1)
  | x :: xs, i => (p x).bind fun b => if b = true then some (i : Int) else idxM p xs (i + 1)
def indexM {α : Type} (p : α → Option Bool) (l : List α) : Option Int := (ck (l.length < 9223372036854775807)).bind fun _ => idxM p l 0
def x6g {α : Type} (p : α → Option Bool) (l : List α) : Option Bool := (indexM p l).bind fun i => some (decide (0 ≤ i))
def kI (k : IntKind) (p : Int × Int) : Value := .int k p.1
def mget (m : List (Int × Int)) (k : Int) : Int := match m.find? (fun p => k == p.1) with
  | some p => p.2
  | none => 0
def mset : List (Int × Int) → Int → Int → List (Int × Int)
  | [], k, v => [(k, v)]
  | p :: m, k, v => if k = p.1 then (p.1, v) :: m else p :: mset m k v
theorem mkeys (k : IntKind) (m : List (Int × Int)) : (m.map (kI k)).all (isKeyB (.int k)) = true := by
  induction m with
  | nil => rfl
  | cons p m ih => simp [kI, isKeyB] at ih ⊢; 
def lookI (z : AV) (vs : List AV) : Option Nat → Option AV
  | some j => (vs[j]?).map fun v => xoe false v true
  | none => some (xoe false z false)
theorem x6w (k : IntKind) (n : Int) : ∀ m : List (Int × Int), lookI (.val (.int k 0)) (m.map fun p => .val (.int k p.2)) ((m.map (kI k)).findIdx? (keyEq (.int k n))) = some (.val (.int k (mget m n)))
  | [] => rfl
  | p :: m => by
    have ih := x6w k n m
    have hk : keyEq (.int k n) (kI k p) = (n == p.1) := rfl
    simp only [List.map_cons, List.findIdx?_cons, hk]
    by_cases h : n = p.1
    · simp [h, lookI, xoe, mget]
    · have hb : (n == p.1) = false := by simpa using h
      simp only [hb, Bool.false_eq_true, if_false]
      have hm : mget (p :: m) n = mget m n := by simp [mget, List.find?_cons, hb]
      rw [hm, ← ih]
      cases (m.map (kI k)).findIdx? (keyEq (.int k n)) <;> simp [lookI]
theorem xq4 (k : IntKind) (m : List (Int × Int)) (n : Int) : lookK false (.int k) (some (.val (.int k 0))) (.int k n) (some (.map (m.map (kI k)) (m.map fun p => .val (.int k p.2)))) = some (.val (.int k (mget m n))) := by
  have h := x6w k n m
  have h2 : isKeyB (.int k) (.int k n) = true := by simp [isKeyB]
  have h3 := mkeys k m
  simp only [lookK]
  rw [if_pos ⟨h2, h3⟩, ← h]
  cases (m.map (kI k)).findIdx? (keyEq (.int k n)) <;> rfl
def mupdI (kv : Value) (x : AV) (ks : List Value) (vs : List AV) : Option Nat → List Value × List AV
  | some j => (ks, vs.set j x)
  | none => (ks ++ [kv], vs ++ [x])
theorem x3v (k : IntKind) (n x : Int) : ∀ m : List (Int × Int), mupdI (.int k n) (.val (.int k x)) (m.map (kI k)) (m.map fun p => .val (.int k p.2)) ((m.map (kI k)).findIdx? (keyEq (.int k n))) = ((mset m n x).map (kI k), (mset m n x).map fun p => .val (.int k p.2))
  | [] => rfl
  | p :: m => by
    have ih := x3v k n x m
    have hk : keyEq (.int k n) (kI k p) = (n == p.1) := rfl
    simp only [List.map_cons, List.findIdx?_cons, hk]
    by_cases h : n = p.1
    · simp [h, mupdI, mset, kI]
    · have hb : (n == p.1) = false := by simpa using h
      simp only [hb, Bool.false_eq_true, if_false, mset, h]
      cases hf : (m.map (kI k)).findIdx? (keyEq (.int k n)) with
      | none =>
        rw [hf] at ih
        simp only [mupdI, Prod.mk.injEq] at ih
        simp only [Option.map_none, mupdI, List.cons_append, List.map_cons, Prod.mk.injEq]
        exact ⟨by rw [ih.1], by rw [ih.2]⟩
      | some j =>
        rw [hf] at ih
        simp only [mupdI, Prod.mk.injEq] at ih
        simp only [Option.map_some, mupdI, List.set_cons_succ, List.map_cons, Prod.mk.injEq]
        exact ⟨by rw [← ih.1], by rw [ih.2]⟩
theorem x84 (k : IntKind) (m : List (Int × Int)) (n x : Int) (l : Nat) : mupdK (.int k) (.int k n) (.val (.int k x)) l (some (.map (m.map (kI k)) (m.map fun p => .val (.int k p.2)))) = some [(l, some (.map ((mset m n x).map (kI k)) ((mset m n x).map fun p => .val (.int k p.2))))] := by
  have h := x3v k n x m
  have h2 : isKeyB (.int k) (.int k n) = true := by simp [isKeyB]
  have h3 := mkeys k m
  simp only [mupdK]
  rw [if_pos ⟨h2, h3⟩]
  cases hf : (m.map (kI k)).findIdx? (keyEq (.int k n)) with
  | none =>
    rw [hf] at h
    simp only [mupdI, Prod.mk.injEq] at h
    rw [h.1, h.2]
  | some j =>
    rw [hf] at h
    simp only [mupdI, Prod.mk.injEq] at h
    show some [(l, some (AO.map (m.map (kI k)) ((m.map fun p => .val (.int k p.2)).set j (.val (.int k x)))))] = _
    rw [← h.1, h.2]
theorem xj9 (a b : Bool) : stAV (.val (.bool a)) 0 (.val (.bool b)) = some (.val (.bool b)) := _root_.id rfl
theorem s0_nil (x : AV) (h : x.one = true) : stAV nilS 0 x = some x := by cases x <;> simp_all [stAV, AV.one, Value.oneCell']
theorem xc9 (cs : List AV) (off s v : Nat) : stAV (.agg cs) off (.msl s v) = if off + 1 ≤ cs.length then some (.agg (cs.set off (.msl s v))) else none := _root_.id rfl
theorem z_tb (m n : Nat) : Nat.testBit m n = (1 &&& (m >>> n) != 0) := _root_.id rfl
theorem z_bne (n : Nat) : (n != n) = false := bne_self_eq_false n
theorem z_subl (k n m : Nat) : (k + n) - (k + m) = n - m := Nat.add_sub_add_left k n m
theorem z_btt : (true == true) = true := _root_.id rfl
theorem z_btf : (true == false) = false := _root_.id rfl
theorem z_bft : (false == true) = false := _root_.id rfl
theorem z_bff : (false == false) = true := _root_.id rfl
theorem x05 {P : Program} {T : TypeId} (h : kindOf P T = .bool) (a b : Bool) : binK P .eql T (bool a) (bool b) = brR (a == b) := by
  have ht : P.underlying T = some .bool := by
    unfold kindOf at h
    split at h <;> first
      | assumption
      | cases h
  simp [binK, x0b, evalEq, ht, brR]
section
variable (P : Program) (V : Nat → Option AO)
def oldK (l m e sz : Nat) (o : Option AO) : Option (Option Nat × List AV) := match o with
  | some (.row T s xs) => if s = sz ∧ m = xs.length ∧ T = e then some (some l, xs) else none
  | _ => none
def newK (m sz : Nat) (o : Option AO) : Option (List AV) := match o with
  | some (.row _ s ys) => if s = sz ∧ m = ys.length then some ys else none
  | _ => none
theorem xy6 (l m e sz : Nat) : oldsOf V (.msl l m) e sz = oldK l m e sz (V l) := by
  simp only [oldsOf, oldK]
  cases V l with
  | none => rfl
  | some o => cases o <;> rfl
theorem xg7 (l m e sz T s : Nat) (xs : List AV) : oldK l m e sz (some (.row T s xs)) = if s = sz ∧ m = xs.length ∧ T = e then some (some l, xs) else none := _root_.id rfl
theorem xl6 (l m sz : Nat) : newsOf V (.msl l m) sz = newK m sz (V l) := by
  simp only [newsOf, newK]
  cases V l with
  | none => rfl
  | some o => cases o <;> rfl
theorem xx4 (m sz T s : Nat) (ys : List AV) : newK m sz (some (.row T s ys)) = if s = sz ∧ m = ys.length then some ys else none := _root_.id rfl
theorem xi9 (s sz : Nat) (ys : List AV) : newsOf V (.sl s ys) sz = if s = sz then some ys else none := _root_.id rfl
def appK (by_ e sz new : Nat) : Option (Option Nat × List AV) → Option (List AV) → Option (AV × Upds)
  | some (ol, xs), some ys => if (xs.length + ys.length) * by_ ≤ 140737488355328 ∧ xs.length + ys.length ≤ 9223372036854775807 then some (.msl new (xs.length + ys.length), killU ol ++ [(new, some (.row e sz (xs ++ ys)))]) else none
  | _, _ => none
theorem xnp {t e sz by_ : Nat} {b : Bool} {z : AV} (h1 : xfb P t = some e) (h2 : aggN P e = some (b, sz)) (h3 : xaf P e = some by_) (h4 : zeroOf P e = some z) (h5 : xi z sz = true) (s x : AV) (new : Nat) :
    x0e P t V s x new = appK by_ e sz new (oldsOf V s e sz) (newsOf V x sz) := by
  simp only [x0e, x8e, h1, h2, h3, h4, h5, and_true]
  cases oldsOf V s e sz with
  | none => rfl
  | some p =>
    cases newsOf V x sz with
    | none => rfl
    | some ys => rfl
theorem xn3 (by_ e sz new : Nat) (ol : Option Nat) (xs ys : List AV) : appK by_ e sz new (some (ol, xs)) (some ys) = if (xs.length + ys.length) * by_ ≤ 140737488355328 ∧ xs.length + ys.length ≤ 9223372036854775807 then some (.msl new (xs.length + ys.length), killU ol ++ [(new, some (.row e sz (xs ++ ys)))]) else none := _root_.id rfl
theorem xiz (l : Nat) : killU (some l) = [(l, none)] := _root_.id rfl
theorem x8w {T e sz by_ : Nat} {b : Bool} {z : AV} (h1 : xfb P T = some e) (h2 : aggN P e = some (b, sz)) (h3 : xaf P e = some by_) (h4 : zeroOf P e = some z) (h5 : xi z sz = true) (ka kb : IntKind) (a c : Int) (new : Nat) :
    xmd P T (.val (.int ka a)) (.val (.int kb c)) new = if 0 ≤ a ∧ a ≤ c ∧ (by_ : Int) * c ≤ 281474976710656 ∧ c ≤ 9223372036854775807 then some (.msl new a.toNat, [(new, some (.row e sz (List.replicate a.toNat z)))]) else none := by
  simp only [xmd, h1, h2, h3, h4, h5, and_true]
theorem xl3 (sz : Nat) (xs : List AV) : setsA sz xs [] = some xs := _root_.id rfl
theorem xyz (sz : Nat) (xs : List AV) (i : Nat) (x : AV) (ps : List (Nat × AV)) : setsA sz xs ((i, x) :: ps) = if xi x sz = true ∧ i < xs.length then setsA sz (xs.set i x) ps else none := by
  rfl
end
end Go.Proofs.YtefdlpandfhcgaaGreatDoor.AL

