/- A law of the given program is proved: part 22 of 47. -/
import Derived.IntWalk
import Derived.Test.YtjmnoaoeediodaaDoorC21
set_option linter.all false
/- Models: the words in which the models of the program's functions are written (gen.py writes these). -/
set_option linter.unusedSimpArgs false
set_option linter.unusedVariables false
namespace Go.Proofs.YtjmnoaoeediodaaDoor.AL
abbrev wr (n : Int) : Int := IntKind.i64.wrap n
theorem wr_in {n : Int} (h1 : -9223372036854775808 ≤ n) (h2 : n < 9223372036854775808) : wr n = n := Go.IntWalk.i64_in n (by omega)
def ix {α : Type} (xs : List α) (n : Int) : Option α := if 0 ≤ n then xs[n.toNat]? else none
def ap {α : Type} (k : Nat) (xs ys : List α) : Option (List α) := if (xs.length + ys.length) * k ≤ 140737488355328 ∧ xs.length + ys.length ≤ 9223372036854775807 then some (xs ++ ys) else none
def ck (p : Prop) [Decidable p] : Option Unit := if p then some () else none
inductive St (σ ρ : Type) where
  | nx (s : σ)
  | out (r : ρ)
def iter {σ ρ : Type} (B : σ → Option (St σ ρ)) : Nat → σ → Option ρ
  | 0, _ => none
  | k + 1, s => (B s).bind fun
    | .nx s' => iter B k s'
    | .out r => some r
def big : Nat := 1000000000000000000
theorem xfw {σ ρ : Type} (B : σ → Option (St σ ρ)) (s : σ) : iter B 0 s = none := rfl
theorem xt {σ ρ : Type} (B : σ → Option (St σ ρ)) (k : Nat) (s : σ) : iter B (k + 1) s = (B s).bind fun
    | .nx s' => iter B k s'
    | .out r => some r := rfl
theorem x4p {α : Type} {xs : List α} {n : Int} {x : α} (h : ix xs n = some x) : 0 ≤ n ∧ xs[n.toNat]? = some x := by
  unfold ix at h
  split at h
  · exact ⟨‹_›, h⟩
  · cases h
theorem ix_enc {α β : Type} (f : α → β) {xs : List α} {n : Int} {x : α} (h : ix xs n = some x) : (xs.map f)[n.toNat]? = some (f x) := by
  rw [List.getElem?_map, (x4p h).2]; rfl
theorem ix_lt {α : Type} {xs : List α} {n : Int} {x : α} (h : ix xs n = some x) : n < xs.length := by
  obtain ⟨h1, h2⟩ := x4p h
  have := (List.getElem?_eq_some_iff.1 h2).1
  omega
theorem xcx {α : Type} {xs : List α} {n : Int} {x : α} (h : ix xs n = some x) : 0 ≤ n := (x4p h).1
theorem xi1 {α : Type} {k : Nat} {xs ys zs : List α} (h : ap k xs ys = some zs) : zs = xs ++ ys ∧ (xs.length + ys.length) * k ≤ 140737488355328 ∧ xs.length + ys.length ≤ 9223372036854775807 := by
  unfold ap at h
  split at h
  · injection h with h
    exact ⟨h.symm, ‹_›⟩
  · cases h
theorem x90 {p : Prop} [Decidable p] {u : Unit} (h : ck p = some u) : p := by
  unfold ck at h
  split at h
  · assumption
  · cases h
theorem xjz {α β : Type} (f : α → β) (l : List α) (a : α) : l.map f ++ [f a] = (l ++ [a]).map f := by simp
section
variable {α β : Type}
theorem xln (f : α → β) (a : α) : (some a).map f = some (f a) := _root_.id rfl
theorem x9o (a : α) (l : List α) : (a :: l).length = l.length + 1 := _root_.id rfl
theorem x1q : ([] : List α).length = 0 := _root_.id rfl
theorem xcv (a : α) (l : List α) : (a :: l)[0]? = some a := _root_.id rfl
theorem x3u (a : α) (l : List α) (i : Nat) : (a :: l)[i + 1]? = l[i]? := _root_.id rfl
theorem x4t (a d : α) (l : List α) : (a :: l).getD 0 d = a := _root_.id rfl
theorem xat (a d : α) (l : List α) (i : Nat) : (a :: l).getD (i + 1) d = l.getD i d := _root_.id rfl
theorem xfv (a b : α) (l : List α) : (a :: l).set 0 b = b :: l := _root_.id rfl
theorem xgv (a b : α) (l : List α) (i : Nat) : (a :: l).set (i + 1) b = a :: l.set i b := _root_.id rfl
theorem xvv (f : α → β) (a : α) (l : List α) : (a :: l).map f = f a :: l.map f := _root_.id rfl
theorem xux (f : α → β) : ([] : List α).map f = [] := _root_.id rfl
theorem xlt (a : α) (l : List α) (i : Nat) : (a :: l).take (i + 1) = a :: l.take i := _root_.id rfl
theorem x1t (l : List α) : l.take 0 = [] := _root_.id rfl
theorem xwt (a : α) (l : List α) (i : Nat) : (a :: l).drop (i + 1) = l.drop i := _root_.id rfl
theorem xht (l : List α) : l.drop 0 = l := _root_.id rfl
theorem xvu (a : α) (l m : List α) : a :: l ++ m = a :: (l ++ m) := _root_.id rfl
theorem xnx (l : List α) : [] ++ l = l := _root_.id rfl
theorem xtx (l : List α) : l ++ [] = l := List.append_nil l
theorem x0u (i : Nat) : ([] : List α).drop i = [] := List.drop_nil
theorem xfq (f : α → β) (l : List α) : (l.map f).length = l.length := List.length_map _
theorem x3q (l m : List α) : (l ++ m).length = l.length + m.length := List.length_append
theorem x0v (n : Nat) (a : α) : List.replicate (n + 1) a = a :: List.replicate n a := _root_.id rfl
theorem x2u (a : α) : List.replicate 0 a = [] := _root_.id rfl
theorem x9w (n : Nat) : (n == n) = true := beq_self_eq_true n
end
theorem xcs (v : Value) : closed (.val v) = true := _root_.id rfl
theorem x5t (s : Nat) (xs : List AV) : closed (.sl s xs) = closeds xs := _root_.id rfl
theorem xls (xs : List AV) : closed (.agg xs) = closeds xs := _root_.id rfl
theorem x5s (xs : List AV) : closed (.tup xs) = closeds xs := _root_.id rfl
theorem x6q : closeds [] = true := _root_.id rfl
theorem x6p (x : AV) (xs : List AV) : closeds (x :: xs) = (closed x && closeds xs) := _root_.id rfl
section
variable {P : Program} {n : Nat} {Q : Exit → AS → Prop} {s : AS}
theorem xkw {x : AC} (I : Nat → AS → Prop) (k : Nat) (h0 : I k s) (zero : ∀ s, ¬ I 0 s) (round : ∀ k s, I (k + 1) s → cwp P n x (seqQ (I k) Q) s) : cwp P n (.loop x) Q s := by
  classical
  refine xay (fun s => ∃ k, I k s) (fun s => if h : ∃ k, I k s then Classical.choose (xid h) else 0) ⟨k, h0⟩ ?_
  intro s hs
  have hm := Classical.choose_spec (xid hs)
  simp only [dif_pos hs]
  generalize Classical.choose (xid hs) = m at hm
  cases m with
  | zero => exact absurd hm.1 (zero s)
  | succ m =>
    refine x6n (round m s hm.1) ?_
    intro e s' hq
    cases e with
    | normal =>
      have hex : ∃ k, I k s' := ⟨m, hq⟩
      refine ⟨hex, ?_⟩
      simp only [dif_pos hex]
      have := (Classical.choose_spec (xid hex)).2 m hq
      omega
    | _ => exact hq
def Tn (n : Nat) (s s' : AS) : Prop := ∀ (C : Ctx) (E0 : Env) (k0 : Nat) (E : Env) (a : Act), k0 ≤ s.nx → SR C E0 k0 n s a E → ∃ E', k0 ≤ s'.nx ∧ SR C E0 k0 n s' a E' ∧ E'.w = E.w
theorem Tn.refl (s : AS) : Tn n s s := fun _ _ _ E _ hk h => ⟨E, hk, h, rfl⟩
theorem Tn.trans {s t u : AS} (h : Tn n s t) (k : Tn n t u) : Tn n s u := fun C E0 k0 E a hk hS => by
  obtain ⟨E', h1, h2, h3⟩ := h C E0 k0 E a hk hS
  obtain ⟨E'', g1, g2, g3⟩ := k C E0 k0 E' a h1 h2
  exact ⟨E'', g1, g2, g3.trans h3⟩
theorem xny {c : Code} {s' : AS} (hs : Tn n s s') (h : awp P n c Q s') : awp P n c Q s := by
  intro C E0 k0 E a hk hS
  obtain ⟨E', h1, h2, h3⟩ := hs C E0 k0 E a hk hS
  rw [← h3]
  exact h C E0 k0 E' a h1 h2
theorem xe0 {c : AC} {s' : AS} (hs : Tn n s s') (h : cwp P n c Q s') : cwp P n c Q s := fun c' hc => xny hs (h c' hc)
theorem Tn.adopt {T : Nat → AV} {H : Nat → Option AO} {nx : Nat} (t Ty sz : Nat) (ht : T t = nilS) : Tn n ⟨T, H, nx⟩ ⟨upd T t (.msl nx 0), upd H nx (some (.row Ty sz [])), nx + 1⟩ := by
  intro C E0 k0 E a hk hS
  have hn : ¬ E.K nx := fun k => by have := hS.bound _ k; simp at this
  refine ⟨E.adopt nx, by show k0 ≤ nx + 1; simp at hk; omega, ⟨hS.heap.adopt hn Ty sz, hS.stab.trans (Env.adopt_stab hn), ?_, ?_, hS.size, hS.defers, ?_⟩, rfl⟩
  · intro l hl
    rcases hl with hl | hl
    · have := hS.bound l hl; show l < nx + 1; simp at this; omega
    · show l < nx + 1; omega
  · intro l hl
    rcases hl with hl | hl
    · exact hS.fresh l hl
    · exact .inr (by simp at hk; omega)
  · intro u
    have hu := (hS.tmps u).stab (Env.adopt_stab hn)
    simp only [upd_at]
    split
    · rename_i e
      subst e
      simp only [ht] at hu
      simp only [VRep] at hu ⊢
      refine ⟨none, 0, .inr rfl, hu, fun h => absurd h (by omega), Nat.le_refl _, fun b c e => ?_, fun _ => by simp⟩
      simp [Env.adopt] at e
    · exact hu
theorem Tn.slot {T : Nat → AV} {H : Nat → Option AO} {nx : Nat} (t : Nat) (y : AV) (h : Sub (T t) y) : Tn n ⟨T, H, nx⟩ ⟨upd T t y, H, nx⟩ := by
  intro C E0 k0 E a hk hS
  refine ⟨E, hk, ⟨hS.heap, hS.stab, hS.bound, hS.fresh, hS.size, hS.defers, ?_⟩, rfl⟩
  intro u
  have hu := hS.tmps u
  simp only [upd_at]
  split
  · rename_i e
    subst e
    exact h _ _ hu
  · exact hu
theorem Tn.row {T : Nat → AV} {H : Nat → Option AO} {nx : Nat} (l Ty sz : Nat) (xs ys : List AV) (hl : H l = some (.row Ty sz xs)) (h : Subs xs ys) : Tn n ⟨T, H, nx⟩ ⟨T, upd H l (some (.row Ty sz ys)), nx⟩ := by
  intro C E0 k0 E a hk hS
  refine ⟨E, hk, ⟨{ below := hS.heap.below, base := hS.heap.base, zlt := hS.heap.zlt, zlive := hS.heap.zlive, zsrc := hS.heap.zsrc, known := hS.heap.known, inj := hS.heap.inj, old := hS.heap.old, dom := ?_, obj := ?_ }, hS.stab, hS.bound, hS.fresh, hS.size, hS.defers, hS.tmps⟩, rfl⟩
  · intro k
    have := hS.heap.dom k
    simp only [upd_at]
    split
    · rename_i e
      subst e
      simp only [hl] at this
      rw [← this]
      rfl
    · exact this
  · intro k o p e e'
    simp only [upd_at] at e
    split at e
    · rename_i ek
      subst ek
      injection e with e
      subst e
      have ho := hS.heap.obj k _ p hl e'
      cases p with
      | none =>
        simp only [ORep] at ho ⊢
        subst ho
        have := Subs.length h E [] VReps.nil
        exact List.eq_nil_of_length_eq_zero (by simpa using this.symm)
      | some q =>
        obtain ⟨b, c⟩ := q
        simp only [ORep] at ho ⊢
        obtain ⟨cur, us, h1, h2, h3, h4, h5, h6, h7⟩ := ho
        have hlen := Subs.length h E us h2
        exact ⟨cur, us, h1, h _ _ h2, h3, by rw [← hlen]; exact h4, h5, h6, by rw [← hlen]; exact h7⟩
    · exact hS.heap.obj k o p e e'
theorem VReps.set1 {E : Env} : ∀ {cs : List AV} {us : List Value} (j : Nat) {x : AV}, VReps E cs us → (∀ u, us[j]? = some u → VRep E x u) → VReps E (cs.set j x) us
  | [], us, j, x, h, _ => by simpa using h
  | c :: cs, us, 0, x, h, hx => by
    simp only [VReps] at h
    obtain ⟨u, us', h1, h2, rfl⟩ := h
    exact .cons (hx u rfl) h2
  | c :: cs, us, j + 1, x, h, hx => by
    simp only [VReps] at h
    obtain ⟨u, us', h1, h2, rfl⟩ := h
    exact .cons h1 (VReps.set1 j h2 (fun v hv => hx v (by simpa using hv)))
theorem Tn.adoptC {T : Nat → AV} {H : Nat → Option AO} {nx : Nat} (l j Ty sz Te se : Nat) (cs : List AV) (hl : H l = some (.row Ty sz [.agg cs])) (hj : cs[j]? = some nilS) :
    Tn n ⟨T, H, nx⟩ ⟨T, upd (upd H nx (some (.row Te se []))) l (some (.row Ty sz [.agg (cs.set j (.msl nx 0))])), nx + 1⟩ := by
  intro C E0 k0 E a hk hS
  have hn : ¬ E.K nx := fun k => by have := hS.bound _ k; simp at this
  have hst := Env.adopt_stab hn
  have hA := hS.heap.adopt hn Te se
  have hne : l ≠ nx := by
    intro e
    subst e
    have h1 := hS.heap.dom l
    simp only [hl] at h1
    cases hL : E.L l with
    | none => rw [hL] at h1; cases h1
    | some x => exact hn (hS.heap.known l x hL)
  refine ⟨E.adopt nx, by show k0 ≤ nx + 1; simp at hk; omega, ⟨{ below := hA.below, base := hA.base, zlt := hA.zlt, zlive := hA.zlive, zsrc := hA.zsrc, known := hA.known, inj := hA.inj, old := hA.old, dom := ?_, obj := ?_ }, hS.stab.trans hst, ?_, ?_, hS.size, hS.defers, fun t => (hS.tmps t).stab hst⟩, rfl⟩
  · intro k
    have := hA.dom k
    simp only [upd_at] at this ⊢
    split
    · rename_i e
      subst e
      rw [if_neg hne, hl] at this
      rw [← this]; rfl
    · exact this
  · intro k o p e e'
    simp only [upd_at] at e
    split at e
    · rename_i ek
      subst ek
      injection e with e
      subst e
      have ho := hA.obj k (.row Ty sz [.agg cs]) p (by simp only [upd_at]; rw [if_neg hne]; exact hl) e'
      cases p with
      | none => simp only [ORep] at ho; cases ho
      | some q =>
        obtain ⟨b, c⟩ := q
        simp only [ORep] at ho ⊢
        obtain ⟨cur, us, h1, h2, h3⟩ := ho
        refine ⟨cur, us, h1, ?_, h3⟩
        simp only [VReps, VRep] at h2 ⊢
        obtain ⟨u, us', ⟨vs, g1, rfl⟩, g2, rfl⟩ := h2
        refine ⟨_, us', ⟨vs, ?_, rfl⟩, g2, rfl⟩
        refine VReps.set1 j g1 fun u hu => ?_
        obtain ⟨x, hx, hr⟩ := g1.get' j u hu
        rw [hj] at hx
        injection hx with hx
        subst hx
        simp only [VRep] at hr ⊢
        refine ⟨none, 0, .inr rfl, hr, fun h => absurd h (by omega), Nat.le_refl _, fun b c e => ?_, fun _ => by simp⟩
        simp [Env.adopt] at e
    · exact hA.obj k o p (by simp only [upd_at]; exact e) e'
  · intro l hl
    rcases hl with hl | hl
    · have := hS.bound l hl; show l < nx + 1; simp at this; omega
    · show l < nx + 1; omega
  · intro l hl
    rcases hl with hl | hl
    · exact hS.fresh l hl
    · exact .inr (by simp at hk; omega)
theorem Tn.freeze {T : Nat → AV} {H : Nat → Option AO} {nx : Nat} (t l m : Nat) (Ty sz : Nat) (xs : List AV) (ht : T t = .msl l m) (hl : H l = some (.row Ty sz xs)) (hm : m = xs.length) :
    Tn n ⟨T, H, nx⟩ ⟨upd T t (.sl sz xs), upd H l none, nx⟩ := by
  intro C E0 k0 E a hk hS
  have hs := Env.kill_stab E l
  refine ⟨E.kill l, hk, ⟨hS.heap.kill l, hS.stab.trans hs, fun k hk => hS.bound k hk, fun k hk => hS.fresh k hk, hS.size, hS.defers, ?_⟩, rfl⟩
  intro u
  have hu := hS.tmps u
  simp only [upd_at]
  split
  · rename_i e
    subst e
    simp only [ht, VRep] at hu
    simp only [VRep]
    obtain ⟨A, c0, _, g0, g1, g2, g3, g4⟩ := hu
    obtain ⟨p, hp, ho⟩ := hS.heap.live hl
    subst hm
    cases p with
    | none =>
      simp only [ORep] at ho
      subst ho
      exact ⟨[], A, c0, VReps.nil, g0, Nat.zero_le _, .inl rfl⟩
    | some q =>
      obtain ⟨b, c⟩ := q
      obtain ⟨rfl, rfl⟩ := g3 b c hp
      have ho' := ho
      simp only [ORep] at ho
      obtain ⟨cur, us, h1, h2, h3, h4, h5, h6, h7⟩ := ho
      refine ⟨us, _, c0, h2.stab hs, g0, g2, ?_⟩
      by_cases hz : us = []
      · exact .inl hz
      refine .inr ⟨b, 0, rfl, .inr ⟨c0, hp⟩, fun i u hu => ⟨(h3 u (List.mem_of_getElem? hu)).1, (h3 u (List.mem_of_getElem? hu)).2, fun j v hj => ?_⟩⟩
      show E.w.cell? _ = _
      rw [cell_of_row E.w b _ cur Ty (0, 0) h1]
      have e := xdg (fun u hu => (h3 u hu).1) hu j v hj
      rw [← h7, List.getElem?_take] at e
      split at e
      · simpa using e
      · cases e
  · exact hu.stab hs
def fkK (m : Nat) (o : Option AO) : Option AV := match o with
  | some (.row _ sz ys) => if m = ys.length ∧ closeds ys = true then some (.sl sz ys) else none
  | _ => none
def fkO (a : Option AV) (b : Option (List AV × (Nat → Option AO))) : Option (List AV × (Nat → Option AO)) := match a, b with
  | some x, some (xs, H) => some (x :: xs, H)
  | _, _ => none
def fk (H : Nat → Option AO) : List AV → Option (List AV × (Nat → Option AO))
  | [] => some ([], H)
  | x :: xs => match x with
    | .msl l m => fkO (fkK m (H l)) (fk (upd H l none) xs)
    | x => if closed x = true then fkO (some x) (fk H xs) else none
def TI (n : Nat) (J : AS → Prop) (s : AS) : Prop := ∃ s', Tn n s s' ∧ J s'
theorem TI.here {J : AS → Prop} {s : AS} (h : J s) : TI n J s := ⟨s, Tn.refl s, h⟩
theorem TI.by {J : AS → Prop} {s s' : AS} (h : Tn n s s') (k : TI n J s') : TI n J s := by
  obtain ⟨s'', h1, h2⟩ := k
  exact ⟨s'', h.trans h1, h2⟩
theorem xaz {x : AC} (I : Nat → AS → Prop) (k : Nat) (h0 : TI n (I k) s) (zero : ∀ s, ¬ I 0 s) (round : ∀ k s, I (k + 1) s → cwp P n x (seqQ (TI n (I k)) Q) s) : cwp P n (.loop x) Q s := by
  refine xkw (fun k => TI n (I k)) k h0 (fun s h => ?_) fun k s h => ?_
  · obtain ⟨s', _, h⟩ := h
    exact zero s' h
  · obtain ⟨s', h1, h2⟩ := h
    exact xe0 h1 (round k s' h2)
theorem xzu {c : Code} {Q' : Exit → AS → Prop} (h : awp P n c Q' s) (hq : ∀ e s, Q' e s → TI n (Q e) s) : awp P n c Q s := fun C E0 k0 E a hk hS =>
  wp_mono (h C E0 k0 E a hk hS) fun e a w ⟨s', E', h1, h2, h3, h4⟩ => by
    obtain ⟨s'', g1, g2⟩ := hq e s' h1
    obtain ⟨E'', k1, k2, k3⟩ := g1 C E0 k0 E' a h2 h3
    exact ⟨s'', E'', g2, k1, k2, k3.trans h4⟩
def exQ (id : Nat) (J : AS → Prop) (Q : Exit → AS → Prop) : Exit → AS → Prop
  | .exit i, s => if i = id then J s else Q (.exit i) s
  | e, s => Q e s
theorem xy0 {x : AC} (id : Nat) (J : AS → Prop) (h : cwp P n x (exQ id (TI n J) Q) s) (k : ∀ s, J s → Q (.exit id) s) : cwp P n x Q s := fun c hc => by
  refine xzu (h c hc) fun e s hs => ?_
  cases e with
  | exit i =>
    simp only [exQ] at hs
    split at hs
    · rename_i e
      subst e
      obtain ⟨s', h1, h2⟩ := hs
      exact ⟨s', h1, k s' h2⟩
    · exact TI.here hs
  | normal => exact TI.here hs
  | ret => exact TI.here hs
  | goto _ => exact TI.here hs
  | panic _ => exact TI.here hs
  | outgrown => exact TI.here hs
theorem xt1 (id i : Nat) (J : AS → Prop) : exQ id J Q (.exit i) s = if i = id then J s else Q (.exit i) s := _root_.id rfl
theorem X_ret (id : Nat) (J : AS → Prop) : exQ id J Q .ret s = Q .ret s := _root_.id rfl
end
def ixB (s : ByteArray) (n : Int) : Option UInt8 := if 0 ≤ n then s[n.toNat]? else none
theorem xvr {s : ByteArray} {n : Int} {x : UInt8} (h : ixB s n = some x) : 0 ≤ n ∧ s[n.toNat]? = some x := by
  unfold ixB at h
  split at h
  · exact ⟨‹_›, h⟩
  · cases h
theorem xmv {s : ByteArray} {n : Int} {x : UInt8} (h : ixB s n = some x) : (0 ≤ n) = True := eq_true (xvr h).1
theorem xr2 (cs : List AV) (off : Nat) (v : Value) : stAV (.agg cs) off (.val v) = if off + 1 ≤ cs.length then some (.agg (cs.set off (.val v))) else none := _root_.id rfl
theorem xb2 (cs : List AV) (off s v : Nat) : stAV (.agg cs) off (.msl s v) = if off + 1 ≤ cs.length then some (.agg (cs.set off (.msl s v))) else none := _root_.id rfl
theorem z_tb (m n : Nat) : Nat.testBit m n = (1 &&& (m >>> n) != 0) := _root_.id rfl
theorem z_bne (n : Nat) : (n != n) = false := bne_self_eq_false n
theorem z_btt : (true == true) = true := _root_.id rfl
theorem z_btf : (true == false) = false := _root_.id rfl
theorem z_bft : (false == true) = false := _root_.id rfl
theorem z_bff : (false == false) = true := _root_.id rfl
theorem xly {P : Program} {T : TypeId} (h : kindOf P T = .bool) (a b : Bool) : binK P .eql T (bool a) (bool b) = brR (a == b) := by
  have ht : P.underlying T = some .bool := by
    unfold kindOf at h
    split at h <;> first
      | assumption
      | cases h
  simp [binK, xkb, evalEq, ht, brR]
theorem xwz {P : Program} {T : TypeId} (h : kindOf P T = .bool) (a b : Bool) : binK P .neq T (bool a) (bool b) = brR (!(a == b)) := by
  have ht : P.underlying T = some .bool := by
    unfold kindOf at h
    split at h <;> first
      | assumption
      | cases h
  simp [binK, xkb, evalEq, ht, brR]
section
variable (P : Program) (V : Nat → Option AO)
def oldK (l m e sz : Nat) (o : Option AO) : Option (Option Nat × List AV) := match o with
  | some (.row T s xs) => if s = sz ∧ m = xs.length ∧ T = e then some (some l, xs) else none
  | _ => none
def newK (m sz : Nat) (o : Option AO) : Option (List AV) := match o with
  | some (.row _ s ys) => if s = sz ∧ m = ys.length then some ys else none
  | _ => none
theorem xyy (l m e sz : Nat) : oldsOf V (.msl l m) e sz = oldK l m e sz (V l) := by
  simp only [oldsOf, oldK]
  cases V l with
  | none => rfl
  | some o => cases o <;> rfl
theorem xty (l m e sz T s : Nat) (xs : List AV) : oldK l m e sz (some (.row T s xs)) = if s = sz ∧ m = xs.length ∧ T = e then some (some l, xs) else none := _root_.id rfl
theorem xrz (l m sz : Nat) : newsOf V (.msl l m) sz = newK m sz (V l) := by
  simp only [newsOf, newK]
  cases V l with
  | none => rfl
  | some o => cases o <;> rfl
theorem xxy (m sz T s : Nat) (ys : List AV) : newK m sz (some (.row T s ys)) = if s = sz ∧ m = ys.length then some ys else none := _root_.id rfl
theorem xd2 (s sz : Nat) (ys : List AV) : newsOf V (.sl s ys) sz = if s = sz then some ys else none := _root_.id rfl
def appK (by_ e sz new : Nat) : Option (Option Nat × List AV) → Option (List AV) → Option (AV × Upds)
  | some (ol, xs), some ys => if (xs.length + ys.length) * by_ ≤ 140737488355328 ∧ xs.length + ys.length ≤ 9223372036854775807 then some (.msl new (xs.length + ys.length), killU ol ++ [(new, some (.row e sz (xs ++ ys)))]) else none
  | _, _ => none
theorem xhx {t e sz by_ : Nat} {b : Bool} {z : AV} (h1 : xz P t = some e) (h2 : aggN P e = some (b, sz)) (h3 : xjh P e = some by_) (h4 : zeroOf P e = some z) (h5 : xn z sz = true) (s x : AV) (new : Nat) :
    xtf P t V s x new = appK by_ e sz new (oldsOf V s e sz) (newsOf V x sz) := by
  simp only [xtf, xke, h1, h2, h3, h4, h5, and_true]
  cases oldsOf V s e sz with
  | none => rfl
  | some p =>
    cases newsOf V x sz with
    | none => rfl
    | some ys => rfl
theorem xgw (by_ e sz new : Nat) (ol : Option Nat) (xs ys : List AV) : appK by_ e sz new (some (ol, xs)) (some ys) = if (xs.length + ys.length) * by_ ≤ 140737488355328 ∧ xs.length + ys.length ≤ 9223372036854775807 then some (.msl new (xs.length + ys.length), killU ol ++ [(new, some (.row e sz (xs ++ ys)))]) else none := _root_.id rfl
theorem xbv (l : Nat) : killU (some l) = [(l, none)] := _root_.id rfl
theorem xxw (sz : Nat) (xs : List AV) : setsA sz xs [] = some xs := _root_.id rfl
theorem xev (sz : Nat) (xs : List AV) (i : Nat) (x : AV) (ps : List (Nat × AV)) : setsA sz xs ((i, x) :: ps) = if xn x sz = true ∧ i < xs.length then setsA sz (xs.set i x) ps else none := by
  rfl
end
end Go.Proofs.YtjmnoaoeediodaaDoor.AL

