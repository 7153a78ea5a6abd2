/- A law of the given program is proved: part 17 of 50. -/
import Derived.Orders
import Derived.Test.YtefdlpandfhcgaaGreatDoorA16
set_option linter.all false
/- AL, part 15: a region whose order is open: its operations in the order of the text, where those that are not ordered do not meet (okD). -/
set_option linter.unusedSimpArgs false
namespace Go.Proofs.YtefdlpandfhcgaaGreatDoor.AL
open Go.RowKit
def bef1 (acc : List Nat) (o : Oper) : Nat := o.after.toList.foldl (fun s e => if Region.binds .any e = true then s ||| 2 ^ e.on ||| acc.getD e.on 0 else s) 0
def befsL : List Oper → List Nat → List Nat
  | [], acc => acc
  | o :: rest, acc => befsL rest (acc ++ [bef1 acc o])
theorem xv5 (acc : List Nat) (o : Oper) (j : Nat) (h : (bef1 acc o).testBit j = true) : ∃ e ∈ o.after.toList, Region.binds .any e = true ∧ (e.on = j ∨ (acc.getD e.on 0).testBit j = true) := by
  unfold bef1 at h
  have key : ∀ (l : List Edge) (s : Nat), (l.foldl (fun s e => if Region.binds .any e = true then s ||| 2 ^ e.on ||| acc.getD e.on 0 else s) s).testBit j = true → s.testBit j = true ∨ ∃ e ∈ l, Region.binds .any e = true ∧ (e.on = j ∨ (acc.getD e.on 0).testBit j = true) := by
    intro l
    induction l with
    | nil => intro s h; exact .inl h
    | cons e l ih =>
      intro s h
      rcases ih _ h with h1 | ⟨e', h1, h2⟩
      · by_cases hb : Region.binds .any e = true
        · simp only [hb, if_true, Nat.testBit_or, Bool.or_eq_true] at h1
          rcases h1 with (h1 | h1) | h1
          · exact .inl h1
          · refine .inr ⟨e, by simp, hb, .inl ?_⟩
            simpa [Nat.testBit_two_pow] using h1
          · exact .inr ⟨e, by simp, hb, .inr h1⟩
        · simp only [hb, if_false, Bool.false_eq_true] at h1
          exact .inl h1
      · exact .inr ⟨e', by simp [h1], h2⟩
  rcases key _ _ h with h | h
  · simp at h
  · exact h
theorem xfo : ∀ (l : List Oper) (acc : List Nat) (i : Nat), i < acc.length → (befsL l acc).getD i 0 = acc.getD i 0
  | [], acc, i, _ => rfl
  | o :: l, acc, i, h => by
    simp only [befsL]
    rw [xfo l _ i (by simp; omega)]
    simp only [List.getD_eq_getElem?_getD]
    rw [List.getElem?_append_left h]
theorem xfm : ∀ (l : List Oper) (acc : List Nat) (k : Nat) (o : Oper) (j : Nat), l[k]? = some o → ((befsL l acc).getD (acc.length + k) 0).testBit j = true →
    ∃ e ∈ o.after.toList, Region.binds .any e = true ∧ (e.on = j ∨ (e.on < acc.length + k ∧ ((befsL l acc).getD e.on 0).testBit j = true))
  | [], acc, k, o, j, h, _ => by simp at h
  | o' :: l, acc, 0, o, j, h, hb => by
    have e : o' = o := by simpa using h
    subst e
    simp only [befsL, Nat.add_zero] at hb
    rw [xfo l _ _ (by simp)] at hb
    have hg : (acc ++ [bef1 acc o']).getD acc.length 0 = bef1 acc o' := by simp [List.getD_eq_getElem?_getD]
    rw [hg] at hb
    obtain ⟨e, h1, h2, h3⟩ := xv5 acc o' j hb
    refine ⟨e, h1, h2, ?_⟩
    rcases h3 with h3 | h3
    · exact .inl h3
    · by_cases hlt : e.on < acc.length
      · refine .inr ⟨by omega, ?_⟩
        simp only [befsL]
        rw [xfo l _ _ (by simp; omega)]
        simp only [List.getD_eq_getElem?_getD] at h3 ⊢
        rw [List.getElem?_append_left hlt]
        exact h3
      · simp only [List.getD_eq_getElem?_getD] at h3
        rw [List.getElem?_eq_none (by omega)] at h3
        simp at h3
  | o' :: l, acc, k + 1, o, j, h, hb => by
    simp only [befsL] at hb ⊢
    have e : acc.length + (k + 1) = (acc ++ [bef1 acc o']).length + k := by simp; omega
    rw [e] at hb ⊢
    exact xfm l _ k o j (by simpa using h) hb
def xmc (op : Op) : Bool :=
  match op with
  | .store .. => true
  | .call c => match c.callee with
    | .builtin .len => false
    | .builtin .complex => false
    | .builtin .real => false
    | .builtin .imag => false
    | .builtin .min => false
    | .builtin .max => false
    | .builtin _ => true
    | _ => false
  | .mapUpdate .. => true
  | .mapEntry .. => true
  | .entryStore .. => true
  | .next .. => true
  | _ => false
def indep (ops : Array Oper) (rx ry : Bool) (x y : Oper) : Bool :=
  x.apart ops y && !(xmc x.op && ry) && !(rx && xmc y.op)
def okD (ops : Array Oper) (rd : List Bool) : Bool :=
  let B := befsL ops.toList []
  ops.toList.zipIdx.all fun (o, i) =>
    o.after.toList.all (fun e => !Region.binds .any e || decide (e.on < i)) && decide (B.getD i 0 < 2 ^ i) && (!xmc o.op || rd.getD i false) &&
    (List.range i).all fun j => (B.getD i 0).testBit j || indep ops (rd.getD j false) (rd.getD i false) (ops.getD j default) o
def viewD (nx bef : Nat) (r : Bool) (H : Nat → Option AO) : Nat → Option AO := fun l =>
  if r = true then (if l < nx ∨ bef.testBit (l - nx) = true then H l else none) else none
theorem xe2 {nx bef : Nat} {r : Bool} {H : Nat → Option AO} : SubH (viewD nx bef r H) H := by
  intro l o h
  unfold viewD at h
  split at h
  · split at h
    · exact h
    · cases h
  · cases h
def okU (V : Nat → Option AO) (new : Nat) (wr : Bool) (us : Upds) : Prop := ∀ p ∈ us, p.1 = new ∨ (wr = true ∧ (V p.1).isSome = true)
def gd (ops : Array Oper) (o : Oper) (T : Nat → AV) : Option Bool :=
  match o.guard with
  | none => some true
  | some (j, want) =>
    match (ops[j]?).bind (·.dst) with
    | none => some false
    | some d =>
      match T d with
      | .val (.bool b) => some (b == want)
      | .val _ => some false
      | _ => none
theorem xvu {ops : Array Oper} {o : Oper} {T : Nat → AV} {yes no : Prop} (h : guardK ops o T yes no) : (gd ops o T = some true ∧ yes) ∨ (gd ops o T = some false ∧ no) := by
  unfold guardK at h
  unfold gd
  split at h
  · rename_i hg; rw [hg]; exact .inl ⟨rfl, h⟩
  · rename_i j want hg
    rw [hg]
    split at h
    · rename_i hd; simp only [hd]; exact .inr ⟨trivial, h⟩
    · rename_i d hd
      simp only [hd]
      split at h
      · rename_i b hb
        simp only [hb]
        by_cases e : b = want
        · exact .inl ⟨by simp [e], h.1 e⟩
        · exact .inr ⟨by simp [e], h.2 e⟩
      · rename_i v hnb hb
        refine .inr ⟨?_, h⟩
        rw [hb]
        cases v <;> first
          | rfl
          | exact absurd rfl (hnb _)
      · exact h.elim
theorem x8k {E : Env} {T : Nat → AV} {a : Act} (ht : ∀ t, VRep E (T t) (a.tmps.getD t undef)) {n : Nat} (hn : a.tmps.size = n) {ops : Array Oper} (hfit : fits n ops = true) {o : Oper} {b : Bool} (h : gd ops o T = some b) :
    Region.wanted o (yielded ops a.tmps) = b := by
  have := xop (yes := b = true) (no := b = false) ht hn hfit (o := o) (by
    unfold gd at h
    unfold guardK
    split at h
    · rename_i hg; injection h with h; simp only [hg]; exact h.symm
    · rename_i j want hg
      simp only [hg]
      split at h
      · rename_i hd; injection h with h; simp only [hd]; exact h.symm
      · rename_i d hd
        simp only [hd]
        split at h
        · rename_i b' hb
          injection h with h
          subst h
          simp only [hb]
          exact ⟨fun e => by simp [e], fun e => by simp [e]⟩
        · rename_i v hnb hb
          injection h with h
          subst h
          rw [hb]
          cases v <;> first
            | rfl
            | exact absurd rfl (hnb _)
        · cases h)
  rcases this with ⟨h1, h2⟩ | ⟨h1, h2⟩ <;> rw [h1, h2]
def StepR (P : Program) (ops : Array Oper) (B : List Nat) (rd : List Bool) (nx : Nat) (i : Nat) (s s' : AS) : Prop :=
  ∃ o, ops[i]? = some o ∧
    ((gd ops o s.T = some true ∧ ∃ v us, OpS P o (viewD nx (B.getD i 0) (rd.getD i false) s.H) (ev s.T) (nx + i) v us ∧ okU (viewD nx (B.getD i 0) (rd.getD i false) s.H) (nx + i) (xmc o.op) us ∧ s' = ⟨putA s.T o.dst v, applyU s.H us, s.nx⟩) ∨
     (gd ops o s.T = some false ∧ s' = ⟨putA s.T o.dst (.val undef), s.H, s.nx⟩))
def StepsR (P : Program) (ops : Array Oper) (B : List Nat) (rd : List Bool) (nx : Nat) : List Nat → AS → AS → Prop
  | [], s, s' => s = s'
  | i :: is, s, s' => ∃ s1, StepR P ops B rd nx i s s1 ∧ StepsR P ops B rd nx is s1 s'
theorem x0f (us : Upds) : ∀ (H : Nat → Option AO) (l : Nat), (∀ p ∈ us, p.1 ≠ l) → applyU H us l = H l := by
  induction us with
  | nil => intro H l _; rfl
  | cons p us ih =>
    intro H l h
    obtain ⟨k, o⟩ := p
    simp only [applyU]
    rw [ih _ l (fun q hq => h q (by simp [hq])), upd_ne _ _ (Ne.symm (h (k, o) (by simp)))]
theorem xgq (us : Upds) : ∀ (H H' : Nat → Option AO) (l : Nat), H l = H' l → applyU H us l = applyU H' us l := by
  induction us with
  | nil => intro H H' l h; exact h
  | cons p us ih =>
    intro H H' l h
    obtain ⟨k, o⟩ := p
    simp only [applyU]
    refine ih _ _ l ?_
    simp only [upd_at, h]
theorem xbq (us vs : Upds) (H : Nat → Option AO) (h : ∀ p ∈ us, ∀ q ∈ vs, p.1 ≠ q.1) : applyU (applyU H us) vs = applyU (applyU H vs) us := by
  funext l
  by_cases h1 : ∃ p ∈ us, p.1 = l
  · obtain ⟨p, hp, rfl⟩ := h1
    have h2 : ∀ q ∈ vs, q.1 ≠ p.1 := fun q hq e => h p hp q hq e.symm
    rw [x0f vs _ _ h2]
    exact xgq us _ _ _ (x0f vs H _ h2).symm
  · have h1' : ∀ p ∈ us, p.1 ≠ l := fun p hp e => h1 ⟨p, hp, e⟩
    rw [x0f us _ _ h1']
    exact xgq vs _ _ _ (x0f us H _ h1')
theorem xvq {nx bef : Nat} {r : Bool} {H H' : Nat → Option AO} (h : r = true → ∀ l, (l < nx ∨ bef.testBit (l - nx) = true) → H l = H' l) : viewD nx bef r H = viewD nx bef r H' := by
  funext l
  unfold viewD
  split
  · rename_i hr
    split
    · rename_i hl; exact h hr l hl
    · rfl
  · rfl
theorem x5j {T : Nat → AV} {d : Option Tmp} {v : AV} {x : Operand} (h : ∀ k, d = some k → x ≠ .tmp k) : ev (putA T d v) x = ev T x := by
  cases d with
  | none => rfl
  | some k =>
    cases x with
    | tmp t =>
      have : t ≠ k := fun e => h k rfl (e ▸ rfl)
      simp [ev, putA, upd_ne _ _ this]
    | _ => rfl
theorem xyp {ops : Array Oper} {o : Oper} {T : Nat → AV} {d : Option Tmp} {v : AV} (h : ∀ k, d = some k → ∀ j want, o.guard = some (j, want) → (ops[j]?).bind (·.dst) ≠ some k) : gd ops o (putA T d v) = gd ops o T := by
  unfold gd
  split
  · rfl
  · rename_i j want hg
    split
    · rfl
    · rename_i k hk
      have : putA T d v k = T k := by
        cases d with
        | none => rfl
        | some k' =>
          have : k ≠ k' := fun e => h k' rfl j want hg (e ▸ hk)
          simp [putA, upd_ne _ _ this]
      rw [this]
theorem x3e {T : Nat → AV} {d d' : Option Tmp} {v v' : AV} (h : ∀ k, d = some k → d' ≠ some k) : putA (putA T d v) d' v' = putA (putA T d' v') d v := by
  cases d with
  | none => rfl
  | some k =>
    cases d' with
    | none => rfl
    | some k' =>
      have : k ≠ k' := fun e => h k rfl (e ▸ rfl)
      funext t
      simp only [putA, upd_at]
      by_cases e1 : t = k
      · have e2 : t ≠ k' := fun e => this (e1.symm.trans e)
        rw [if_neg e2, if_pos e1, if_pos e1]
      · rw [if_neg e1, if_neg e1]
theorem xie {ops : Array Oper} {o : Oper} {d : Nat} (h : d ∉ o.looksAt ops) : (∀ x ∈ o.op.operands.toList, x ≠ .tmp d) ∧ (∀ j want, o.guard = some (j, want) → (ops[j]?).bind (·.dst) ≠ some d) := by
  unfold Oper.looksAt at h
  simp only [List.mem_append, not_or] at h
  refine ⟨fun x hx e => h.1 ?_, fun j want hg e => h.2 ?_⟩
  · rw [List.mem_filterMap]
    exact ⟨x, hx, by rw [e]⟩
  · simp [hg, e]
theorem StepR.swap {P : Program} {ops : Array Oper} {B : List Nat} {rd : List Bool} {nx i j : Nat} (hij : j < i) {x y : Oper} (hx : ops[j]? = some x) (hy : ops[i]? = some y) (hind : indep ops (rd.getD j false) (rd.getD i false) x y = true) (hwr : xmc y.op = true → rd.getD i false = true)
    (h1 : (B.getD i 0).testBit j = false) (h2 : (B.getD j 0).testBit i = false) {s s1 s2 : AS} (hs1 : StepR P ops B rd nx j s s1) (hs2 : StepR P ops B rd nx i s1 s2) :
    ∃ s1', StepR P ops B rd nx i s s1' ∧ StepR P ops B rd nx j s1' s2 := by
  simp only [indep, Bool.and_eq_true, Bool.not_eq_true', Bool.and_eq_false_iff] at hind
  obtain ⟨⟨hap, hw1⟩, hw2⟩ := hind
  obtain ⟨a1, a2, a3⟩ := Oper.apart_spec hap
  obtain ⟨x', hx', cx⟩ := hs1
  obtain rfl : x = x' := by rw [hx] at hx'; exact Option.some.inj hx'
  obtain ⟨y', hy', cy⟩ := hs2
  obtain rfl : y = y' := by rw [hy] at hy'; exact Option.some.inj hy'
  -- what x puts, y does not look at; and the other way round
  have exy : ∀ v, (∀ z ∈ y.op.operands.toList, ev (putA s.T x.dst v) z = ev s.T z) ∧ gd ops y (putA s.T x.dst v) = gd ops y s.T := fun v =>
    ⟨fun z hz => x5j fun k hk => (xie (a1 k hk)).1 z hz, xyp fun k hk => (xie (a1 k hk)).2⟩
  have eyx : ∀ v, (∀ z ∈ x.op.operands.toList, ev (putA s.T y.dst v) z = ev s.T z) ∧ gd ops x (putA s.T y.dst v) = gd ops x s.T := fun v =>
    ⟨fun z hz => x5j fun k hk => (xie (a3 k hk)).1 z hz, xyp fun k hk => (xie (a3 k hk)).2⟩
  have hdst : ∀ k, x.dst = some k → y.dst ≠ some k := a2
  -- where an operation's turns lie
  have away : ∀ {r w : Bool} {m b : Nat} {H : Nat → Option AO} {us : Upds}, okU (viewD nx b r H) (nx + m) w us → ∀ p ∈ us, p.1 = nx + m ∨ (w = true ∧ (p.1 < nx ∨ b.testBit (p.1 - nx) = true)) := by
    intro r w m b H us h p hp
    rcases h p hp with h | ⟨h, h'⟩
    · exact .inl h
    · refine .inr ⟨h, ?_⟩
      unfold viewD at h'
      split at h'
      · split at h'
        · assumption
        · simp at h'
      · simp at h'
  have viewY : ∀ {us : Upds}, okU (viewD nx (B.getD j 0) (rd.getD j false) s.H) (nx + j) (xmc x.op) us → viewD nx (B.getD i 0) (rd.getD i false) (applyU s.H us) = viewD nx (B.getD i 0) (rd.getD i false) s.H := by
    intro us hu
    refine xvq fun hr l hl => x0f us s.H l fun p hp e => ?_
    rcases away hu p hp with h | ⟨h, _⟩
    · rcases hl with hl | hl
      · omega
      · rw [← e, h, Nat.add_sub_cancel_left, h1] at hl; cases hl
    · rcases hw1 with hw1 | hw1
      · rw [hw1] at h; cases h
      · rw [hw1] at hr; cases hr
  have viewX : ∀ {us : Upds}, okU (viewD nx (B.getD i 0) (rd.getD i false) s.H) (nx + i) (xmc y.op) us → viewD nx (B.getD j 0) (rd.getD j false) (applyU s.H us) = viewD nx (B.getD j 0) (rd.getD j false) s.H := by
    intro us hu
    refine xvq fun hr l hl => x0f us s.H l fun p hp e => ?_
    rcases away hu p hp with h | ⟨h, _⟩
    · rcases hl with hl | hl
      · omega
      · rw [← e, h, Nat.add_sub_cancel_left, h2] at hl; cases hl
    · rcases hw2 with hw2 | hw2
      · rw [hw2] at hr; cases hr
      · rw [hw2] at h; cases h
  rcases cx with ⟨gx, vx, ux, ox, kx, rfl⟩ | ⟨gx, rfl⟩ <;> rcases cy with ⟨gy, vy, uy, oy, ky, rfl⟩ | ⟨gy, rfl⟩
  · simp only [(exy vx).2] at gy
    simp only [viewY kx] at oy ky
    have oy' : OpS P y (viewD nx (B.getD i 0) (rd.getD i false) s.H) (ev s.T) (nx + i) vy uy := oy.congr (exy vx).1
    refine ⟨⟨putA s.T y.dst vy, applyU s.H uy, s.nx⟩, ⟨y, hy, .inl ⟨gy, vy, uy, oy', ky, rfl⟩⟩, ⟨x, hx, .inl ⟨by simp only [(eyx vy).2]; exact gx, vx, ux, ?_, ?_, ?_⟩⟩⟩
    · simp only [viewX ky]
      exact ox.congr fun z hz => ((eyx vy).1 z hz).symm
    · simp only [viewX ky]
      exact kx
    · simp only [AS.mk.injEq, and_true]
      refine ⟨(x3e hdst), ?_⟩
      refine xbq ux uy s.H fun p hp q hq e => ?_
      rcases away kx p hp with h | ⟨h, h'⟩ <;> rcases away ky q hq with g | ⟨g, g'⟩
      · omega
      · rcases g' with g' | g'
        · omega
        · rw [← e, h, Nat.add_sub_cancel_left, h1] at g'; cases g'
      · rcases h' with h' | h'
        · omega
        · rw [e, g, Nat.add_sub_cancel_left, h2] at h'; cases h'
      · rcases hw1 with hw1 | hw1
        · rw [hw1] at h; cases h
        · rw [hwr g] at hw1; cases hw1
  · simp only [(exy vx).2] at gy
    refine ⟨⟨putA s.T y.dst (.val undef), s.H, s.nx⟩, ⟨y, hy, .inr ⟨gy, rfl⟩⟩, ⟨x, hx, .inl ⟨by simp only [(eyx (.val undef)).2]; exact gx, vx, ux, ox.congr fun z hz => ((eyx (.val undef)).1 z hz).symm, kx, ?_⟩⟩⟩
    simp only [AS.mk.injEq, and_true]
    exact x3e hdst
  · simp only [(exy (.val undef)).2] at gy
    refine ⟨⟨putA s.T y.dst vy, applyU s.H uy, s.nx⟩, ⟨y, hy, .inl ⟨gy, vy, uy, oy.congr (exy (.val undef)).1, ky, rfl⟩⟩, ⟨x, hx, .inr ⟨by simp only [(eyx vy).2]; exact gx, ?_⟩⟩⟩
    simp only [AS.mk.injEq, and_true]
    exact x3e hdst
  · simp only [(exy (.val undef)).2] at gy
    refine ⟨⟨putA s.T y.dst (.val undef), s.H, s.nx⟩, ⟨y, hy, .inr ⟨gy, rfl⟩⟩, ⟨x, hx, .inr ⟨by simp only [(eyx (.val undef)).2]; exact gx, ?_⟩⟩⟩
    simp only [AS.mk.injEq, and_true]
    exact x3e hdst
end Go.Proofs.YtefdlpandfhcgaaGreatDoor.AL

