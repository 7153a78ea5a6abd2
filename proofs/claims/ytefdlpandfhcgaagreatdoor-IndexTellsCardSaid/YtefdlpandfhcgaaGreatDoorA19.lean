/- A law of the given program is proved: part 19 of 50. -/
import Derived.Test.YtefdlpandfhcgaaGreatDoorA18
set_option linter.all false
/- AL, part 17: code in a short form (AC): regions without places in the text and edges, guards by their slots; its rules. -/
set_option linter.unusedSimpArgs false
namespace Go.Proofs.YtefdlpandfhcgaaGreatDoor.AL
open Go.RowKit
structure O1 where
  op : Op
  dst : Option Tmp
  g : Option (Tmp × Bool)
inductive AC where
  | skip
  | ret
  | exit (id : Nat)
  | label (l : Nat)
  | goto (l : Nat)
  | region (ops : List O1)
  | draw (ops : List O1) (B : List Nat) (rd : List Bool)
  | seq (a b : AC)
  | cond (c : Operand) (a b : AC)
  | block (id : Nat) (c : AC)
  | loop (c : AC)
  | scope (c : AC)
abbrev zo (p : Op) (d : Nat) : O1 := ⟨p, some d, none⟩
abbrev zt (k : Nat) : Operand := .tmp k
abbrev zi (n : Int) : Operand := .const (Value.int .i64 n)
abbrev zc (f : Callee) (a : Array Operand) (t : Array TypeId) : Go.Call := Go.Call.mk f a t
def resolve1 (ops : Array Oper) (o : Oper) : Option O1 :=
  match o.guard with
  | none => some ⟨o.op, o.dst, none⟩
  | some (j, w) => match (ops[j]?).bind (·.dst) with
    | some d => some ⟨o.op, o.dst, some (d, w)⟩
    | none => none
def xz (ops : Array Oper) : List Oper → Option (List O1)
  | [] => some []
  | o :: l => match resolve1 ops o, xz ops l with
    | some x, some xs => some (x :: xs)
    | _, _ => none
def rdOf (c : Bool) (op : Op) : Bool :=
  match op with
  | .load .. => true
  | .call k => match k.callee with
    | .builtin .append => true
    | .builtin _ => xmc (.call k)
    | _ => c
  | .lookup .. => true
  | .entry .. => true
  | op => xmc op
def rdsOf (ops : Array Oper) : List Bool :=
  let r := ops.toList.map fun o => rdOf true o.op
  if okD ops r = true then r else ops.toList.map fun o => rdOf false o.op
def comp (n : Nat) : Code → Option AC
  | .skip => some .skip
  | .ret => some .ret
  | .exit id => some (.exit id)
  | .label l => some (.label l)
  | .goto l => some (.goto l)
  | .region _ ops draw =>
    if fits n ops = true then
      match xz ops ops.toList with
      | some l => if draw = true then (if okD ops (rdsOf ops) = true then some (.draw l (befsL ops.toList []) (rdsOf ops)) else if okS ops = true then some (.draw l (exB ops.toList (befsL ops.toList [])) []) else none) else some (.region l)
      | none => none
    else none
  | .seq a b => match comp n a, comp n b with
    | some x, some y => some (.seq x y)
    | _, _ => none
  | .cond c a b => match comp n a, comp n b with
    | some x, some y => some (.cond c x y)
    | _, _ => none
  | .block id c => match comp n c with
    | some x => some (.block id x)
    | none => none
  | .loop c => match comp n c with
    | some x => some (.loop x)
    | none => none
  | .scope c => match comp n c with
    | some x => some (.scope x)
    | none => none
  | _ => none
def guard1 (g : Option (Tmp × Bool)) (T : Nat → AV) (yes no : Prop) : Prop :=
  match g with
  | none => yes
  | some (d, want) =>
    match T d with
    | .val (.bool b) => (b = want → yes) ∧ (¬ b = want → no)
    | .val _ => no
    | _ => False
def Sem1 (P : Program) (op : Op) (H : Nat → Option AO) (nx new : Nat) (ρ : Operand → AV) (k : AV → (Nat → Option AO) → Nat → Prop) : Prop := ∀ o : Oper, o.op = op → SemOp P o H nx new ρ k
def OpS1 (P : Program) (op : Op) (V : Nat → Option AO) (ρ : Operand → AV) (new : Nat) (v : AV) : Prop := ∀ o : Oper, o.op = op → OpS P o V ρ new v []
def wps1 (P : Program) (nx0 : Nat) : Nat → List O1 → AS → (AS → Prop) → Prop
  | _, [], s, K => K s
  | i, o :: rest, s, K => guard1 o.g s.T
      (if isCall o.op = true then Sem1 P o.op s.H s.nx (nx0 + i) (ev s.T) fun v H' nx' => wps1 P nx0 (i + 1) rest ⟨putA s.T o.dst v, H', nx'⟩ K
       else Got (evalOp P o.op s.H (nx0 + i) (ev s.T)) fun p => wps1 P nx0 (i + 1) rest ⟨putA s.T o.dst p.1, applyU s.H p.2, s.nx⟩ K)
      (wps1 P nx0 (i + 1) rest ⟨putA s.T o.dst (.val undef), s.H, s.nx⟩ K)
def wpsD1 (P : Program) (B : List Nat) (rd : List Bool) (nx : Nat) : Nat → List O1 → AS → (AS → Prop) → Prop
  | _, [], s, K => K s
  | i, o :: rest, s, K => guard1 o.g s.T
      (if isCall o.op = true then ∃ v, OpS1 P o.op (viewD nx (B.getD i 0) (rd.getD i false) s.H) (ev s.T) (nx + i) v ∧ wpsD1 P B rd nx (i + 1) rest ⟨putA s.T o.dst v, s.H, s.nx⟩ K
       else Got (evalOp P o.op (viewD nx (B.getD i 0) (rd.getD i false) s.H) (nx + i) (ev s.T)) fun p => wpsD1 P B rd nx (i + 1) rest ⟨putA s.T o.dst p.1, applyU s.H p.2, s.nx⟩ K)
      (wpsD1 P B rd nx (i + 1) rest ⟨putA s.T o.dst (.val undef), s.H, s.nx⟩ K)
def viewL (V W : List Nat) (H : Nat → Option AO) : Nat → Option AO := fun l => if l ∈ V ∨ l ∈ W then H l else none
def okL (W : List Nat) (new : Nat) : Upds → Prop
  | [] => True
  | p :: us => (p.1 = new ∨ p.1 ∈ W) ∧ okL W new us
def OpSL (P : Program) (op : Op) (V : Nat → Option AO) (ρ : Operand → AV) (new : Nat) (v : AV) (us : Upds) : Prop := ∀ o : Oper, o.op = op → OpS P o V ρ new v us
def wpsV1 (P : Program) (nx : Nat) : Nat → List O1 → List (List Nat × List Nat) → AS → (AS → Prop) → Prop
  | _, [], _, s, K => K s
  | _, _ :: _, [], _, _ => False
  | i, o :: rest, p :: VW, s, K => guard1 o.g s.T
      (if isCall o.op = true then ∃ v us, OpSL P o.op (viewL p.1 p.2 s.H) (ev s.T) (nx + i) v us ∧ okL p.2 (nx + i) us ∧ wpsV1 P nx (i + 1) rest VW ⟨putA s.T o.dst v, applyU s.H us, s.nx⟩ K
       else Got (evalOp P o.op (viewL p.1 p.2 s.H) (nx + i) (ev s.T)) fun q => okL p.2 (nx + i) q.2 ∧ wpsV1 P nx (i + 1) rest VW ⟨putA s.T o.dst q.1, applyU s.H q.2, s.nx⟩ K)
      (wpsV1 P nx (i + 1) rest VW ⟨putA s.T o.dst (.val undef), s.H, s.nx⟩ K)
def ne1 (a : Nat) : List Nat → Prop
  | [] => True
  | b :: B => a ≠ b ∧ ne1 a B
def dis : List Nat → List Nat → Prop
  | [], _ => True
  | a :: A, B => ne1 a B ∧ dis A B
def meetR (nx i b : Nat) (V W : List Nat) : Nat → List (List Nat × List Nat) → Prop
  | _, [] => True
  | j, p :: r => (if b.testBit j = true then True else (dis ((nx + i) :: W) p.1 ∧ dis ((nx + i) :: W) p.2) ∧ dis ((nx + j) :: p.2) V ∧ dis ((nx + j) :: p.2) W) ∧ meetR nx i b V W (j + 1) r
def meetA (nx : Nat) : Nat → List Nat → List (List Nat × List Nat) → List (List Nat × List Nat) → Prop
  | _, _, _, [] => True
  | _, [], _, _ :: _ => False
  | i, b :: B, done, p :: r => meetR nx i b p.1 p.2 0 done ∧ meetA nx (i + 1) B (done ++ [p]) r
theorem xow {a : Nat} : ∀ {B : List Nat}, ne1 a B → a ∉ B
  | [], _, h => by cases h
  | b :: B, hd, h => by
    rcases List.mem_cons.1 h with e | e
    · exact hd.1 e
    · exact xow hd.2 e
theorem xjk : ∀ {A B : List Nat}, dis A B → ∀ x ∈ A, x ∉ B
  | [], _, _, x, h => by cases h
  | a :: A, B, hd, x, h => by
    rcases List.mem_cons.1 h with e | e
    · subst e; exact xow hd.1
    · exact xjk hd.2 x e
theorem xls {nx i b : Nat} {V W : List Nat} : ∀ {r : List (List Nat × List Nat)} {j : Nat}, meetR nx i b V W j r → ∀ k p, r[k]? = some p → b.testBit (j + k) = false →
    (∀ l, l ∈ W ∨ l = nx + i → ¬ (l ∈ p.1 ∨ l ∈ p.2)) ∧ (∀ l, l ∈ p.2 ∨ l = nx + (j + k) → ¬ (l ∈ V ∨ l ∈ W))
  | [], j, h, k, p, hk, hb => by simp at hk
  | q :: r, j, h, 0, p, hk, hb => by
    obtain rfl : q = p := by simpa using hk
    simp only [Nat.add_zero] at hb ⊢
    simp only [meetR, hb, Bool.false_eq_true, if_false] at h
    obtain ⟨⟨⟨h1, h2⟩, h3, h4⟩, _⟩ := h
    have mem : ∀ {l : Nat} {X : List Nat} {y : Nat}, l ∈ X ∨ l = y → l ∈ y :: X := fun h => by rcases h with h | h <;> simp [h]
    exact ⟨fun l hl hh => by rcases hh with hh | hh; exact xjk h1 l (mem hl) hh; exact xjk h2 l (mem hl) hh, fun l hl hh => by rcases hh with hh | hh; exact xjk h3 l (mem hl) hh; exact xjk h4 l (mem hl) hh⟩
  | q :: r, j, h, k + 1, p, hk, hb => by
    have e : j + (k + 1) = j + 1 + k := by omega
    rw [e] at hb ⊢
    exact xls h.2 k p (by simpa using hk) hb
theorem xxj {nx : Nat} : ∀ {r done : List (List Nat × List Nat)} {i : Nat} {B : List Nat}, meetA nx i B done r → done.length = i → ∀ k p j q, r[k]? = some p → (done ++ r)[j]? = some q → j < i + k → (B.getD k 0).testBit j = false →
    (∀ l, l ∈ p.2 ∨ l = nx + (i + k) → ¬ (l ∈ q.1 ∨ l ∈ q.2)) ∧ (∀ l, l ∈ q.2 ∨ l = nx + j → ¬ (l ∈ p.1 ∨ l ∈ p.2))
  | [], done, i, B, h, hl, k, p, j, q, hk, hj, hlt, hb => by simp at hk
  | a :: r, done, i, [], h, hl, k, p, j, q, hk, hj, hlt, hb => h.elim
  | a :: r, done, i, b :: B, h, hl, 0, p, j, q, hk, hj, hlt, hb => by
    obtain rfl : a = p := by simpa using hk
    have hj' : done[j]? = some q := by rw [List.getElem?_append_left (by omega)] at hj; exact hj
    have := xls h.1 j q hj' (by simpa using hb)
    simpa using this
  | a :: r, done, i, b :: B, h, hl, k + 1, p, j, q, hk, hj, hlt, hb => by
    have := xxj h.2 (by simp [hl]) k p j q (by simpa using hk) (by simpa using hj) (by omega) (by simpa using hb)
    have e : i + (k + 1) = i + 1 + k := by omega
    rw [e]
    exact this
theorem xjx (V W : List Nat) (H : Nat → Option AO) : viewL V W H = viewV (fun l => l ∈ V ∨ l ∈ W) H := by
  funext l
  unfold viewL viewV
  by_cases h : l ∈ V ∨ l ∈ W
  · rw [if_pos h, if_pos h]
  · rw [if_neg h, if_neg h]
theorem xxs {W : List Nat} {new : Nat} : ∀ {us : Upds}, okL W new us → okV (fun l => l ∈ W) new us
  | [], _, p, hp => by cases hp
  | q :: us, h, p, hp => by
    rcases List.mem_cons.1 hp with e | e
    · subst e; exact h.1
    · exact xxs h.2 p e
theorem xmo {ops : Array Oper} {o : Oper} {x : O1} (h : resolve1 ops o = some x) {T : Nat → AV} {y1 n1 y2 n2 : Prop} (hg : guard1 x.g T y1 n1) (hy : y1 → y2) (hn : n1 → n2) : guardK ops o T y2 n2 := by
  unfold resolve1 at h
  unfold guardK
  split at h
  · rename_i hgd
    injection h with h
    subst h
    rw [hgd]
    exact hy hg
  · rename_i j w hgd
    rw [hgd]
    split at h
    · rename_i d hd
      injection h with h
      subst h
      simp only [hd]
      unfold guard1 at hg
      simp only at hg
      split at hg
      · rename_i b hb
        simp only [hb]
        exact ⟨fun e => hy (hg.1 e), fun e => hn (hg.2 e)⟩
      · rename_i v hnb hb
        rw [hb]
        cases v <;> first
          | exact hn hg
          | exact absurd rfl (hnb _)
      · exact hg.elim
    · cases h
theorem xyh {ops : Array Oper} {o : Oper} {x : O1} (h : resolve1 ops o = some x) : x.op = o.op ∧ x.dst = o.dst := by
  unfold resolve1 at h
  split at h
  · injection h with h; subst h; exact ⟨rfl, rfl⟩
  · split at h
    · injection h with h; subst h; exact ⟨rfl, rfl⟩
    · cases h
theorem SemOp.mono {P : Program} {o : Oper} {H : Nat → Option AO} {nx new : Nat} {ρ : Operand → AV} {k k' : AV → (Nat → Option AO) → Nat → Prop} (h : SemOp P o H nx new ρ k) (hk : ∀ v H' nx', k v H' nx' → k' v H' nx') : SemOp P o H nx new ρ k' :=
  fun C E a h1 h2 h3 h4 h5 next Q hnext => h C E a h1 h2 h3 h4 h5 next Q fun v u H' nx' E' g => hnext v u H' nx' E' (hk _ _ _ g)
theorem xfk {P : Program} {ops : Array Oper} {nx0 : Nat} {K : AS → Prop} : ∀ (l : List Oper) (xs : List O1) (i : Nat) (s : AS), xz ops l = some xs → wps1 P nx0 i xs s K → wps P ops nx0 i l s K
  | [], xs, i, s, hr, h => by
    simp only [xz] at hr
    injection hr with hr
    subst hr
    exact h
  | o :: l, xs, i, s, hr, h => by
    simp only [xz] at hr
    split at hr
    · rename_i x xs' hx hxs
      injection hr with hr
      subst hr
      obtain ⟨e1, e2⟩ := xyh hx
      simp only [wps1] at h
      simp only [wps]
      refine xmo hx h (fun h => ?_) (fun h => by rw [← e2]; exact xfk l xs' _ _ hxs h)
      rw [← e1, ← e2]
      split at h
      · rename_i hc
        rw [if_pos hc]
        exact (h o e1.symm).mono fun v H' nx' g => xfk l xs' _ _ hxs g
      · rename_i hc
        rw [if_neg hc]
        obtain ⟨p, h1, h2⟩ := h
        exact ⟨p, h1, xfk l xs' _ _ hxs h2⟩
    · cases hr
theorem xzj {P : Program} {ops : Array Oper} {B : List Nat} {rd : List Bool} {nx0 : Nat} {K : AS → Prop} : ∀ (l : List Oper) (xs : List O1) (i : Nat) (s : AS), xz ops l = some xs → wpsD1 P B rd nx0 i xs s K → wpsD P ops B rd nx0 i l s K
  | [], xs, i, s, hr, h => by
    simp only [xz] at hr
    injection hr with hr
    subst hr
    exact h
  | o :: l, xs, i, s, hr, h => by
    simp only [xz] at hr
    split at hr
    · rename_i x xs' hx hxs
      injection hr with hr
      subst hr
      obtain ⟨e1, e2⟩ := xyh hx
      simp only [wpsD1] at h
      simp only [wpsD]
      refine xmo hx h (fun h => ?_) (fun h => by rw [← e2]; exact xzj l xs' _ _ hxs h)
      rw [← e1, ← e2]
      split at h
      · rename_i hc
        rw [if_pos hc]
        obtain ⟨v, h1, h2⟩ := h
        exact ⟨v, h1 o e1.symm, xzj l xs' _ _ hxs h2⟩
      · rename_i hc
        rw [if_neg hc]
        obtain ⟨p, h1, h2⟩ := h
        exact ⟨p, h1, xzj l xs' _ _ hxs h2⟩
    · cases hr
theorem xkg {P : Program} {ops : Array Oper} {nx : Nat} {K : AS → Prop} {VW : List (List Nat × List Nat)} : ∀ (l : List Oper) (xs : List O1) (r : List (List Nat × List Nat)) (i : Nat) (s : AS), xz ops l = some xs → (∀ k, l[k]? = ops[i + k]?) → (∀ k, r[k]? = VW[i + k]?) → wpsV1 P nx i xs r s K →
    ∃ s', StepsV P ops (fun i l => l ∈ (VW.getD i ([], [])).1 ∨ l ∈ (VW.getD i ([], [])).2) (fun i l => l ∈ (VW.getD i ([], [])).2) nx (List.range' i l.length) s s' ∧ K s'
  | [], xs, r, i, s, hr, _, _, h => by
    simp only [xz] at hr
    injection hr with hr
    subst hr
    exact ⟨s, rfl, by cases r <;> exact h⟩
  | o :: l, xs, r, i, s, hr, hops, hVW, h => by
    simp only [xz] at hr
    split at hr
    · rename_i x xs' hx hxs
      injection hr with hr
      subst hr
      obtain ⟨e1, e2⟩ := xyh hx
      cases r with
      | nil => exact h.elim
      | cons p r =>
        have ho : ops[i]? = some o := by simpa using (hops 0).symm
        have hp : VW.getD i ([], []) = p := by
          have h0 : VW[i]? = some p := by simpa using (hVW 0).symm
          simp [List.getD_eq_getElem?_getD, h0]
        have hr1 : ∀ k, l[k]? = ops[i + 1 + k]? := fun k => by have := hops (k + 1); simpa [Nat.add_assoc, Nat.add_comm 1 k] using this
        have hr2 : ∀ k, r[k]? = VW[i + 1 + k]? := fun k => by have := hVW (k + 1); simpa [Nat.add_assoc, Nat.add_comm 1 k] using this
        simp only [wpsV1] at h
        rw [List.length_cons, List.range'_succ]
        rcases xvu (xmo (o := o) hx h (fun h => h) (fun h => h)) with ⟨hg, h⟩ | ⟨hg, h⟩
        · rw [e1, e2] at h
          split at h
          · obtain ⟨v, us, h1, h2, h3⟩ := h
            obtain ⟨s', g1, g2⟩ := xkg l xs' r (i + 1) _ hxs hr1 hr2 h3
            refine ⟨s', ⟨_, ⟨o, ho, .inl ⟨hg, v, us, ?_, ?_, rfl⟩⟩, g1⟩, g2⟩
            · have := h1 o rfl
              rw [xjx] at this
              exact ⟨by simpa only [hp] using this, fun hk => absurd hk (by rename_i hcc; revert hcc; cases o.op <;> simp [isCall, keyed])⟩
            · simpa only [hp] using xxs h2
          · obtain ⟨⟨v, us⟩, h1, h2, h3⟩ := h
            obtain ⟨s', g1, g2⟩ := xkg l xs' r (i + 1) _ hxs hr1 hr2 h3
            refine ⟨s', ⟨_, ⟨o, ho, .inl ⟨hg, v, us, ?_, ?_, rfl⟩⟩, g1⟩, g2⟩
            · rw [xjx] at h1
              have := xci h1
              exact ⟨by simpa only [hp] using this, fun _ => by simpa only [hp] using h1⟩
            · simpa only [hp] using xxs h2
        · rw [e2] at h
          obtain ⟨s', g1, g2⟩ := xkg l xs' r (i + 1) _ hxs hr1 hr2 h
          exact ⟨s', ⟨_, ⟨o, ho, .inr ⟨hg, rfl⟩⟩, g1⟩, g2⟩
    · cases hr
def cwp (P : Program) (n : Nat) (ac : AC) (Q : Exit → AS → Prop) (s : AS) : Prop := ∀ c, comp n c = some ac → awp P n c Q s
section rules
variable {P : Program} {n : Nat} {Q : Exit → AS → Prop} {s : AS}
theorem xkm {c : Code} {x y : AC} (h : comp n c = some (.seq x y)) : ∃ a b, c = .seq a b ∧ comp n a = some x ∧ comp n b = some y := by
  cases c <;> simp only [comp] at h
  case seq a b =>
    split at h
    · rename_i x' y' h1 h2
      injection h with h
      injection h with e1 e2
      subst e1; subst e2
      exact ⟨a, b, rfl, h1, h2⟩
    · cases h
  all_goals first
    | (injection h with h; cases h; done)
    | (exfalso; split at h <;> first
        | (injection h with h; cases h; done)
        | (split at h <;> first
            | (split at h <;> first
                | (injection h with h; cases h; done)
                | (split at h <;> first | (injection h with h; cases h; done) | (cases h; done) | (split at h <;> first | (injection h with h; cases h; done) | (cases h; done))))
            | (cases h; done))
        | (cases h; done))
    | (cases h; done)
theorem xcp {c : Code} {o : Operand} {x y : AC} (h : comp n c = some (.cond o x y)) : ∃ a b, c = .cond o a b ∧ comp n a = some x ∧ comp n b = some y := by
  cases c <;> simp only [comp] at h
  case cond o' a b =>
    split at h
    · rename_i x' y' h1 h2
      injection h with h
      injection h with e0 e1 e2
      subst e0; subst e1; subst e2
      exact ⟨a, b, rfl, h1, h2⟩
    · cases h
  all_goals first
    | (injection h with h; cases h; done)
    | (exfalso; split at h <;> first
        | (injection h with h; cases h; done)
        | (split at h <;> first
            | (split at h <;> first
                | (injection h with h; cases h; done)
                | (split at h <;> first | (injection h with h; cases h; done) | (cases h; done) | (split at h <;> first | (injection h with h; cases h; done) | (cases h; done))))
            | (cases h; done))
        | (cases h; done))
    | (cases h; done)
theorem xrm {c : Code} {id : Nat} {x : AC} (h : comp n c = some (.block id x)) : ∃ a, c = .block id a ∧ comp n a = some x := by
  cases c <;> simp only [comp] at h
  case block id' a =>
    split at h
    · rename_i x' h1
      injection h with h
      injection h with e0 e1
      subst e0; subst e1
      exact ⟨a, rfl, h1⟩
    · cases h
  all_goals first
    | (injection h with h; cases h; done)
    | (exfalso; split at h <;> first
        | (injection h with h; cases h; done)
        | (split at h <;> first
            | (split at h <;> first
                | (injection h with h; cases h; done)
                | (split at h <;> first | (injection h with h; cases h; done) | (cases h; done) | (split at h <;> first | (injection h with h; cases h; done) | (cases h; done))))
            | (cases h; done))
        | (cases h; done))
    | (cases h; done)
theorem xcu {c : Code} {x : AC} (h : comp n c = some (.loop x)) : ∃ a, c = .loop a ∧ comp n a = some x := by
  cases c <;> simp only [comp] at h
  case loop a =>
    split at h
    · rename_i x' h1
      injection h with h
      injection h with e1
      subst e1
      exact ⟨a, rfl, h1⟩
    · cases h
  all_goals first
    | (injection h with h; cases h; done)
    | (exfalso; split at h <;> first
        | (injection h with h; cases h; done)
        | (split at h <;> first
            | (split at h <;> first
                | (injection h with h; cases h; done)
                | (split at h <;> first | (injection h with h; cases h; done) | (cases h; done) | (split at h <;> first | (injection h with h; cases h; done) | (cases h; done))))
            | (cases h; done))
        | (cases h; done))
    | (cases h; done)
theorem xnm {c : Code} {x : AC} (h : comp n c = some (.scope x)) : ∃ a, c = .scope a ∧ comp n a = some x := by
  cases c <;> simp only [comp] at h
  case scope a =>
    split at h
    · rename_i x' h1
      injection h with h
      injection h with e1
      subst e1
      exact ⟨a, rfl, h1⟩
    · cases h
  all_goals first
    | (injection h with h; cases h; done)
    | (exfalso; split at h <;> first
        | (injection h with h; cases h; done)
        | (split at h <;> first
            | (split at h <;> first
                | (injection h with h; cases h; done)
                | (split at h <;> first | (injection h with h; cases h; done) | (cases h; done) | (split at h <;> first | (injection h with h; cases h; done) | (cases h; done))))
            | (cases h; done))
        | (cases h; done))
    | (cases h; done)
theorem xep {c : Code} (h : comp n c = some .skip) : c = .skip := by
  cases c <;> simp only [comp] at h
  case skip => rfl
  all_goals first
    | (injection h with h; cases h; done)
    | (exfalso; split at h <;> first
        | (injection h with h; cases h; done)
        | (split at h <;> first
            | (split at h <;> first
                | (injection h with h; cases h; done)
                | (split at h <;> first | (injection h with h; cases h; done) | (cases h; done) | (split at h <;> first | (injection h with h; cases h; done) | (cases h; done))))
            | (cases h; done))
        | (cases h; done))
    | (cases h; done)
theorem xzw {c : Code} (h : comp n c = some .ret) : c = .ret := by
  cases c <;> simp only [comp] at h
  case ret => rfl
  all_goals first
    | (injection h with h; cases h; done)
    | (exfalso; split at h <;> first
        | (injection h with h; cases h; done)
        | (split at h <;> first
            | (split at h <;> first
                | (injection h with h; cases h; done)
                | (split at h <;> first | (injection h with h; cases h; done) | (cases h; done) | (split at h <;> first | (injection h with h; cases h; done) | (cases h; done))))
            | (cases h; done))
        | (cases h; done))
    | (cases h; done)
theorem x2n {c : Code} {id : Nat} (h : comp n c = some (.exit id)) : c = (.exit id) := by
  cases c <;> simp only [comp] at h
  case exit id' =>
    injection h with h
    injection h with e
    subst e
    rfl
  all_goals first
    | (injection h with h; cases h; done)
    | (exfalso; split at h <;> first
        | (injection h with h; cases h; done)
        | (split at h <;> first
            | (split at h <;> first
                | (injection h with h; cases h; done)
                | (split at h <;> first | (injection h with h; cases h; done) | (cases h; done) | (split at h <;> first | (injection h with h; cases h; done) | (cases h; done))))
            | (cases h; done))
        | (cases h; done))
    | (cases h; done)
theorem xcs {c : Code} {id : Nat} (h : comp n c = some (.label id)) : c = (.label id) := by
  cases c <;> simp only [comp] at h
  case label id' =>
    injection h with h
    injection h with e
    subst e
    rfl
  all_goals first
    | (injection h with h; cases h; done)
    | (exfalso; split at h <;> first
        | (injection h with h; cases h; done)
        | (split at h <;> first
            | (split at h <;> first
                | (injection h with h; cases h; done)
                | (split at h <;> first | (injection h with h; cases h; done) | (cases h; done) | (split at h <;> first | (injection h with h; cases h; done) | (cases h; done))))
            | (cases h; done))
        | (cases h; done))
    | (cases h; done)
theorem xm3 {c : Code} {id : Nat} (h : comp n c = some (.goto id)) : c = (.goto id) := by
  cases c <;> simp only [comp] at h
  case goto id' =>
    injection h with h
    injection h with e
    subst e
    rfl
  all_goals first
    | (injection h with h; cases h; done)
    | (exfalso; split at h <;> first
        | (injection h with h; cases h; done)
        | (split at h <;> first
            | (split at h <;> first
                | (injection h with h; cases h; done)
                | (split at h <;> first | (injection h with h; cases h; done) | (cases h; done) | (split at h <;> first | (injection h with h; cases h; done) | (cases h; done))))
            | (cases h; done))
        | (cases h; done))
    | (cases h; done)
theorem xnl {c : Code} {l : List O1} (h : comp n c = some (.region l)) : ∃ id ops, c = .region id ops false ∧ fits n ops = true ∧ xz ops ops.toList = some l := by
  cases c <;> simp only [comp] at h
  case region id ops draw =>
    split at h
    · rename_i hf
      split at h
      · rename_i l' hl
        cases draw
        · simp only [Bool.false_eq_true, if_false] at h
          injection h with h
          injection h with e
          subst e
          exact ⟨id, ops, rfl, hf, hl⟩
        · simp only [if_true] at h
          split at h
          · injection h with h; cases h
          · split at h
            · injection h with h; cases h
            · cases h
      · cases h
    · cases h
  all_goals first
    | (injection h with h; cases h; done)
    | (exfalso; split at h <;> first
        | (injection h with h; cases h; done)
        | (split at h <;> first
            | (split at h <;> first
                | (injection h with h; cases h; done)
                | (split at h <;> first | (injection h with h; cases h; done) | (cases h; done) | (split at h <;> first | (injection h with h; cases h; done) | (cases h; done))))
            | (cases h; done))
        | (cases h; done))
    | (cases h; done)
theorem xi1 {ops : Array Oper} {rd : List Bool} (h : okD ops rd = true) : okS ops = true := by
  unfold okS
  rw [List.all_eq_true]
  rintro ⟨o, i⟩ hm
  have hk := List.all_eq_true.1 h (o, i) hm
  simp only [Bool.and_eq_true] at hk ⊢
  refine ⟨hk.1.1, List.all_eq_true.2 fun j hj => ?_⟩
  have hj' := List.all_eq_true.1 hk.2 j hj
  simp only [Bool.or_eq_true] at hj' ⊢
  rcases hj' with h1 | h1
  · exact .inl h1
  · unfold indep at h1
    simp only [Bool.and_eq_true] at h1
    exact .inr h1.1.1
theorem xyk {c : Code} {l : List O1} {B : List Nat} {rd : List Bool} (h : comp n c = some (.draw l B rd)) : ∃ id ops, c = .region id ops true ∧ fits n ops = true ∧ xz ops ops.toList = some l ∧ (rd ≠ [] → okD ops rd = true) ∧ okS ops = true ∧ (rd ≠ [] → B = befsL ops.toList []) ∧ ∀ i j, ((befsL ops.toList []).getD i 0).testBit j = false → (B.getD i 0).testBit j = false ∨ exm (ops.getD j default) (ops.getD i default) = true := by
  cases c <;> simp only [comp] at h
  case region id ops draw =>
    split at h
    · rename_i hf
      split at h
      · rename_i l' hl
        cases draw
        · simp only [Bool.false_eq_true, if_false] at h
          injection h with h
          cases h
        · simp only [if_true] at h
          split at h
          · rename_i hok
            injection h with h
            injection h with e e2 e3
            subst e; subst e2; subst e3
            exact ⟨id, ops, rfl, hf, hl, fun _ => hok, xi1 hok, fun _ => rfl, fun i j h => .inl h⟩
          · split at h
            · rename_i hok
              injection h with h
              injection h with e e2 e3
              subst e; subst e2; subst e3
              exact ⟨id, ops, rfl, hf, hl, fun e => absurd rfl e, hok, fun e => absurd rfl e, fun i j h => by
                cases hq : ((exB ops.toList (befsL ops.toList [])).getD i 0).testBit j with
                | false => exact .inl rfl
                | true =>
                  rcases xw9 hq with h1 | h1
                  · rw [h] at h1; cases h1
                  · exact .inr (by simpa using h1)⟩
            · cases h
      · cases h
    · cases h
  all_goals first
    | (injection h with h; cases h; done)
    | (exfalso; split at h <;> first
        | (injection h with h; cases h; done)
        | (split at h <;> first
            | (split at h <;> first
                | (injection h with h; cases h; done)
                | (split at h <;> first | (injection h with h; cases h; done) | (cases h; done) | (split at h <;> first | (injection h with h; cases h; done) | (cases h; done))))
            | (cases h; done))
        | (cases h; done))
    | (cases h; done)
theorem xcc {c : AC} {Q' : Exit → AS → Prop} (h : cwp P n c Q' s) (hq : ∀ e s, Q' e s → Q e s) : cwp P n c Q s := fun c' hc => xl5 (h c' hc) hq
theorem x4i {x y : AC} (h : ∀ K : AS → Prop, (∀ s, cwp P n y Q s → K s) → cwp P n x (seqQ K Q) s) : cwp P n (.seq x y) Q s := by
  intro c hc
  obtain ⟨a, b, rfl, h1, h2⟩ := xkm hc
  exact xuab (h (awp P n b Q) (fun s hs => hs b h2) a h1)
theorem xrx {x y : AC} {o : Operand} {b : Bool} (hb : ev s.T o = .val (.bool b)) (h1 : b = true → cwp P n x Q s) (h2 : b = false → cwp P n y Q s) : cwp P n (.cond o x y) Q s := by
  intro c hc
  obtain ⟨a, b', rfl, g1, g2⟩ := xcp hc
  exact xh6 hb (fun e => h1 e a g1) fun e => h2 e b' g2
theorem x8q {x y : AC} {o : Operand} (hb : ev s.T o = .val (.bool true)) (h1 : cwp P n x Q s) : cwp P n (.cond o x y) Q s := xrx hb (fun _ => h1) fun e => by cases e
theorem x1o {x y : AC} {o : Operand} (hb : ev s.T o = .val (.bool false)) (h1 : cwp P n y Q s) : cwp P n (.cond o x y) Q s := xrx hb (fun e => by cases e) fun _ => h1
theorem xjm (h : Q .normal s) : cwp P n .skip Q s := fun _ hc => by rw [xep hc]; exact xo6 h
theorem x9s (h : Q .ret s) : cwp P n .ret Q s := fun _ hc => by rw [xzw hc]; exact xz9 h
theorem xdr {id : Nat} (h : Q (.exit id) s) : cwp P n (.exit id) Q s := fun _ hc => by rw [x2n hc]; exact x16 h
theorem xgj {id : Nat} (h : Q .normal s) : cwp P n (.label id) Q s := fun _ hc => by rw [xcs hc]; exact xk1 h
theorem x7q {id : Nat} (h : Q (.goto id) s) : cwp P n (.goto id) Q s := fun _ hc => by rw [xm3 hc]; exact xd6 h
theorem xdj {id : Nat} {x : AC} (h : cwp P n x (blockQ id Q) s) : cwp P n (.block id x) Q s := by
  intro c hc
  obtain ⟨a, rfl, g1⟩ := xrm hc
  exact xp1 (h a g1)
theorem xy5 {x : AC} (I : AS → Prop) (μ : AS → Nat) (h0 : I s) (round : ∀ s, I s → cwp P n x (seqQ (fun s' => I s' ∧ μ s' < μ s) Q) s) : cwp P n (.loop x) Q s := by
  intro c hc
  obtain ⟨a, rfl, g1⟩ := xcu hc
  exact xm6 I μ h0 fun s hs => round s hs a g1
theorem xl1 {x : AC} (h : cwp P n x (xez Q) s) : cwp P n (.scope x) Q s := by
  intro c hc
  obtain ⟨a, rfl, g1⟩ := xnm hc
  exact xm1 (h a g1)
def findA : AC → Nat → Option AC
  | .seq a b, l =>
    match findA a l with
    | some rest => some (.seq rest b)
    | none => findA b l
  | .label l', l => if l' = l then some .skip else none
  | _, _ => none
theorem xp0 : ∀ (c : Code) (x : AC) (l : Nat), comp n c = some x → (∀ r, findA x l = some r → ∃ rest, findLabel c l = some rest ∧ comp n rest = some r) ∧ (findA x l = none → findLabel c l = none) := by
  intro c
  induction c with
  | seq a b iha ihb =>
    intro x l h
    simp only [comp] at h
    split at h
    · rename_i x' y' h1 h2
      injection h with h
      subst h
      obtain ⟨a1, a2⟩ := iha x' l h1
      obtain ⟨b1, b2⟩ := ihb y' l h2
      simp only [findA, findLabel]
      cases hf : findA x' l with
      | none =>
        rw [a2 hf]
        exact ⟨b1, b2⟩
      | some r =>
        obtain ⟨rest, e1, e2⟩ := a1 r hf
        rw [e1]
        refine ⟨fun r' hr => ?_, fun hr => by cases hr⟩
        injection hr with hr
        subst hr
        exact ⟨_, rfl, by simp [comp, e2, h2]⟩
    · cases h
  | label l' =>
    intro x l h
    simp only [comp] at h
    injection h with h
    subst h
    simp only [findA, findLabel]
    by_cases e : l' = l
    · subst e
      simp [comp]
    · simp [e]
  | _ =>
    intro x l h
    have hx : findA x l = none := by
      cases x <;> first
        | rfl
        | (exfalso; obtain ⟨a, b, e, _⟩ := xkm h; cases e)
        | (exfalso; have e := xcs h; cases e)
    exact ⟨(fun r hr => by rw [hx] at hr; cases hr), fun _ => rfl⟩
theorem xu2 {x rest : AC} (l : Nat) (J : AS → Prop) (μ : AS → Nat) (hf : findA x l = some rest)
    (first : cwp P n x (jumpQ l J Q) s) (pass : ∀ s, J s → cwp P n rest (jumpQ l (fun s' => J s' ∧ μ s' < μ s) Q) s) : cwp P n (.scope x) Q s := by
  intro c hc
  obtain ⟨a, rfl, g1⟩ := xnm hc
  obtain ⟨r, e1, e2⟩ := (xp0 a x l g1).1 rest hf
  exact xis l J μ e1 (first a g1) fun s hs => pass s hs r e2
theorem x4r {l : List O1} (h : wps1 P s.nx 0 l ⟨s.T, s.H, s.nx + l.length⟩ (Q .normal)) : cwp P n (.region l) Q s := by
  intro c hc
  obtain ⟨id, ops, rfl, h1, h2⟩ := xnl hc
  have hl : ∀ (l : List Oper) (xs : List O1), xz ops l = some xs → xs.length = l.length := by
    intro l
    induction l with
    | nil => intro xs h; simp only [xz] at h; injection h with h; subst h; rfl
    | cons o l ih =>
      intro xs h
      simp only [xz] at h
      split at h
      · rename_i x xs' g1 g2
        injection h with h
        subst h
        simp [ih _ g2]
      · cases h
  refine xzz h1 (xfk _ _ _ _ h2 ?_)
  rw [hl _ _ h2] at h
  simpa using h
theorem xrw (hm : P.follows .mixedOrders = true) {l : List O1} {B : List Nat} {rd : List Bool} (hr : rd ≠ []) (h : wpsD1 P B rd s.nx 0 l ⟨s.T, s.H, s.nx + l.length⟩ (Q .normal)) : cwp P n (.draw l B rd) Q s := by
  intro c hc
  obtain ⟨id, ops, rfl, h1, h2, h3, h3', hBe, _⟩ := xyk hc
  obtain rfl := hBe hr
  have hl : ∀ (l : List Oper) (xs : List O1), xz ops l = some xs → xs.length = l.length := by
    intro l
    induction l with
    | nil => intro xs h; simp only [xz] at h; injection h with h; subst h; rfl
    | cons o l ih =>
      intro xs h
      simp only [xz] at h
      split at h
      · rename_i x xs' g1 g2
        injection h with h
        subst h
        simp [ih _ g2]
      · cases h
  refine xu5 hm h1 (h3 hr) (xzj _ _ _ _ h2 ?_)
  rw [hl _ _ h2] at h
  simpa using h
theorem xe3 (hm : P.follows .mixedOrders = true) {l : List O1} {B : List Nat} (VW : List (List Nat × List Nat)) (hlen : VW.length = l.length) (hmeet : meetA s.nx 0 B [] VW) (h : wpsV1 P s.nx 0 l VW ⟨s.T, s.H, s.nx + l.length⟩ (Q .normal)) : cwp P n (.draw l B []) Q s := by
  intro c hc
  obtain ⟨id, ops, rfl, h1, h2, _, h3, _, hBx⟩ := xyk hc
  have hl : ∀ (l : List Oper) (xs : List O1), xz ops l = some xs → xs.length = l.length := by
    intro l
    induction l with
    | nil => intro xs h; simp only [xz] at h; injection h with h; subst h; rfl
    | cons o l ih =>
      intro xs h
      simp only [xz] at h
      split at h
      · rename_i x xs' g1 g2
        injection h with h
        subst h
        simp [ih _ g2]
      · cases h
  have hlo := hl _ _ h2
  rw [hlo] at h
  obtain ⟨s', g1, g2⟩ := xkg (VW := VW) ops.toList l VW 0 _ h2 (fun k => by simp) (fun k => by simp) h
  refine xpp hm h1 h3 _ _ ?_ ⟨s', by simpa [List.range_eq_range'] using g1, g2⟩
  intro i j hji hi hb
  have hsz : VW.length = ops.size := by rw [hlen, hlo]; simp
  have hi' : i < VW.length := by omega
  have hj' : j < VW.length := by omega
  have hpi : VW[i]? = some VW[i] := List.getElem?_eq_getElem hi'
  have hpj : VW[j]? = some VW[j] := List.getElem?_eq_getElem hj'
  rcases hBx i j hb with hb | hb
  rotate_left
  · exact .inr hb
  refine .inl ?_
  obtain ⟨k1, k2⟩ := xxj hmeet rfl i VW[i] j VW[j] hpi (by simpa using hpj) (by omega) hb
  have ei : VW.getD i ([], []) = VW[i] := by simp [List.getD_eq_getElem?_getD, hpi]
  have ej : VW.getD j ([], []) = VW[j] := by simp [List.getD_eq_getElem?_getD, hpj]
  have a1 : ∀ l, l ∈ (VW.getD i ([], [])).2 ∨ l = s.nx + i → ¬ (l ∈ (VW.getD j ([], [])).1 ∨ l ∈ (VW.getD j ([], [])).2) := by
    rw [ei, ej]; exact fun l hl => k1 l (by simpa using hl)
  have a2 : ∀ l, l ∈ (VW.getD j ([], [])).2 ∨ l = s.nx + j → ¬ (l ∈ (VW.getD i ([], [])).1 ∨ l ∈ (VW.getD i ([], [])).2) := by
    rw [ei, ej]; exact fun l hl => k2 l hl
  exact ⟨a1, a2, fun l hl => .inr hl, fun l hl => .inr hl⟩
structure FnC (P : Program) (f : FuncId) (n : Nat) (rs : List ResultVar) (ac : AC) : Prop where
  callable : callable P f = true
  code : ∃ fn c, P.funcs[f]? = some fn ∧ fn.body = some c ∧ fn.ntmps = n ∧ fn.results.toList = rs ∧ comp n c = some ac
def retR (P : Program) (rs : List ResultVar) (R : AV → (Nat → Option AO) → Nat → Prop) (s : AS) : Prop := Got (resA P s rs) fun vs => R (mkRes vs) s.H s.nx
theorem acall {f : FuncId} {rs : List ResultVar} {ac : AC} (hf : FnC P f n rs ac) {args : List AV} (hn : args.length ≤ n) {H : Nat → Option AO} {nx : Nat} {R : AV → (Nat → Option AO) → Nat → Prop}
    (h : ∀ Q : Exit → AS → Prop, (∀ s, retR P rs R s → Q .ret s) → (∀ s, retR P rs R s → Q .normal s) → cwp P n ac Q ⟨argT args, H, nx⟩) : ACall P f args H nx R := by
  obtain ⟨fn, c, h1, h2, h3, h4, h5⟩ := hf.code
  subst h3; subst h4
  exact xtv h1 h2 hf.callable hn (h (retQ P fn R) (fun s hs => hs) (fun s hs => hs) c h5)
end rules
end Go.Proofs.YtefdlpandfhcgaaGreatDoor.AL

