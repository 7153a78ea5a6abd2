/- A law of the given program is proved: part 44 of 50. -/
import Derived.Test.YtefdlpandfhcgaaGreatDoorA43
set_option linter.all false
/- AL: closed runs: an interpreter of the short form on abstract states, and that it tells the truth. -/
set_option linter.all false
namespace Go.Proofs.YtefdlpandfhcgaaGreatDoor.AL
open Go Go.Proofs Go.RowKit
abbrev XH := List (Nat × Option AO)
structure XS where
  T : List AV
  H : XH
  nx : Nat
def tOf (T : List AV) : Nat → AV := fun t => (T[t]?).getD (.val undef)
def hOf : XH → Nat → Option AO
  | [], _ => none
  | p :: H, l => bif Nat.beq l p.1 then p.2 else hOf H l
def asOf (s : XS) : AS := ⟨tOf s.T, hOf s.H, s.nx⟩
theorem beq_ff {l k : Nat} (e : ¬ l = k) : Nat.beq l k = false := by
  cases h : Nat.beq l k with
  | false => rfl
  | true => exact absurd (Nat.eq_of_beq_eq_true h) e
theorem x57 {T : List AV} {d : Nat} {v : AV} (h : d < T.length) : tOf (T.set d v) = upd (tOf T) d v := by
  funext t
  simp only [tOf, upd_at]
  by_cases e : t = d
  · subst e; simp [h]
  · rw [if_neg e, List.getElem?_set_ne (Ne.symm e)]
theorem xa6 (args : List AV) (m : Nat) : tOf (args ++ List.replicate m (.val undef)) = argT args := by
  funext t
  simp only [tOf, argT]
  by_cases h : t < args.length
  · rw [List.getElem?_append_left h]
  · rw [List.getElem?_append_right (by omega), List.getElem?_eq_none (l := args) (by omega), List.getElem?_replicate]
    split <;> rfl
theorem x9j (k : Nat) (o : Option AO) (H : XH) : hOf ((k, o) :: H) = upd (hOf H) k o := by
  funext l
  simp only [hOf, upd_at]
  by_cases e : l = k
  · subst e; simp
  · rw [beq_ff e, if_neg e]; rfl
def put1 (k : Nat) (o : Option AO) : XH → XH
  | [] => [(k, o)]
  | p :: H => bif Nat.beq p.1 k then (k, o) :: H else p :: put1 k o H
theorem xyx (k : Nat) (o : Option AO) : ∀ H : XH, hOf (put1 k o H) = upd (hOf H) k o
  | [] => by funext l; rw [put1, x9j]
  | p :: H => by
    obtain ⟨j, q⟩ := p
    unfold put1
    by_cases e : j = k
    · subst e
      simp only [Nat.beq_refl, cond_true]
      rw [x9j, x9j]
      funext l
      simp only [upd_at]
      split <;> rfl
    · simp only [beq_ff e, cond_false]
      rw [x9j, x9j, xyx k o H]
      funext l
      simp only [upd_at]
      by_cases e1 : l = j
      · subst e1; rw [if_pos rfl, if_neg e, if_pos rfl]
      · rw [if_neg e1, if_neg e1]
def updH (H : XH) : Upds → XH
  | [] => H
  | (k, o) :: us => updH (put1 k o H) us
theorem xnk : ∀ (us : Upds) (H : XH), hOf (updH H us) = applyU (hOf H) us
  | [], H => rfl
  | (k, o) :: us, H => by rw [updH, xnk us, xyx]; rfl
def guardX (g : Option (Tmp × Bool)) (T : List AV) : Option Bool :=
  match g with
  | none => some true
  | some (d, want) => match tOf T d with
    | .val (.bool b) => some (b == want)
    | .val _ => some false
    | _ => none
theorem xmm {g : Option (Tmp × Bool)} {T : List AV} {yes no : Prop} (h : guardX g T = some true) (hy : yes) : guard1 g (tOf T) yes no := by
  unfold guardX at h
  unfold guard1
  split
  · exact hy
  · rename_i d want
    simp only at h
    split
    · rename_i b hb
      rw [hb] at h
      simp only [Option.some.injEq, beq_iff_eq] at h
      exact ⟨fun _ => hy, fun hn => absurd h hn⟩
    · rename_i v hv hb
      rw [hb] at h
      cases v <;> first
        | exact absurd rfl (hv _)
        | (simp at h)
    · rename_i h1 h2
      generalize tOf T d = x at h h1 h2
      cases x <;> simp_all
theorem xgr {g : Option (Tmp × Bool)} {T : List AV} {yes no : Prop} (h : guardX g T = some false) (hy : no) : guard1 g (tOf T) yes no := by
  unfold guardX at h
  unfold guard1
  split
  · simp at h
  · rename_i d want
    simp only at h
    split
    · rename_i b hb
      rw [hb] at h
      simp only [Option.some.injEq, beq_eq_false_iff_ne] at h
      exact ⟨fun hn => absurd hn h, fun _ => hy⟩
    · exact hy
    · rename_i h1 h2
      generalize tOf T d = x at h h1 h2
      cases x <;> simp_all
def putX (T : List AV) (d : Option Tmp) (v : AV) : Option (List AV) :=
  match d with
  | none => some T
  | some d => bif Nat.blt d T.length then some (T.set d v) else none
theorem xsc {T T' : List AV} {d : Option Tmp} {v : AV} (h : putX T d v = some T') : tOf T' = putA (tOf T) d v ∧ T'.length = T.length := by
  cases d with
  | none => simp only [putX, Option.some.injEq] at h; subst h; exact ⟨rfl, rfl⟩
  | some d =>
    simp only [putX] at h
    by_cases e : d < T.length
    · have : Nat.blt d T.length = true := Nat.ble_eq_true_of_le e
      rw [this] at h
      simp only [cond_true, Option.some.injEq] at h
      subst h
      exact ⟨x57 e, by simp⟩
    · have : Nat.blt d T.length = false := by
        cases hb : Nat.blt d T.length with
        | false => rfl
        | true => exact absurd (Nat.le_of_ble_eq_true hb) e
      rw [this] at h
      simp at h
def nilV : AV → Option Bool
  | .val (.slice none 0 0) => some true
  | .msl _ (_ + 1) => some false
  | .sl _ (_ :: _) => some false
  | _ => none
def nilOp (P : Program) (ρ : Operand → AV) : Op → Option Bool
  | .binOp .eql T x (.const (.slice none 0 0)) _ => match xfb P T with
    | some _ => nilV (ρ x)
    | none => none
  | _ => none
section
variable (P : Program)
def xOps (call : FuncId → List AV → XH → Nat → Option (AV × XH × Nat)) (nx0 : Nat) : Nat → List O1 → XS → Option XS
  | _, [], s => some s
  | i, o :: rest, s => match guardX o.g s.T with
    | some true => bif isCall o.op then
        match o.op with
        | .call c => match xvb (ev (tOf s.T)) c with
          | some (f, ag) => match call f ag s.H s.nx with
            | some (v, H', nx') => match putX s.T o.dst v with
              | some T' => xOps call nx0 (i + 1) rest ⟨T', H', nx'⟩
              | none => none
            | none => none
          | none => none
        | op => match nilOp P (ev (tOf s.T)) op with
          | some b => match putX s.T o.dst (.val (.bool b)) with
            | some T' => xOps call nx0 (i + 1) rest ⟨T', s.H, s.nx⟩
            | none => none
          | none => none
      else match evalOp P o.op (hOf s.H) (nx0 + i) (ev (tOf s.T)) with
        | some (v, us) => match putX s.T o.dst v with
          | some T' => xOps call nx0 (i + 1) rest ⟨T', updH s.H us, s.nx⟩
          | none => none
        | none => none
    | some false => match putX s.T o.dst (.val undef) with
      | some T' => xOps call nx0 (i + 1) rest ⟨T', s.H, s.nx⟩
      | none => none
    | none => none
def xDraw (callN callD : FuncId → List AV → Option AV) (B : List Nat) (rd : List Bool) (nx0 : Nat) : Nat → List O1 → XS → Option XS
  | _, [], s => some s
  | i, o :: rest, s => match guardX o.g s.T with
    | some true => bif isCall o.op then
        match o.op with
        | .call c => match xvb (ev (tOf s.T)) c with
          | some (f, ag) => match frzs (viewD nx0 (B.getD i 0) (rd.getD i false) (hOf s.H)) 300 ag with
            | some ag' => match callN f ag' with
              | some v => match putX s.T o.dst v with
                | some T' => xDraw callN callD B rd nx0 (i + 1) rest ⟨T', s.H, s.nx⟩
                | none => none
              | none => match callD f ag' with
                | some v => bif closeds ag || flat v then match putX s.T o.dst v with
                    | some T' => xDraw callN callD B rd nx0 (i + 1) rest ⟨T', s.H, s.nx⟩
                    | none => none
                  else none
                | none => none
            | none => none
          | none => none
        | _ => none
      else match evalOp P o.op (viewD nx0 (B.getD i 0) (rd.getD i false) (hOf s.H)) (nx0 + i) (ev (tOf s.T)) with
        | some (v, us) => match putX s.T o.dst v with
          | some T' => xDraw callN callD B rd nx0 (i + 1) rest ⟨T', updH s.H us, s.nx⟩
          | none => none
        | none => none
    | some false => match putX s.T o.dst (.val undef) with
      | some T' => xDraw callN callD B rd nx0 (i + 1) rest ⟨T', s.H, s.nx⟩
      | none => none
    | none => none
def okLB (W : List Nat) (new : Nat) : Upds → Bool
  | [] => true
  | p :: us => (Nat.beq p.1 new || W.any (Nat.beq p.1)) && okLB W new us
def disB : List Nat → List Nat → Bool
  | [], _ => true
  | a :: A, B => !B.any (Nat.beq a) && disB A B
def meetRB (nx i b : Nat) (V W : List Nat) : Nat → List (List Nat × List Nat) → Bool
  | _, [] => true
  | j, p :: r => (b.testBit j || (disB ((nx + i) :: W) p.1 && disB ((nx + i) :: W) p.2 && disB ((nx + j) :: p.2) V && disB ((nx + j) :: p.2) W)) && meetRB nx i b V W (j + 1) r
def locOf : AV → List Nat
  | .loc l _ _ _ => [l]
  | _ => []
def mslOf : List AV → List Nat
  | [] => []
  | .msl l _ :: r => l :: mslOf r
  | _ :: r => mslOf r
def vwX (ρ : Operand → AV) : Op → List Nat × List Nat
  | .load _ a => (locOf (ρ a), [])
  | .store _ a _ => ([], locOf (ρ a))
  | .call c => ([], match xvb ρ c with
    | some (_, ag) => mslOf ag
    | none => [])
  | _ => ([], [])
def xFine (callD : FuncId → List AV → Option AV) (nx0 : Nat) : Nat → List Nat → List (List Nat × List Nat) → List O1 → XS → Option XS
  | _, _, _, [], s => some s
  | _, [], _, _ :: _, _ => none
  | i, b :: B, dn, o :: rest, s => match guardX o.g s.T with
    | some true => bif meetRB nx0 i b (vwX (ev (tOf s.T)) o.op).1 (vwX (ev (tOf s.T)) o.op).2 0 dn then
      bif isCall o.op then
        match o.op with
        | .call c => match xvb (ev (tOf s.T)) c with
          | some (f, ag) => match fk (viewL (vwX (ev (tOf s.T)) o.op).1 (vwX (ev (tOf s.T)) o.op).2 (hOf s.H)) ag with
            | some (ag', _) => match callD f ag' with
              | some v => bif okLB (vwX (ev (tOf s.T)) o.op).2 (nx0 + i) (fkU ag) then match putX s.T o.dst v with
                  | some T' => xFine callD nx0 (i + 1) B (dn ++ [vwX (ev (tOf s.T)) o.op]) rest ⟨T', updH s.H (fkU ag), s.nx⟩
                  | none => none
                else none
              | none => none
            | none => none
          | none => none
        | _ => none
      else match evalOp P o.op (viewL (vwX (ev (tOf s.T)) o.op).1 (vwX (ev (tOf s.T)) o.op).2 (hOf s.H)) (nx0 + i) (ev (tOf s.T)) with
        | some (v, us) => bif okLB (vwX (ev (tOf s.T)) o.op).2 (nx0 + i) us then match putX s.T o.dst v with
            | some T' => xFine callD nx0 (i + 1) B (dn ++ [vwX (ev (tOf s.T)) o.op]) rest ⟨T', updH s.H us, s.nx⟩
            | none => none
          else none
        | none => none
      else none
    | some false => bif meetRB nx0 i b [] [] 0 dn then match putX s.T o.dst (.val undef) with
      | some T' => xFine callD nx0 (i + 1) B (dn ++ [([], [])]) rest ⟨T', s.H, s.nx⟩
      | none => none
      else none
    | none => none
def xJ (f : XS → Option (Exit × XS)) (l : Nat) : Nat → XS → Option (Exit × XS)
  | 0, _ => none
  | j + 1, s => match f s with
    | some (.goto l', s') => bif Nat.beq l' l then xJ f l j s' else none
    | r => r
variable (tab : FuncId → Option (Nat × List ResultVar × AC)) (told : FuncId → Option (List AV → Option AV))
def xF (rc : AC → XS → Option (Exit × XS)) (f : FuncId) (ag : List AV) (H : XH) (nx : Nat) : Option (AV × XH × Nat) :=
  match told f with
  | some g => match frzs (hOf H) 300 ag with
    | some ag' => match g ag' with
      | some r => some (r, H, nx)
      | none => none
    | none => none
  | none => match tab f with
    | some (n, rs, ac) => bif Nat.ble ag.length n then
        match rc ac ⟨ag ++ List.replicate (n - ag.length) (.val undef), H, nx⟩ with
        | some (.ret, s') => match resA P (asOf s') rs with
          | some vs => some (mkRes vs, s'.H, s'.nx)
          | none => none
        | some (.normal, s') => match resA P (asOf s') rs with
          | some vs => some (mkRes vs, s'.H, s'.nx)
          | none => none
        | _ => none
      else none
    | none => none
def xFD (rc : AC → XS → Option (Exit × XS)) (f : FuncId) (ag : List AV) : Option AV :=
  match told f with
  | some _ => none
  | none => match xF P tab told rc f ag [] 0 with
    | some (r, H', _) => frz (hOf H') 300 r
    | none => none
def xFN (rc : AC → XS → Option (Exit × XS)) (f : FuncId) (ag : List AV) : Option AV :=
  match told f with
  | some g => g ag
  | none => match xF P tab told rc f ag [] 0 with
    | some (r, H', _) => frN (hOf H') 300 r
    | none => none
def xC : Nat → AC → XS → Option (Exit × XS)
  | 0, _, _ => none
  | k + 1, ac, s => match ac with
    | .skip => some (.normal, s)
    | .ret => some (.ret, s)
    | .exit id => some (.exit id, s)
    | .label _ => some (.normal, s)
    | .goto l => some (.goto l, s)
    | .region l => match xOps P (xF P tab told (xC k)) s.nx 0 l ⟨s.T, s.H, s.nx + l.length⟩ with
      | some s' => some (.normal, s')
      | none => none
    | .draw l B rd => match (if rd = [] then none else xDraw P (xFN P tab told (xC k)) (xFD P tab told (xC k)) B rd s.nx 0 l ⟨s.T, s.H, s.nx + l.length⟩) with
      | some s' => some (.normal, s')
      | none => match xFine P (xFD P tab told (xC k)) s.nx 0 B [] l ⟨s.T, s.H, s.nx + l.length⟩ with
        | some s' => some (.normal, s')
        | none => none
    | .seq a b => match xC k a s with
      | some (.normal, s') => xC k b s'
      | r => r
    | .cond c a b => match ev (tOf s.T) c with
      | .val (.bool true) => xC k a s
      | .val (.bool false) => xC k b s
      | _ => none
    | .block id c => match xC k c s with
      | some (.exit id', s') => bif Nat.beq id' id then some (.normal, s') else some (.exit id', s')
      | r => r
    | .loop c => match xC k c s with
      | some (.normal, s') => xC k (.loop c) s'
      | r => r
    | .scope c => match xC k c s with
      | some (.goto l, s') => match findA c l with
        | some rest => xJ (fun s => xC k rest s) l k s'
        | none => none
      | r => r
end
end Go.Proofs.YtefdlpandfhcgaaGreatDoor.AL

