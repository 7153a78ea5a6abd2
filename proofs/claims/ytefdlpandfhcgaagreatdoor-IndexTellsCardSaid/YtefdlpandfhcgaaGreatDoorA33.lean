/- A law of the given program is proved: part 33 of 50. -/
import Derived.Test.YtefdlpandfhcgaaGreatDoorA32
set_option linter.all false
/- Generic functions of slices, by their models: IndexFunc, ContainsFunc, Clone, for all types. -/
set_option linter.all false
namespace Go.Proofs.YtefdlpandfhcgaaGreatDoor.AL
open Go.RowKit
theorem xx1 {α : Type} {P : Program} {S E n : Nat} {b : Bool} (hS : xfb P S = some E) (hE : aggN P E = some (b, n)) {f : FuncId} {fi ca : List AV} (enc : α → AV) (l : List α) (p : α → Option Bool) (r : Int) (hr : indexM p l = some r)
    (hp : ∀ x b, p x = some b → Ok P f (fi ++ ([enc x] ++ ca)) (bool b)) (hcl : ∀ x, closeds (fi ++ ([enc x] ++ ca)) = true) (hld : ∀ x, evalLd P E (enc x) 0 = some (enc x)) (H : Nat → Option AO) (nx : Nat) :
    cw P 19 (idxAC S E) (finQ P [.tmp 4] (frzR (int r))) ⟨argT [.sl n (l.map enc), .fn (.func f) fi ca], H, nx⟩ := by
  have h1 := len_sl P hS
  have h2 := x0d P hS hE
  unfold indexM at hr
  rcases h : ck (l.length < 9223372036854775807) with _ | u
  · rw [h] at hr; cases hr
  rw [h] at hr
  simp only [Option.bind_some] at hr
  have hlen := xss h
  unfold idxAC
  simp (config := { contextual := true }) only [h1, xlp, EV, ↓EVd, isCall, Nat.reduceAdd, Nat.reduceSub, Nat.reduceMul, Nat.reduceEqDiff, Nat.reduceBEq, Nat.reduceLT, Nat.reduceLeDiff, ↓reduceIte, reduceCtorEq, Nat.reduceShiftRight, Nat.reduceAnd, Nat.reduceBneDiff]
  obtain ⟨I, hI⟩ : ∃ I : Nat → AS → Prop, I = fun k s => s.T 0 = .sl n (l.map enc) ∧ s.T 1 = .fn (.func f) fi ca ∧ s.T 7 = int l.length ∧ ∃ i : Nat, s.T 8 = int i ∧ i ≤ l.length ∧ k = l.length - i + 1 ∧ idxM p (l.drop i) i = some r := ⟨_, rfl⟩
  refine xkx I (l.length + 1) ?_ ?_ ?_
  · rw [hI]
    refine TI.here ⟨?_, ?_, ?_, 0, ?_, Nat.zero_le _, rfl, by simpa using hr⟩
    all_goals simp only [EV, ↓EVd, isCall, Nat.reduceAdd, Nat.reduceSub, Nat.reduceMul, Nat.reduceEqDiff, Nat.reduceBEq, Nat.reduceLT, Nat.reduceLeDiff, ↓reduceIte, reduceCtorEq, Nat.reduceShiftRight, Nat.reduceAnd, Nat.reduceBneDiff]
    simp
  · rintro s hs
    rw [hI] at hs
    obtain ⟨_, _, _, i, _, _, hk, _⟩ := hs
    omega
  · rintro k ⟨T, H, nx⟩ hs
    rw [hI] at hs
    obtain ⟨k0, k1, k2, i, k3, k4, hk, k5⟩ := hs
    simp only at k0 k1 k2 k3
    apply cw_cwp
    have i0 : (0 : Int) ≤ (i : Int) := by omega
    have i1 : ((i : Int)).toNat = i := by omega
    by_cases hi : i < l.length
    · have i2 : (i : Int) < (l.length : Int) := by omega
      have i3 : (l.map enc)[i]? = some (enc l[i]) := by simp [hi]
      have i4 := hld l[i]
      have i5 := Go.IntWalk.i64_in ((i : Int) + 1) (by omega)
      rw [List.drop_eq_getElem_cons hi] at k5
      unfold idxM at k5
      rcases h : p l[i] with _ | v
      · rw [h] at k5; cases k5
      rw [h] at k5
      simp only [Option.bind_some] at k5
      simp only [h2, k0, k1, k2, k3, i0, i1, i2, i3, i4, EV, ↓EVd, isCall, Nat.reduceAdd, Nat.reduceSub, Nat.reduceMul, Nat.reduceEqDiff, Nat.reduceBEq, Nat.reduceLT, Nat.reduceLeDiff, ↓reduceIte, reduceCtorEq, Nat.reduceShiftRight, Nat.reduceAnd, Nat.reduceBneDiff]
      refine S1_ok (hp _ _ h) rfl (hcl _) ?_
      cases v
      · simp only [Bool.false_eq_true, if_false] at k5
        simp (config := { contextual := true }) only [k0, k1, k2, k3, i5, EV, ↓EVd, isCall, Nat.reduceAdd, Nat.reduceSub, Nat.reduceMul, Nat.reduceEqDiff, Nat.reduceBEq, Nat.reduceLT, Nat.reduceLeDiff, ↓reduceIte, reduceCtorEq, Nat.reduceShiftRight, Nat.reduceAnd, Nat.reduceBneDiff]
        rw [hI]
        refine TI.here ⟨?_, ?_, ?_, i + 1, ?_, by omega, by omega, k5⟩
        all_goals simp only [k0, k1, k2, k3, i5, EV, ↓EVd, isCall, Nat.reduceAdd, Nat.reduceSub, Nat.reduceMul, Nat.reduceEqDiff, Nat.reduceBEq, Nat.reduceLT, Nat.reduceLeDiff, ↓reduceIte, reduceCtorEq, Nat.reduceShiftRight, Nat.reduceAnd, Nat.reduceBneDiff]
        simp
      · simp only [if_true, Option.some.injEq] at k5
        subst k5
        simp (config := { contextual := true }) only [k0, k1, k2, k3, i5, EV, ↓EVd, isCall, Nat.reduceAdd, Nat.reduceSub, Nat.reduceMul, Nat.reduceEqDiff, Nat.reduceBEq, Nat.reduceLT, Nat.reduceLeDiff, ↓reduceIte, reduceCtorEq, Nat.reduceShiftRight, Nat.reduceAnd, Nat.reduceBneDiff]
    · have i2 : ¬ (i : Int) < (l.length : Int) := by omega
      rw [List.drop_of_length_le (by omega)] at k5
      simp only [idxM, Option.some.injEq] at k5
      subst k5
      simp only [h2, k0, k1, k2, k3, i0, i1, i2, EV, ↓EVd, isCall, Nat.reduceAdd, Nat.reduceSub, Nat.reduceMul, Nat.reduceEqDiff, Nat.reduceBEq, Nat.reduceLT, Nat.reduceLeDiff, ↓reduceIte, reduceCtorEq, Nat.reduceShiftRight, Nat.reduceAnd, Nat.reduceBneDiff]
theorem xb3 {α : Type} {P : Program} {g : FuncId} {S E n : Nat} {b : Bool} (hf : FnC P g 19 [.tmp 4] (idxAC S E)) (hS : xfb P S = some E) (hE : aggN P E = some (b, n)) {f : FuncId} {fi ca : List AV} (enc : α → AV) (l : List α) (p : α → Option Bool) (r : Int) (hr : indexM p l = some r)
    (hp : ∀ x b, p x = some b → Ok P f (fi ++ ([enc x] ++ ca)) (bool b)) (hcl : ∀ x, closeds (fi ++ ([enc x] ++ ca)) = true) (hld : ∀ x, evalLd P E (enc x) 0 = some (enc x)) :
    Ok P g [.sl n (l.map enc), .fn (.func f) fi ca] (int r) := okF hf (by simp) (xx1 hS hE enc l p r hr hp hcl hld _ _)
theorem xmk {α : Type} {P : Program} {g c : FuncId} {S E F n : Nat} {b : Bool} (hc : FnC P c 9 [.tmp 4] (conAC g S F)) (hf : FnC P g 19 [.tmp 4] (idxAC S E)) (hS : xfb P S = some E) (hE : aggN P E = some (b, n)) {f : FuncId} {fi ca : List AV} (enc : α → AV) (l : List α) (p : α → Option Bool) (r : Bool) (hr : x6g p l = some r)
    (hp : ∀ x b, p x = some b → Ok P f (fi ++ ([enc x] ++ ca)) (bool b)) (hx : ∀ x, closed (enc x) = true) (hcf : closeds fi = true) (hcc : closeds ca = true) (hld : ∀ x, evalLd P E (enc x) 0 = some (enc x)) :
    Ok P c [.sl n (l.map enc), .fn (.func f) fi ca] (bool r) := by
  have hxs : closeds (l.map enc) = true := xeb enc hx l
  unfold x6g at hr
  rcases h : indexM p l with _ | i
  · rw [h] at hr; cases hr
  rw [h] at hr
  simp only [Option.bind_some, Option.some.injEq] at hr
  refine okF hc (by simp) ?_
  unfold conAC
  simp only [EV, ↓EVd, isCall, Nat.reduceAdd, Nat.reduceSub, Nat.reduceMul, Nat.reduceEqDiff, Nat.reduceBEq, Nat.reduceLT, Nat.reduceLeDiff, ↓reduceIte, reduceCtorEq, Nat.reduceShiftRight, Nat.reduceAnd, Nat.reduceBneDiff]
  refine S1_ok (xb3 hf hS hE enc l p i h hp (fun x => xyl hcf (xyl (by simp [closeds, hx]) hcc)) hld) rfl (by simp [closeds, closed, hxs, hcf, hcc]) ?_
  subst hr
  by_cases hi : 0 ≤ i
  · simp only [hi, EV, ↓EVd, isCall, Nat.reduceAdd, Nat.reduceSub, Nat.reduceMul, Nat.reduceEqDiff, Nat.reduceBEq, Nat.reduceLT, Nat.reduceLeDiff, ↓reduceIte, reduceCtorEq, Nat.reduceShiftRight, Nat.reduceAnd, Nat.reduceBneDiff]
  · simp only [hi, EV, ↓EVd, isCall, Nat.reduceAdd, Nat.reduceSub, Nat.reduceMul, Nat.reduceEqDiff, Nat.reduceBEq, Nat.reduceLT, Nat.reduceLeDiff, ↓reduceIte, reduceCtorEq, Nat.reduceShiftRight, Nat.reduceAnd, Nat.reduceBneDiff]
end Go.Proofs.YtefdlpandfhcgaaGreatDoor.AL

/- AL: the rules of the generated walks, in short forms. -/
set_option linter.all false
namespace Go.Proofs.YtefdlpandfhcgaaGreatDoor.AL
open Go Go.Proofs Go.RowKit
section
variable {α β : Type} {r : β}
theorem iteE {p : Prop} [Decidable p] {a b : Option β} (h : (if p then a else b) = some r) : (p = True ∧ a = some r) ∨ (p = False ∧ b = some r) := by
  by_cases hp : p
  · rw [if_pos hp] at h; exact .inl ⟨eq_true hp, h⟩
  · rw [if_neg hp] at h; exact .inr ⟨eq_false hp, h⟩
theorem itbE {c : Bool} {a b : Option β} (h : (if c = true then a else b) = some r) : (c = true ∧ a = some r) ∨ (c = false ∧ b = some r) := by
  cases c
  · exact .inr ⟨rfl, h⟩
  · exact .inl ⟨rfl, h⟩
theorem bsE {x : Option α} {f : α → Option β} (h : x.bind f = some r) : ∃ v, x = some v ∧ f v = some r := by
  cases x with
  | none => cases h
  | some v => exact ⟨v, rfl, h⟩
theorem ixE (g : α → AV) {xs : List α} {n : Int} {f : α → Option β} (h : (ix xs n).bind f = some r) : ∃ v, ((0 ≤ n) = True ∧ (n < xs.length) = True ∧ (xs.map g)[n.toNat]? = some (g v)) ∧ f v = some r := by
  obtain ⟨v, h1, h2⟩ := bsE h
  exact ⟨v, ⟨eq_true (xyu h1), eq_true (ix_lt h1), ix_enc g h1⟩, h2⟩
theorem ixBE {s : ByteArray} {n : Int} {f : UInt8 → Option β} (h : (ixB s n).bind f = some r) : ∃ v, ((0 ≤ n) = True ∧ s[n.toNat]? = some v) ∧ f v = some r := by
  obtain ⟨v, h1, h2⟩ := bsE h
  exact ⟨v, ⟨xtz h1, (x7w h1).2⟩, h2⟩
theorem ckE {p : Prop} [Decidable p] {f : Unit → Option β} (h : (ck p).bind f = some r) : p ∧ f () = some r := by
  obtain ⟨v, h1, h2⟩ := bsE h
  exact ⟨xss h1, h2⟩
theorem apE {k : Nat} {xs ys : List α} {f : List α → Option β} (h : (ap k xs ys).bind f = some r) : ((xs.length + ys.length) * k ≤ 140737488355328 ∧ xs.length + ys.length ≤ 9223372036854775807) ∧ f (xs ++ ys) = some r := by
  obtain ⟨v, h1, h2⟩ := bsE h
  obtain ⟨rfl, h3⟩ := x68 h1
  exact ⟨h3, h2⟩
end
def Lq (l nx : Nat) : Prop := l < nx ∧ (∀ a, (l = nx + a) = False) ∧ (∀ a, (nx + a = l) = False) ∧ (∀ a, (l < nx + a) = True) ∧ (l = nx) = False ∧ (nx = l) = False
theorem lq {l nx : Nat} (h : l < nx) : Lq l nx := ⟨h, ne2 h, ne2' h, lt2 h, eq_false (by omega), eq_false (by omega)⟩
def Nq (a b : Nat) : Prop := a ≠ b ∧ (a = b) = False ∧ (b = a) = False
theorem nq {a b : Nat} (h : a ≠ b) : Nq a b := ⟨h, eq_false h, eq_false h.symm⟩
section
variable {P : Program} {n : Nat} {Q : Exit → AS → Prop} {s : AS}
theorem cwp_lp {σ ρ : Type} {x : AC} {B : σ → Option (St σ ρ)} {o : ρ} {k0 : Nat} {x0 : σ} (ho : iter B k0 x0 = some o) (R : σ → AS → Prop) (h0 : TI n (R x0) s)
    (round : ∀ (I : AS → Prop) (z : σ) (T : Nat → AV) (H : Nat → Option AO) (nx : Nat) (st : St σ ρ), R z ⟨T, H, nx⟩ → B z = some st → (∀ z', st = .nx z' → ∀ s', R z' s' → I s') → (∀ r, st = .out r → r = o) → cw P n x (seqQ (TI n I) Q) ⟨T, H, nx⟩) : cwp P n (.loop x) Q s := by
  refine xkx (fun k s => ∃ z, R z s ∧ iter B k z = some o) k0 ?_ ?_ ?_
  · obtain ⟨s', h1, h2⟩ := h0
    exact ⟨s', h1, x0, h2, ho⟩
  · rintro s ⟨z, _, h⟩
    simp [x2u] at h
  · rintro k ⟨T, H, nx⟩ ⟨z, hz, hi⟩
    rw [xec] at hi
    obtain ⟨st, h1, h2⟩ := bsE hi
    refine cw_cwp _ (round (fun s => ∃ z, R z s ∧ iter B k z = some o) z T H nx st hz h1 ?_ ?_)
    · rintro z' rfl s' hs
      exact ⟨z', hs, h2⟩
    · rintro r rfl
      exact Option.some.inj h2
theorem cwp_sl {σ ρ : Type} {a b : AC} (l : Nat) {B : σ → Option (St σ ρ)} {o : ρ} {k0 : Nat} {x0 : σ} (ho : iter B (k0 + 1) x0 = some o) (R : σ → AS → Prop) (hf : findA (.seq a (.seq (.label l) b)) l = some (.seq .skip b))
    (pre : ∀ K : AS → Prop, (∀ s', TI n (R x0) s' → K s') → cw P n a (seqQ K (jumpQ l (fun _ => False) Q)) s)
    (round : ∀ (I : AS → Prop) (z : σ) (T : Nat → AV) (H : Nat → Option AO) (nx : Nat) (st : St σ ρ), R z ⟨T, H, nx⟩ → B z = some st → (∀ z', st = .nx z' → ∀ s', R z' s' → I s') → (∀ r, st = .out r → r = o) → cw P n b (jumpQ l (TI n I) Q) ⟨T, H, nx⟩) : cwp P n (.scope (.seq a (.seq (.label l) b))) Q s := by
  refine xoz l (fun k s => ∃ z, R z s ∧ iter B k z = some o) k0 hf ?_ ?_ ?_
  · rintro s ⟨z, _, h⟩
    simp [x2u] at h
  · intro K hK
    refine cw_cwp _ (pre K fun s' hs => hK s' ?_)
    obtain ⟨s2, h1, h2⟩ := hs
    exact ⟨s2, h1, x0, h2, ho⟩
  · rintro k ⟨T, H, nx⟩ ⟨z, hz, hi⟩
    rw [xec] at hi
    obtain ⟨st, h1, h2⟩ := bsE hi
    refine cw_cwp _ (round (fun s => ∃ z, R z s ∧ iter B k z = some o) z T H nx st hz h1 ?_ ?_)
    · rintro z' rfl s' hs
      exact ⟨z', hs, h2⟩
    · rintro r rfl
      exact Option.some.inj h2
theorem cwp_cx {x : AC} (id : Nat) (J0 : AS → Prop) (k : ∀ T H nx, J0 ⟨T, H, nx⟩ → Q (.exit id) ⟨T, H, nx⟩) (h : ∀ J : AS → Prop, (∀ s, J0 s → J s) → cwp P n x (exQ id (TI n J) Q) s) : cwp P n x Q s :=
  xv9 id J0 (h J0 fun _ h => h) fun ⟨T, H, nx⟩ hs => k T H nx hs
theorem cwp_cn {x : AC} (J0 : AS → Prop) (k : ∀ T H nx, J0 ⟨T, H, nx⟩ → Q .normal ⟨T, H, nx⟩) (h : ∀ J : AS → Prop, (∀ s, J0 s → J s) → cwp P n x (nmQ (TI n J) Q) s) : cwp P n x Q s :=
  x94 J0 (h J0 fun _ h => h) fun ⟨T, H, nx⟩ hs => k T H nx hs
end
def fzC : Option AV → Option (List AV) → Option (List AV)
  | some y, some ys => some (y :: ys)
  | _, _ => none
def fzF (f : Fn) : Option (List AV) → Option (List AV) → Option AV
  | some a, some b => some (.fn f a b)
  | _, _ => none
def fzM (H : Nat → Option AO) (k n : Nat) : Option AO → Option AV
  | some (.row _ s xs) => if n = xs.length then (frzs H k xs).map (.sl s) else none
  | _ => none
def fzP (H : Nat → Option AO) (k off : Nat) : Option AV → Option AV
  | some y => (frz H k y).map fun z => .ptr z off
  | _ => none
def fzL (H : Nat → Option AO) (k sz i off : Nat) : Option AO → Option AV
  | some (.row _ sz' xs) => if sz = sz' then fzP H k off (xs[i]?) else none
  | _ => none
section
variable (H : Nat → Option AO) (k : Nat)
theorem fz_clo (x : AV) (h : closed x = true) : frz H k x = some x := x8c h H k
theorem xn7 (xs : List AV) (h : closeds xs = true) : frzs H k xs = some xs := xwd h H k
theorem xo9 (x : AV) (xs : List AV) : frzs H (k + 1) (x :: xs) = fzC (frz H k x) (frzs H k xs) := by
  by_cases hc : closeds (x :: xs) = true
  · rw [xwd hc]
    simp only [closeds, Bool.and_eq_true] at hc
    rw [x8c hc.1, xwd hc.2]; rfl
  · conv => lhs; unfold frzs
    rw [if_neg hc]
    dsimp only
    cases frz H k x <;> cases frzs H k xs <;> rfl
theorem fz_agg (cs : List AV) : frz H (k + 1) (.agg cs) = (frzs H k cs).map .agg := by
  by_cases hc : closed (.agg cs) = true
  · rw [x8c hc]; simp only [closed] at hc; rw [xwd hc]; rfl
  · conv => lhs; unfold frz
    rw [if_neg hc]
theorem fz_tup (cs : List AV) : frz H (k + 1) (.tup cs) = (frzs H k cs).map .tup := by
  by_cases hc : closed (.tup cs) = true
  · rw [x8c hc]; simp only [closed] at hc; rw [xwd hc]; rfl
  · conv => lhs; unfold frz
    rw [if_neg hc]
theorem fz_ptr (y : AV) (off : Nat) : frz H (k + 1) (.ptr y off) = (frz H k y).map fun z => .ptr z off := by
  by_cases hc : closed (.ptr y off) = true
  · rw [x8c hc]; simp only [closed] at hc; rw [x8c hc]; rfl
  · conv => lhs; unfold frz
    rw [if_neg hc]
theorem fz_fn (f : Fn) (a b : List AV) : frz H (k + 1) (.fn f a b) = fzF f (frzs H k a) (frzs H k b) := by
  by_cases hc : closed (.fn f a b) = true
  · rw [x8c hc]; simp only [closed, Bool.and_eq_true] at hc; rw [xwd hc.1, xwd hc.2]; rfl
  · conv => lhs; unfold frz
    rw [if_neg hc]
    dsimp only
    cases frzs H k a <;> cases frzs H k b <;> rfl
theorem fz_mp (l : Nat) : frz H (k + 1) (.mp l) = some .junk := by simp [frz, closed]
theorem fz_msl (l n : Nat) : frz H (k + 1) (.msl l n) = fzM H k n (H l) := by
  unfold frz fzM
  simp only [closed, Bool.false_eq_true, if_false]
  cases H l with
  | none => rfl
  | some o => cases o <;> rfl
theorem fz_loc (l sz i off : Nat) : frz H (k + 1) (.loc l sz i off) = fzL H k sz i off (H l) := by
  unfold frz fzL fzP
  simp only [closed, Bool.false_eq_true, if_false]
  cases H l with
  | none => rfl
  | some o =>
    cases o <;> try rfl
    rename_i T s xs
    simp only
    split
    · cases xs[i]? <;> rfl
    · rfl
theorem xk8 (n T s : Nat) (xs : List AV) : fzM H k n (some (.row T s xs)) = if n = xs.length then (frzs H k xs).map (.sl s) else none := _root_.id rfl
theorem xm9 (sz i off T s : Nat) (xs : List AV) : fzL H k sz i off (some (.row T s xs)) = if sz = s then fzP H k off (xs[i]?) else none := _root_.id rfl
theorem x54 (off : Nat) (y : AV) : fzP H k off (some y) = (frz H k y).map fun z => .ptr z off := _root_.id rfl
theorem xm5 (y : AV) (ys : List AV) : fzC (some y) (some ys) = some (y :: ys) := _root_.id rfl
theorem xw6 (f : Fn) (a b : List AV) : fzF f (some a) (some b) = some (.fn f a b) := _root_.id rfl
end
def FZ := aI (aI (aI (aI (@fz_clo) (@xn7)) (aI (@xo9) (@fz_agg))) (aI (aI (@fz_tup) (@fz_ptr)) (aI (@fz_fn) (@fz_mp)))) (aI (aI (aI (@fz_msl) (@fz_loc)) (aI (@xk8) (@xm9))) (aI (aI (@x54) (@xm5)) (aI (@xw6) (@xfq AV AV))))
def FK := aI (aI (@fk_nil) (@fk_clo)) (aI (@x58) (aI (@fk_msl) (@xc7)))
theorem frzR_e {r x : AV} {H : Nat → Option AO} {nx : Nat} (h : frz H 9 x = some r) : frzR r x H nx := ⟨9, r, h, Sub.refl _⟩
def OkN (P : Program) (f : FuncId) (args : List AV) (r : AV) : Prop :=
  callable P f = true ∧ ∀ (Z : Nat → Prop) (w : World) (vals : List Value), ZG Z w → VReps (Ec Z w) args vals →
    Calls P f vals.toArray w fun e w' => ∃ v, e = .returned v ∧ Below w.heap.size w w' ∧ VRep (Ec (fun b => w.heap.size ≤ b ∧ b < w'.heap.size) w') r v
theorem OkN.sub {P : Program} {f : FuncId} {ag ag' : List AV} {r : AV} (h : OkN P f ag' r) (hs : Subs ag ag') : OkN P f ag r := ⟨h.1, fun Z w vals hZ hv => h.2 Z w vals hZ (hs _ _ hv)⟩
theorem S1_okn {P : Program} {H : Nat → Option AO} {nx new : Nat} {ρ : Operand → AV} {k : AV → (Nat → Option AO) → Nat → Prop} {c : Call} {f : FuncId} {ag ag' : List AV} {r : AV} (m : Nat) (h : OkN P f ag' r) (hc : xvb ρ c = some (f, ag)) (hm : frzs H m ag = some ag') (hk : k r H nx) :
    Sem1 P (.call c) H nx new ρ k := by
  intro o ho C E a hR hρ hn hb hnx next Q hnext
  obtain ⟨vals, h1, h2⟩ := x7g (P := P) ho hρ hc h.1
  unfold Oper.wp
  rw [h2, Oper.upon_enter]
  refine (h.2 (Zall E) E.w vals ⟨?_, hR.gw⟩ ((x8h hR m).2 _ _ _ hm h1)).mono ?_
  · intro b hz
    rcases hz with hz | ⟨l, c, hz⟩
    · exact hR.zlt b hz
    · exact (hR.old l b c hz).2
  rintro e w' ⟨v, rfl, hb, hv⟩
  obtain ⟨k1, k2⟩ := xqk hR hb
  refine hnext r v H nx _ hk ?_ k1 k2 (Nat.le_refl _) fun l kl => .inl kl
  exact hv.stab (Ec.stab (E := { E with w := w', Z := fun b => E.Z b ∨ (E.w.heap.size ≤ b ∧ b < w'.heap.size) }) fun b hz => .inr hz)
section
variable {P : Program} {H H' : Nat → Option AO} {nx new : Nat} {ρ : Operand → AV} {k : AV → (Nat → Option AO) → Nat → Prop} {c : Call} {f : FuncId} {ag ag' ag2 : List AV} {r : AV}
theorem qc (h : Ok P f ag r) (hc : xvb ρ c = some (f, ag)) (hk : k r H nx) (hcl : closeds ag = true := by simp only [CLO]) : Sem1 P (.call c) H nx new ρ k := S1_ok h hc hcl hk
theorem qcb (h : Ok P f ag' r) (hc : xvb ρ c = some (f, ag)) (hm : frzs H 9 ag = some ag') (hk : k r H nx) (hfl : flat r = true := by rfl) : Sem1 P (.call c) H nx new ρ k := S1_okb 9 h hc hm hfl hk
theorem qcn (h : OkN P f ag' r) (hc : xvb ρ c = some (f, ag)) (hm : frzs H 9 ag = some ag') (hk : k r H nx) : Sem1 P (.call c) H nx new ρ k := S1_okn 9 h hc hm hk
theorem qd {K : AV → Prop} (h : Ok P f ag r) (hc : xvb ρ c = some (f, ag)) (hk : K r) (hcl : closeds ag = true := by simp only [CLO]) : ∃ v, OpS1 P (.call c) H ρ new v ∧ K v := ⟨_, x6y h hc hcl, hk⟩
theorem qdb {K : AV → Prop} (h : Ok P f ag' r) (hc : xvb ρ c = some (f, ag)) (hm : frzs H 9 ag = some ag') (hk : K r) (hfl : flat r = true := by rfl) : ∃ v, OpS1 P (.call c) H ρ new v ∧ K v := ⟨_, x8v 9 h hc hm hfl, hk⟩
end
def MT := aI (aI (aI (aI (@x93) (@xf0)) (aI (@xa2) (@xa1))) (aI (aI (@xg9) (@x85)) (aI (@xy8) (@x86)))) (aI (aI (aI (@vw_app) (@xt8)) (aI (@tbK_t) (@tbK_f))) (aI (aI (@z_tb) (aI (@true_and) (@and_true))) (aI (@z_bne) (aI Nat.zero_add Nat.add_zero))))
def fkU : List AV → Upds
  | [] => []
  | x :: xs => match x with
    | .msl l _ => (l, none) :: fkU xs
    | _ => fkU xs
theorem x69 : fkU [] = [] := _root_.id rfl
theorem xfab (l m : Nat) (xs : List AV) : fkU (.msl l m :: xs) = (l, none) :: fkU xs := _root_.id rfl
theorem xcz (x : AV) (xs : List AV) (h : closed x = true) : fkU (x :: xs) = fkU xs := by
  cases x <;> first
    | rfl
    | (simp [closed] at h; done)
def FU := aI (@x69) (aI (@xfab) (@xcz))
theorem SubH.kill {V H : Nat → Option AO} (h : SubH V H) (l : Nat) : SubH (upd V l none) (upd H l none) := by
  intro j o e
  simp only [upd_at] at e ⊢
  split
  · rename_i e'; rw [if_pos e'] at e; cases e
  · rename_i e'; rw [if_neg e'] at e; exact h j o e
theorem xxt : ∀ (xs ys : List AV) (V V' H : Nat → Option AO), SubH V H → fk V xs = some (ys, V') → fk H xs = some (ys, applyU H (fkU xs))
  | [], ys, V, V', H, hs, h => by
    simp only [fk, Option.some.injEq, Prod.mk.injEq] at h
    obtain ⟨rfl, rfl⟩ := h
    rfl
  | x :: xs, ys, V, V', H, hs, h => by
    have plain : closed x = true → fkO (some x) (fk V xs) = some (ys, V') → fkO (some x) (fk H xs) = some (ys, applyU H (fkU (x :: xs))) := by
      intro hc h
      rw [xcz _ _ hc]
      cases hx : fk V xs with
      | none => rw [hx] at h; cases h
      | some q =>
        obtain ⟨zs, V2⟩ := q
        rw [hx] at h
        simp only [fkO, Option.some.injEq, Prod.mk.injEq] at h
        obtain ⟨rfl, rfl⟩ := h
        rw [xxt xs zs V V2 H hs hx]
        rfl
    unfold fk at h ⊢
    split at h
    · rename_i l m
      cases hx : fk (upd V l none) xs with
      | none => rw [hx] at h; unfold fkO at h; split at h <;> first | (cases h; done) | (simp_all; done)
      | some q =>
        obtain ⟨zs, V2⟩ := q
        cases hk : fkK m (V l) with
        | none => rw [hk] at h; simp [fkO] at h
        | some y =>
          rw [hk, hx] at h
          simp only [fkO, Option.some.injEq, Prod.mk.injEq] at h
          obtain ⟨rfl, rfl⟩ := h
          have hH : fkK m (H l) = some y := by
            cases hv : V l with
            | none => rw [hv] at hk; simp [fkK] at hk
            | some ob => rw [hs l ob hv, ← hv]; exact hk
          simp only [hH]
          rw [xxt xs zs _ V2 (upd H l none) (hs.kill l) hx]
          rfl
    · split at h
      · rename_i hc
        rw [if_pos hc]
        exact plain hc h
      · cases h
theorem x1x {P : Program} {V V' : Nat → Option AO} {new : Nat} {ρ : Operand → AV} {c : Call} {f : FuncId} {ag ag' : List AV} {r : AV} (h : Ok P f ag' r) (hc : xvb ρ c = some (f, ag)) (hf : fk V ag = some (ag', V')) : OpSL P (.call c) V ρ new r (fkU ag) := by
  intro o ho C E H a hR hV hρ hn next Q hnext
  obtain ⟨vals, h1, h2⟩ := x7g (P := P) ho hρ hc h.1
  obtain ⟨E', g1, g2, g3, g4, g5, g6⟩ := x04 ag E H vals ag' _ hR h1 (xxt _ _ _ _ _ hV hf)
  unfold Oper.wp
  rw [h2, Oper.upon_enter]
  have h3 := h.2 E'.Z E'.w vals ⟨g1.zlt, g1.gw⟩ (VReps.close (fun b hz => hz) _ _ g6 g5)
  rw [g4] at h3
  refine h3.mono ?_
  rintro e w' ⟨v, rfl, hb', hv⟩
  rw [← g4] at hb'
  obtain ⟨k1, k2⟩ := xqk g1 hb'
  refine hnext v _ ?_ k1 (g2.trans k2) fun l kl => .inl (g3 l kl)
  refine hv.stab (Ec.stab (E := { E' with w := w', Z := fun b => E'.Z b ∨ (E'.w.heap.size ≤ b ∧ b < w'.heap.size) }) fun b hz => ?_)
  rw [g4]
  exact hz
section
variable {P : Program} {V V' : Nat → Option AO} {W : List Nat} {new : Nat} {ρ : Operand → AV} {c : Call} {f : FuncId} {ag ag' ag2 : List AV} {r : AV} {K : AV → Upds → Prop}
theorem qvk (h : Ok P f ag' r) (hc : xvb ρ c = some (f, ag)) (hf : fk V ag = some (ag', V')) (hw : okL W new (fkU ag)) (hk : K r (fkU ag)) : ∃ v us, OpSL P (.call c) V ρ new v us ∧ okL W new us ∧ K v us := ⟨_, _, x1x h hc hf, hw, hk⟩
end
theorem okG {P : Program} {f : FuncId} {n : Nat} {rs : List ResultVar} {ac : AC} (hf : FnC P f n rs ac) {args : List AV} {r : AV} (h : cw P n ac (finQ P rs (frzR r)) ⟨argT args, fun _ => none, 0⟩) (hn : args.length ≤ n := by simp) : Ok P f args r := okF hf hn h
theorem idxE {P : Program} {T len e s : Nat} {g : Bool} {cs : List AV} {n : Int} {v : AV} (ha : arrOfT P T = some (len, e)) (hs : aggN P e = some (g, s)) (j : Nat) (hn : n = (j : Int)) (hj : j < len) (hp : (if g = true then some (.agg ((cs.drop (j * s)).take s)) else cs[j * s]?) = some v) : xh P T (.agg cs) (int n) = some v := by
  subst hn
  have h0 : (0 : Int) ≤ (j : Int) ∧ (j : Int) < (len : Int) := ⟨by omega, by omega⟩
  simp only [xh, ha, h0, and_self, if_true, hs, Int.toNat_natCast, partOf]
  cases g
  · simpa using hp
  · simpa using hp
end Go.Proofs.YtefdlpandfhcgaaGreatDoor.AL

/- Loops of models, in plain words. -/
set_option linter.all false
namespace Go.Proofs.YtefdlpandfhcgaaGreatDoor.AL
open Go Go.Proofs
theorem xyf {S ρ : Type} {B : S → Option (St S ρ)} {R : ρ → Prop} (I : Nat → S → Prop) (N : Nat) (hs : ∀ i s, I i s → i ≤ N ∧ ((∃ s', B s = some (.nx s') ∧ I (i + 1) s') ∨ ∃ r, B s = some (.out r) ∧ R r)) :
    ∀ (fuel i : Nat) (s : S), I i s → N < fuel + i → ∃ r, iter B fuel s = some r ∧ R r
  | 0, i, s, h, hf => by have := (hs i s h).1; omega
  | fuel + 1, i, s, h, hf => by
    rw [xec]
    rcases (hs i s h).2 with ⟨s', h1, h2⟩ | ⟨r, h1, h2⟩
    · rw [h1]
      exact xyf I N hs fuel (i + 1) s' h2 (by omega)
    · rw [h1]
      exact ⟨r, rfl, h2⟩
theorem big_eq : big = 1000000000000000000 := rfl
theorem ix_at {α : Type} {xs : List α} {i : Nat} (h : i < xs.length) : ix xs (i : Int) = some xs[i] := by
  unfold ix
  rw [if_pos (by omega)]
  simp [h]
theorem ix_of {α : Type} {xs : List α} {n : Int} (h0 : 0 ≤ n) (h : n < xs.length) : ix xs n = some (xs[n.toNat]'(by omega)) := by
  unfold ix
  rw [if_pos h0]
  simp
theorem wr_suc {i : Nat} (h : i < 4611686018427387904) : wr ((i : Int) + 1) = ((i + 1 : Nat) : Int) := by rw [wr_in (by omega) (by omega)]; omega
theorem ap_of {α : Type} {k : Nat} {xs ys : List α} (h : (xs.length + ys.length) * k ≤ 140737488355328) (hk : 0 < k) : ap k xs ys = some (xs ++ ys) := by
  unfold ap
  have : xs.length + ys.length ≤ (xs.length + ys.length) * k := Nat.le_mul_of_pos_right _ hk
  have h2 : xs.length + ys.length ≤ 9223372036854775807 := by omega
  rw [if_pos ⟨h, h2⟩]
theorem xxf {α σ S ρ : Type} {B : S → Option (St S ρ)} (mk : Nat → σ → S) (xs : List α) (step : σ → α → σ) (fin : σ → ρ) (I : Nat → σ → Prop) (hs : ∀ i s (h : i < xs.length), I i s → B (mk i s) = some (.nx (mk (i + 1) (step s xs[i]))) ∧ I (i + 1) (step s xs[i]))
    (he : ∀ s, I xs.length s → B (mk xs.length s) = some (.out (fin s))) {s0 : σ} (h0 : I 0 s0) {fuel : Nat} (hf : xs.length < fuel) : iter B fuel (mk 0 s0) = some (fin (xs.foldl step s0)) ∧ I xs.length (xs.foldl step s0) := by
  have key : ∀ (d i : Nat) (s : σ) (fuel : Nat), d + i = xs.length → I i s → d < fuel → iter B fuel (mk i s) = some (fin ((xs.drop i).foldl step s)) ∧ I xs.length ((xs.drop i).foldl step s) := by
    intro d
    induction d with
    | zero =>
      intro i s fuel hd hi hf
      obtain rfl : i = xs.length := by omega
      cases fuel with
      | zero => omega
      | succ fuel =>
        rw [xec, he s hi]
        simp [hi]
    | succ d ih =>
      intro i s fuel hd hi hf
      cases fuel with
      | zero => omega
      | succ fuel =>
        have hlt : i < xs.length := by omega
        obtain ⟨h1, h2⟩ := hs i s hlt hi
        rw [xec, h1]
        have := ih (i + 1) _ fuel (by omega) h2 (by omega)
        rw [List.drop_eq_getElem_cons hlt]
        exact this
  have := key xs.length 0 s0 fuel (by omega) h0 hf
  simpa using this
def wl {σ : Type} (step : Nat → σ → σ) (len : σ → Nat) : Nat → Nat → σ → Nat × σ
  | 0, k, s => (k, s)
  | f + 1, k, s => if k < len s then wl step len f (k + 1) (step k s) else (k, s)
theorem x6s {σ S ρ : Type} {B : S → Option (St S ρ)} (mk : Nat → σ → S) (step : Nat → σ → σ) (len : σ → Nat) (fin : Nat → σ → ρ) (I : Nat → σ → Prop) (N : Nat) (hN : ∀ k s, I k s → k ≤ len s ∧ len s ≤ N)
    (hs : ∀ k s, I k s → k < len s → B (mk k s) = some (.nx (mk (k + 1) (step k s))) ∧ I (k + 1) (step k s)) (he : ∀ k s, I k s → ¬ k < len s → B (mk k s) = some (.out (fin k s))) :
    ∀ (f k : Nat) (s : σ) (fuel : Nat), I k s → N < f + k → N < fuel + k → iter B fuel (mk k s) = some (fin (wl step len f k s).1 (wl step len f k s).2) ∧ I (wl step len f k s).1 (wl step len f k s).2 ∧ (wl step len f k s).1 = len (wl step len f k s).2
  | 0, k, s, fuel, hi, hf, hg => by have := hN k s hi; omega
  | f + 1, k, s, fuel, hi, hf, hg => by
    obtain ⟨n1, n2⟩ := hN k s hi
    cases fuel with
    | zero => omega
    | succ fuel =>
      rw [xec]
      unfold wl
      by_cases h : k < len s
      · obtain ⟨h1, h2⟩ := hs k s hi h
        rw [if_pos h, h1]
        exact x6s mk step len fin I N hN hs he f (k + 1) _ fuel h2 (by omega) (by omega)
      · rw [if_neg h, he k s hi h]
        exact ⟨rfl, hi, by show k = len s; omega⟩
theorem xkk {α : Type} {p : α → Option Bool} {f : α → Bool} : ∀ (l : List α), (∀ x ∈ l, p x = some (f x)) → l.length < 1000000000000 → x6g p l = some (l.any f) := by
  have key : ∀ (l : List α) (i : Nat), (∀ x ∈ l, p x = some (f x)) → ∃ r, idxM p l i = some r ∧ (0 ≤ r ↔ l.any f = true) := by
    intro l
    induction l with
    | nil => intro i _; exact ⟨-1, rfl, by simp⟩
    | cons x l ih =>
      intro i h
      unfold idxM
      rw [h x (by simp)]
      simp only [Option.bind_some]
      by_cases hx : f x = true
      · rw [if_pos hx]; exact ⟨_, rfl, by simp [hx]⟩
      · rw [if_neg hx]
        obtain ⟨r, h1, h2⟩ := ih (i + 1) (fun y hy => h y (by simp [hy]))
        exact ⟨r, h1, by rw [h2]; simp [hx]⟩
  intro l h hl
  obtain ⟨r, h1, h2⟩ := key l 0 h
  unfold x6g indexM ck
  rw [if_pos (by omega)]
  simp only [Option.bind_some]
  rw [h1]
  simp only [Option.bind_some]
  congr 1
  cases ha : l.any f with
  | true => simp [h2.2 ha]
  | false =>
    have : ¬ 0 ≤ r := fun h => by have := h2.1 h; rw [ha] at this; cases this
    simp [this]
theorem x7s {α : Type} {p : α → Option Bool} (h : ∀ x, ∃ r, p x = some r) : ∃ f : α → Bool, ∀ x, p x = some (f x) := ⟨fun x => Classical.choose (h x), fun x => Classical.choose_spec (h x)⟩
end Go.Proofs.YtefdlpandfhcgaaGreatDoor.AL

/- Numbers to the base 16, in plain Lean. -/
set_option linter.all false
namespace Go.Proofs.YtefdlpandfhcgaaGreatDoor.AL
open Go Go.Proofs
def hexD (n : Nat) : UInt8 := if n < 10 then UInt8.ofNat (48 + n) else UInt8.ofNat (87 + n)
def hexN : Nat → Nat → List UInt8
  | 0, _ => []
  | d + 1, n => hexN d (n / 16) ++ [hexD (n % 16)]
theorem x9e : ∀ d n, (hexN d n).length = d
  | 0, _ => rfl
  | d + 1, n => by unfold hexN; rw [List.length_append, x9e d]; rfl
theorem xlu : ∀ d, hexN d 0 = List.replicate d 48
  | 0 => rfl
  | d + 1 => by
    unfold hexN
    rw [xlu d, List.replicate_succ']
    rfl
def hexF : Nat → Nat → List UInt8
  | 0, n => [hexD (n % 16)]
  | f + 1, n => if n < 16 then [hexD n] else hexF f (n / 16) ++ [hexD (n % 16)]
theorem x2w : ∀ (d n : Nat), n < 16 ^ (d + 1) → (hexF d n).length ≤ d + 1 ∧ List.replicate (d + 1 - (hexF d n).length) 48 ++ hexF d n = hexN (d + 1) n
  | 0, n, h => by
    have h : n < 16 := by simpa using h
    unfold hexF hexN hexN
    exact ⟨by simp, by simp⟩
  | d + 1, n, h => by
    unfold hexF
    by_cases hn : n < 16
    · rw [if_pos hn]
      refine ⟨by simp, ?_⟩
      show List.replicate (d + 1 + 1 - 1) 48 ++ [hexD n] = _
      conv => rhs; unfold hexN
      rw [show n / 16 = 0 by omega, xlu, show n % 16 = n by omega]
      rfl
    · rw [if_neg hn]
      have ih := x2w d (n / 16) (by rw [Nat.pow_succ] at h; omega)
      refine ⟨by simp only [List.length_append, List.length_cons, List.length_nil]; omega, ?_⟩
      conv => rhs; unfold hexN
      rw [← ih.2]
      simp only [List.length_append, List.length_cons, List.length_nil]
      rw [show d + 1 + 1 - ((hexF d (n / 16)).length + (0 + 1)) = d + 1 - (hexF d (n / 16)).length by omega]
      simp
def lowB (c : UInt8) : Nat := c.toNat ||| 32
def dig16 (c : UInt8) : Option Nat := if 48 ≤ c.toNat ∧ c.toNat ≤ 57 then some (c.toNat - 48) else if 97 ≤ lowB c ∧ lowB c ≤ 102 then some (lowB c - 87) else none
def parse16 : Nat → List UInt8 → Option Nat
  | acc, [] => some acc
  | acc, c :: r => (dig16 c).bind fun d => parse16 (acc * 16 + d) r
theorem x36 {c : UInt8} {d : Nat} (h : dig16 c = some d) : d < 16 := by
  unfold dig16 at h
  split at h
  · injection h with h; omega
  · split at h
    · injection h with h; omega
    · cases h
theorem xlm {n : Nat} (h : n < 16) : dig16 (hexD n) = some n := by
  have : ∀ k : Fin 16, dig16 (hexD k.val) = some k.val := by decide
  exact this ⟨n, h⟩
theorem xrq : ∀ (l : List UInt8) (acc : Nat) (c : UInt8), parse16 acc (l ++ [c]) = (parse16 acc l).bind fun a => (dig16 c).bind fun d => some (a * 16 + d)
  | [], acc, c => by simp [parse16]
  | b :: l, acc, c => by
    simp only [List.cons_append, parse16]
    cases dig16 b with
    | none => rfl
    | some d => simp only [Option.bind_some]; exact xrq l _ c
theorem xre : ∀ (d n : Nat), n < 16 ^ d → parse16 0 (hexN d n) = some n
  | 0, n, h => by
    have : n = 0 := by simpa using h
    subst this
    rfl
  | d + 1, n, h => by
    unfold hexN
    rw [xrq, xre d (n / 16) (by rw [Nat.pow_succ] at h; omega), Option.bind_some, xlm (by omega), Option.bind_some]
    congr 1
    omega
theorem x2r : ∀ (l : List UInt8) (acc n : Nat), parse16 acc l = some n → n < (acc + 1) * 16 ^ l.length
  | [], acc, n, h => by
    simp only [parse16, Option.some.injEq] at h
    simp
    omega
  | c :: l, acc, n, h => by
    simp only [parse16] at h
    cases hc : dig16 c with
    | none => rw [hc] at h; cases h
    | some d =>
      rw [hc] at h
      simp only [Option.bind_some] at h
      have ih := x2r l _ _ h
      have hd := x36 hc
      rw [List.length_cons, Nat.pow_succ]
      have h2 : (acc * 16 + d + 1) * 16 ^ l.length ≤ ((acc + 1) * 16) * 16 ^ l.length := Nat.mul_le_mul_right _ (by omega)
      have h3 : ((acc + 1) * 16) * 16 ^ l.length = (acc + 1) * (16 ^ l.length * 16) := by
        rw [Nat.mul_assoc, Nat.mul_comm 16]
      omega
structure HdR (o : Origin) : Prop where
  l0 : 1 ≤ o.layer
  l1 : o.layer ≤ 15
  i0 : 0 ≤ o.ino
  i1 : o.ino ≤ 65535
  g0 : 0 ≤ o.gen
  g1 : o.gen ≤ 268435455
def hname (o : Origin) : List UInt8 := hexN 1 o.layer.toNat ++ (hexN 4 o.ino.toNat ++ hexN 7 o.gen.toNat)
theorem xel (o : Origin) : (hname o).length = 12 := by
  unfold hname
  rw [List.length_append, List.length_append, x9e, x9e, x9e]
theorem xpl (o : Origin) : (hname o).take 1 = hexN 1 o.layer.toNat ∧ ((hname o).drop 1).take 4 = hexN 4 o.ino.toNat ∧ ((hname o).drop 5) = hexN 7 o.gen.toNat := by
  unfold hname
  have h1 := x9e 1 o.layer.toNat
  have h4 := x9e 4 o.ino.toNat
  refine ⟨List.take_left' h1, ?_, ?_⟩
  · rw [List.drop_left' h1, List.take_left' h4]
  · rw [show (5 : Nat) = 1 + 4 from rfl, ← List.drop_drop, List.drop_left' h1, List.drop_left' h4]
end Go.Proofs.YtefdlpandfhcgaaGreatDoor.AL

