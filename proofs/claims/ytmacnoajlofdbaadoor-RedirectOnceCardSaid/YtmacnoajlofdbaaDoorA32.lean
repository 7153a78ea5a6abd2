/- A law of the given program is proved: part 32 of 49. -/
import Derived.Test.YtmacnoajlofdbaaDoorA31
set_option linter.all false
/- Generic functions of slices, by their models: IndexFunc, ContainsFunc, Clone, for all types. -/
set_option linter.all false
namespace Go.Proofs.YtmacnoajlofdbaaDoor.AL
open Go.RowKit
theorem xk6 {α : Type} {P : Program} {S E n : Nat} {b : Bool} (hS : xy P S = some E) (hE : aggN P E = some (b, n)) {f : FuncId} {fi ca : List AV} (enc : α → AV) (l : List α) (p : α → Option Bool) (r : Int) (hr : indexM p l = some r)
    (hp : ∀ x b, p x = some b → Ok P f (fi ++ ([enc x] ++ ca)) (bool b)) (hcl : ∀ x, closeds (fi ++ ([enc x] ++ ca)) = true) (hld : ∀ x, evalLd P E (enc x) 0 = some (enc x)) (H : Nat → Option AO) (nx : Nat) :
    cw P 19 (idxAC S E) (finQ P [.tmp 4] (frzR (int r))) ⟨argT [.sl n (l.map enc), .fn (.func f) fi ca], H, nx⟩ := by
  have h1 := len_sl P hS
  have h2 := xwc P hS hE
  unfold indexM at hr
  rcases h : ck (l.length < 9223372036854775807) with _ | u
  · rw [h] at hr; cases hr
  rw [h] at hr
  simp only [Option.bind_some] at hr
  have hlen := xjw h
  unfold idxAC
  simp (config := { contextual := true }) only [h1, xqp, EV, ↓EVd, isCall, Nat.reduceAdd, Nat.reduceSub, Nat.reduceMul, Nat.reduceEqDiff, Nat.reduceBEq, Nat.reduceLT, Nat.reduceLeDiff, ↓reduceIte, reduceCtorEq, Nat.reduceShiftRight, Nat.reduceAnd, Nat.reduceBneDiff]
  obtain ⟨I, hI⟩ : ∃ I : Nat → AS → Prop, I = fun k s => s.T 0 = .sl n (l.map enc) ∧ s.T 1 = .fn (.func f) fi ca ∧ s.T 7 = int l.length ∧ ∃ i : Nat, s.T 8 = int i ∧ i ≤ l.length ∧ k = l.length - i + 1 ∧ idxM p (l.drop i) i = some r := ⟨_, rfl⟩
  refine xmz I (l.length + 1) ?_ ?_ ?_
  · rw [hI]
    refine TI.here ⟨?_, ?_, ?_, 0, ?_, Nat.zero_le _, rfl, by simpa using hr⟩
    all_goals simp only [EV, ↓EVd, isCall, Nat.reduceAdd, Nat.reduceSub, Nat.reduceMul, Nat.reduceEqDiff, Nat.reduceBEq, Nat.reduceLT, Nat.reduceLeDiff, ↓reduceIte, reduceCtorEq, Nat.reduceShiftRight, Nat.reduceAnd, Nat.reduceBneDiff]
    simp
  · rintro s hs
    rw [hI] at hs
    obtain ⟨_, _, _, i, _, _, hk, _⟩ := hs
    omega
  · rintro k ⟨T, H, nx⟩ hs
    rw [hI] at hs
    obtain ⟨k0, k1, k2, i, k3, k4, hk, k5⟩ := hs
    simp only at k0 k1 k2 k3
    apply cw_cwp
    have i0 : (0 : Int) ≤ (i : Int) := by omega
    have i1 : ((i : Int)).toNat = i := by omega
    by_cases hi : i < l.length
    · have i2 : (i : Int) < (l.length : Int) := by omega
      have i3 : (l.map enc)[i]? = some (enc l[i]) := by simp [hi]
      have i4 := hld l[i]
      have i5 := Go.IntWalk.i64_in ((i : Int) + 1) (by omega)
      rw [List.drop_eq_getElem_cons hi] at k5
      unfold idxM at k5
      rcases h : p l[i] with _ | v
      · rw [h] at k5; cases k5
      rw [h] at k5
      simp only [Option.bind_some] at k5
      simp only [h2, k0, k1, k2, k3, i0, i1, i2, i3, i4, EV, ↓EVd, isCall, Nat.reduceAdd, Nat.reduceSub, Nat.reduceMul, Nat.reduceEqDiff, Nat.reduceBEq, Nat.reduceLT, Nat.reduceLeDiff, ↓reduceIte, reduceCtorEq, Nat.reduceShiftRight, Nat.reduceAnd, Nat.reduceBneDiff]
      refine S1_ok (hp _ _ h) rfl (hcl _) ?_
      cases v
      · simp only [Bool.false_eq_true, if_false] at k5
        simp (config := { contextual := true }) only [k0, k1, k2, k3, i5, EV, ↓EVd, isCall, Nat.reduceAdd, Nat.reduceSub, Nat.reduceMul, Nat.reduceEqDiff, Nat.reduceBEq, Nat.reduceLT, Nat.reduceLeDiff, ↓reduceIte, reduceCtorEq, Nat.reduceShiftRight, Nat.reduceAnd, Nat.reduceBneDiff]
        rw [hI]
        refine TI.here ⟨?_, ?_, ?_, i + 1, ?_, by omega, by omega, k5⟩
        all_goals simp only [k0, k1, k2, k3, i5, EV, ↓EVd, isCall, Nat.reduceAdd, Nat.reduceSub, Nat.reduceMul, Nat.reduceEqDiff, Nat.reduceBEq, Nat.reduceLT, Nat.reduceLeDiff, ↓reduceIte, reduceCtorEq, Nat.reduceShiftRight, Nat.reduceAnd, Nat.reduceBneDiff]
        simp
      · simp only [if_true, Option.some.injEq] at k5
        subst k5
        simp (config := { contextual := true }) only [k0, k1, k2, k3, i5, EV, ↓EVd, isCall, Nat.reduceAdd, Nat.reduceSub, Nat.reduceMul, Nat.reduceEqDiff, Nat.reduceBEq, Nat.reduceLT, Nat.reduceLeDiff, ↓reduceIte, reduceCtorEq, Nat.reduceShiftRight, Nat.reduceAnd, Nat.reduceBneDiff]
    · have i2 : ¬ (i : Int) < (l.length : Int) := by omega
      rw [List.drop_of_length_le (by omega)] at k5
      simp only [idxM, Option.some.injEq] at k5
      subst k5
      simp only [h2, k0, k1, k2, k3, i0, i1, i2, EV, ↓EVd, isCall, Nat.reduceAdd, Nat.reduceSub, Nat.reduceMul, Nat.reduceEqDiff, Nat.reduceBEq, Nat.reduceLT, Nat.reduceLeDiff, ↓reduceIte, reduceCtorEq, Nat.reduceShiftRight, Nat.reduceAnd, Nat.reduceBneDiff]
theorem x15 {α : Type} {P : Program} {g : FuncId} {S E n : Nat} {b : Bool} (hf : FnC P g 19 [.tmp 4] (idxAC S E)) (hS : xy P S = some E) (hE : aggN P E = some (b, n)) {f : FuncId} {fi ca : List AV} (enc : α → AV) (l : List α) (p : α → Option Bool) (r : Int) (hr : indexM p l = some r)
    (hp : ∀ x b, p x = some b → Ok P f (fi ++ ([enc x] ++ ca)) (bool b)) (hcl : ∀ x, closeds (fi ++ ([enc x] ++ ca)) = true) (hld : ∀ x, evalLd P E (enc x) 0 = some (enc x)) :
    Ok P g [.sl n (l.map enc), .fn (.func f) fi ca] (int r) := okF hf (by simp) (xk6 hS hE enc l p r hr hp hcl hld _ _)
theorem xbg {α : Type} {P : Program} {g c : FuncId} {S E F n : Nat} {b : Bool} (hc : FnC P c 9 [.tmp 4] (conAC g S F)) (hf : FnC P g 19 [.tmp 4] (idxAC S E)) (hS : xy P S = some E) (hE : aggN P E = some (b, n)) {f : FuncId} {fi ca : List AV} (enc : α → AV) (l : List α) (p : α → Option Bool) (r : Bool) (hr : xhe p l = some r)
    (hp : ∀ x b, p x = some b → Ok P f (fi ++ ([enc x] ++ ca)) (bool b)) (hx : ∀ x, closed (enc x) = true) (hcf : closeds fi = true) (hcc : closeds ca = true) (hld : ∀ x, evalLd P E (enc x) 0 = some (enc x)) :
    Ok P c [.sl n (l.map enc), .fn (.func f) fi ca] (bool r) := by
  have hxs : closeds (l.map enc) = true := xcb enc hx l
  unfold xhe at hr
  rcases h : indexM p l with _ | i
  · rw [h] at hr; cases hr
  rw [h] at hr
  simp only [Option.bind_some, Option.some.injEq] at hr
  refine okF hc (by simp) ?_
  unfold conAC
  simp only [EV, ↓EVd, isCall, Nat.reduceAdd, Nat.reduceSub, Nat.reduceMul, Nat.reduceEqDiff, Nat.reduceBEq, Nat.reduceLT, Nat.reduceLeDiff, ↓reduceIte, reduceCtorEq, Nat.reduceShiftRight, Nat.reduceAnd, Nat.reduceBneDiff]
  refine S1_ok (x15 hf hS hE enc l p i h hp (fun x => x4m hcf (x4m (by simp [closeds, hx]) hcc)) hld) rfl (by simp [closeds, closed, hxs, hcf, hcc]) ?_
  subst hr
  by_cases hi : 0 ≤ i
  · simp only [hi, EV, ↓EVd, isCall, Nat.reduceAdd, Nat.reduceSub, Nat.reduceMul, Nat.reduceEqDiff, Nat.reduceBEq, Nat.reduceLT, Nat.reduceLeDiff, ↓reduceIte, reduceCtorEq, Nat.reduceShiftRight, Nat.reduceAnd, Nat.reduceBneDiff]
  · simp only [hi, EV, ↓EVd, isCall, Nat.reduceAdd, Nat.reduceSub, Nat.reduceMul, Nat.reduceEqDiff, Nat.reduceBEq, Nat.reduceLT, Nat.reduceLeDiff, ↓reduceIte, reduceCtorEq, Nat.reduceShiftRight, Nat.reduceAnd, Nat.reduceBneDiff]
def x5r (S : TypeId) : AC := (.seq (.region [⟨.assign (.const (Value.slice none 0 0)), some 2, none⟩])
 (.seq (.seq (.region [⟨.move (.tmp 0), some 3, none⟩,
  ⟨.binOp .eql S (.tmp 3) (.const (Value.slice none 0 0)) S, some 4, none⟩])
 (.cond (.tmp 4) (.seq (.region [⟨.assign (.const (Value.slice none 0 0)), some 2, none⟩])
 .ret)
 .skip))
 (.seq (.region [⟨.buildSlice S 0 #[], some 5, none⟩,
  ⟨.move (.tmp 0), some 6, none⟩,
  ⟨.call (Go.Call.mk (.builtin .append) #[.tmp 5, .tmp 6] #[S, S]), some 7, none⟩,
  ⟨.assign (.tmp 7), some 2, none⟩])
 .ret)))
theorem xj5 {α : Type} {P : Program} {g : FuncId} {S E n by_ : Nat} {b : Bool} {z : AV} (hf : FnC P g 8 [.tmp 2] (x5r S)) (hS : xy P S = some E) (hE : aggN P E = some (b, n)) (hB : xyc P E = some by_) (hz : zeroOf P E = some z) (hzs : xi z n = true) (hn : 0 < n)
    (enc : α → AV) (l r : List α) (hr : cloneM by_ l = some r) (hx : ∀ x, closed (enc x) = true) : Ok P g [.sl n (l.map enc)] (.sl n (r.map enc)) := by
  have hxs : closeds (l.map enc) = true := xcb enc hx l
  unfold cloneM at hr
  obtain ⟨hrl, h1, h2⟩ := x9v hr
  simp only [List.nil_append] at hrl
  rw [hrl]
  clear hrl hr
  simp only [List.length_nil, Nat.zero_add] at h1 h2
  have a1 : ∀ (V : Nat → Option AO) (s x : AV) (new : Nat), xfc P S V s x new = appK by_ E n new (oldsOf V s E n) (newsOf V x n) := fun V s x new => xtf P V hS hE hB hz hzs s x new
  have a2 : ∀ (V : Nat → Option AO) (new : Nat) (ρ : Operand → AV), evalOp P (.buildSlice S 0 #[]) V new ρ = some (.msl new 0, [(new, some (.row E n []))]) := by
    intro V new ρ
    rw [xud P V new ρ S 0 #[] E hS, hE, hz]
    simp [xgd, hzs, hn, setsA]
  refine okF hf (by simp) ?_
  unfold x5r
  simp only [EV, ↓EVd, isCall, Nat.reduceAdd, Nat.reduceSub, Nat.reduceMul, Nat.reduceEqDiff, Nat.reduceBEq, Nat.reduceLT, Nat.reduceLeDiff, ↓reduceIte, reduceCtorEq, Nat.reduceShiftRight, Nat.reduceAnd, Nat.reduceBneDiff]
  refine x0z hS rfl (fun he => ?_) ?_
  · have hl : l = [] := by simpa using he
    subst hl
    simp only [EV, ↓EVd, isCall, Nat.reduceAdd, Nat.reduceSub, Nat.reduceMul, Nat.reduceEqDiff, Nat.reduceBEq, Nat.reduceLT, Nat.reduceLeDiff, ↓reduceIte, reduceCtorEq, Nat.reduceShiftRight, Nat.reduceAnd, Nat.reduceBneDiff]
    exact xgb rfl (Sub.nilS _)
  · simp only [a1, a2, h1, h2, EV, ↓EVd, isCall, Nat.reduceAdd, Nat.reduceSub, Nat.reduceMul, Nat.reduceEqDiff, Nat.reduceBEq, Nat.reduceLT, Nat.reduceLeDiff, ↓reduceIte, reduceCtorEq, Nat.reduceShiftRight, Nat.reduceAnd, Nat.reduceBneDiff]
    refine xhab (T := E) ?_ ?_ hxs
    all_goals simp only [EV, ↓EVd, isCall, Nat.reduceAdd, Nat.reduceSub, Nat.reduceMul, Nat.reduceEqDiff, Nat.reduceBEq, Nat.reduceLT, Nat.reduceLeDiff, ↓reduceIte, reduceCtorEq, Nat.reduceShiftRight, Nat.reduceAnd, Nat.reduceBneDiff]
end Go.Proofs.YtmacnoajlofdbaaDoor.AL

/- AL: the rules of the generated walks, in short forms. -/
set_option linter.all false
namespace Go.Proofs.YtmacnoajlofdbaaDoor.AL
open Go Go.Proofs Go.RowKit
section
variable {α β : Type} {r : β}
theorem iteE {p : Prop} [Decidable p] {a b : Option β} (h : (if p then a else b) = some r) : (p = True ∧ a = some r) ∨ (p = False ∧ b = some r) := by
  by_cases hp : p
  · rw [if_pos hp] at h; exact .inl ⟨eq_true hp, h⟩
  · rw [if_neg hp] at h; exact .inr ⟨eq_false hp, h⟩
theorem itbE {c : Bool} {a b : Option β} (h : (if c = true then a else b) = some r) : (c = true ∧ a = some r) ∨ (c = false ∧ b = some r) := by
  cases c
  · exact .inr ⟨rfl, h⟩
  · exact .inl ⟨rfl, h⟩
theorem bsE {x : Option α} {f : α → Option β} (h : x.bind f = some r) : ∃ v, x = some v ∧ f v = some r := by
  cases x with
  | none => cases h
  | some v => exact ⟨v, rfl, h⟩
theorem ixE (g : α → AV) {xs : List α} {n : Int} {f : α → Option β} (h : (ix xs n).bind f = some r) : ∃ v, ((0 ≤ n) = True ∧ (n < xs.length) = True ∧ (xs.map g)[n.toNat]? = some (g v)) ∧ f v = some r := by
  obtain ⟨v, h1, h2⟩ := bsE h
  exact ⟨v, ⟨eq_true (x3w h1), eq_true (ix_lt h1), ix_enc g h1⟩, h2⟩
theorem ixBE {s : ByteArray} {n : Int} {f : UInt8 → Option β} (h : (ixB s n).bind f = some r) : ∃ v, ((0 ≤ n) = True ∧ s[n.toNat]? = some v) ∧ f v = some r := by
  obtain ⟨v, h1, h2⟩ := bsE h
  exact ⟨v, ⟨xa4 h1, (xk0 h1).2⟩, h2⟩
theorem ckE {p : Prop} [Decidable p] {f : Unit → Option β} (h : (ck p).bind f = some r) : p ∧ f () = some r := by
  obtain ⟨v, h1, h2⟩ := bsE h
  exact ⟨xjw h1, h2⟩
theorem apE {k : Nat} {xs ys : List α} {f : List α → Option β} (h : (ap k xs ys).bind f = some r) : ((xs.length + ys.length) * k ≤ 140737488355328 ∧ xs.length + ys.length ≤ 9223372036854775807) ∧ f (xs ++ ys) = some r := by
  obtain ⟨v, h1, h2⟩ := bsE h
  obtain ⟨rfl, h3⟩ := x9v h1
  exact ⟨h3, h2⟩
end
def Lq (l nx : Nat) : Prop := l < nx ∧ (∀ a, (l = nx + a) = False) ∧ (∀ a, (nx + a = l) = False) ∧ (∀ a, (l < nx + a) = True) ∧ (l = nx) = False ∧ (nx = l) = False
theorem lq {l nx : Nat} (h : l < nx) : Lq l nx := ⟨h, ne2 h, ne2' h, lt2 h, eq_false (by omega), eq_false (by omega)⟩
def Nq (a b : Nat) : Prop := a ≠ b ∧ (a = b) = False ∧ (b = a) = False
theorem nq {a b : Nat} (h : a ≠ b) : Nq a b := ⟨h, eq_false h, eq_false h.symm⟩
section
variable {P : Program} {n : Nat} {Q : Exit → AS → Prop} {s : AS}
theorem cwp_lp {σ ρ : Type} {x : AC} {B : σ → Option (St σ ρ)} {o : ρ} {k0 : Nat} {x0 : σ} (ho : iter B k0 x0 = some o) (R : σ → AS → Prop) (h0 : TI n (R x0) s)
    (round : ∀ (I : AS → Prop) (z : σ) (T : Nat → AV) (H : Nat → Option AO) (nx : Nat) (st : St σ ρ), R z ⟨T, H, nx⟩ → B z = some st → (∀ z', st = .nx z' → ∀ s', R z' s' → I s') → (∀ r, st = .out r → r = o) → cw P n x (seqQ (TI n I) Q) ⟨T, H, nx⟩) : cwp P n (.loop x) Q s := by
  refine xmz (fun k s => ∃ z, R z s ∧ iter B k z = some o) k0 ?_ ?_ ?_
  · obtain ⟨s', h1, h2⟩ := h0
    exact ⟨s', h1, x0, h2, ho⟩
  · rintro s ⟨z, _, h⟩
    simp [xtx] at h
  · rintro k ⟨T, H, nx⟩ ⟨z, hz, hi⟩
    rw [xtg] at hi
    obtain ⟨st, h1, h2⟩ := bsE hi
    refine cw_cwp _ (round (fun s => ∃ z, R z s ∧ iter B k z = some o) z T H nx st hz h1 ?_ ?_)
    · rintro z' rfl s' hs
      exact ⟨z', hs, h2⟩
    · rintro r rfl
      exact Option.some.inj h2
theorem cwp_sl {σ ρ : Type} {a b : AC} (l : Nat) {B : σ → Option (St σ ρ)} {o : ρ} {k0 : Nat} {x0 : σ} (ho : iter B (k0 + 1) x0 = some o) (R : σ → AS → Prop) (hf : findA (.seq a (.seq (.label l) b)) l = some (.seq .skip b))
    (pre : ∀ K : AS → Prop, (∀ s', TI n (R x0) s' → K s') → cw P n a (seqQ K (jumpQ l (fun _ => False) Q)) s)
    (round : ∀ (I : AS → Prop) (z : σ) (T : Nat → AV) (H : Nat → Option AO) (nx : Nat) (st : St σ ρ), R z ⟨T, H, nx⟩ → B z = some st → (∀ z', st = .nx z' → ∀ s', R z' s' → I s') → (∀ r, st = .out r → r = o) → cw P n b (jumpQ l (TI n I) Q) ⟨T, H, nx⟩) : cwp P n (.scope (.seq a (.seq (.label l) b))) Q s := by
  refine xr3 l (fun k s => ∃ z, R z s ∧ iter B k z = some o) k0 hf ?_ ?_ ?_
  · rintro s ⟨z, _, h⟩
    simp [xtx] at h
  · intro K hK
    refine cw_cwp _ (pre K fun s' hs => hK s' ?_)
    obtain ⟨s2, h1, h2⟩ := hs
    exact ⟨s2, h1, x0, h2, ho⟩
  · rintro k ⟨T, H, nx⟩ ⟨z, hz, hi⟩
    rw [xtg] at hi
    obtain ⟨st, h1, h2⟩ := bsE hi
    refine cw_cwp _ (round (fun s => ∃ z, R z s ∧ iter B k z = some o) z T H nx st hz h1 ?_ ?_)
    · rintro z' rfl s' hs
      exact ⟨z', hs, h2⟩
    · rintro r rfl
      exact Option.some.inj h2
theorem cwp_cx {x : AC} (id : Nat) (J0 : AS → Prop) (k : ∀ T H nx, J0 ⟨T, H, nx⟩ → Q (.exit id) ⟨T, H, nx⟩) (h : ∀ J : AS → Prop, (∀ s, J0 s → J s) → cwp P n x (exQ id (TI n J) Q) s) : cwp P n x Q s :=
  xvdb id J0 (h J0 fun _ h => h) fun ⟨T, H, nx⟩ hs => k T H nx hs
theorem cwp_cg {x : AC} (l : Nat) (J0 : AS → Prop) (k : ∀ T H nx, J0 ⟨T, H, nx⟩ → Q (.goto l) ⟨T, H, nx⟩) (h : ∀ J : AS → Prop, (∀ s, J0 s → J s) → cwp P n x (gtQ l (TI n J) Q) s) : cwp P n x Q s :=
  xvab l J0 (h J0 fun _ h => h) fun ⟨T, H, nx⟩ hs => k T H nx hs
theorem cwp_cn {x : AC} (J0 : AS → Prop) (k : ∀ T H nx, J0 ⟨T, H, nx⟩ → Q .normal ⟨T, H, nx⟩) (h : ∀ J : AS → Prop, (∀ s, J0 s → J s) → cwp P n x (nmQ (TI n J) Q) s) : cwp P n x Q s :=
  xt9 J0 (h J0 fun _ h => h) fun ⟨T, H, nx⟩ hs => k T H nx hs
end
def fzC : Option AV → Option (List AV) → Option (List AV)
  | some y, some ys => some (y :: ys)
  | _, _ => none
def fzF (f : Fn) : Option (List AV) → Option (List AV) → Option AV
  | some a, some b => some (.fn f a b)
  | _, _ => none
def fzM (H : Nat → Option AO) (k n : Nat) : Option AO → Option AV
  | some (.row _ s xs) => if n = xs.length then (frzs H k xs).map (.sl s) else none
  | _ => none
def fzP (H : Nat → Option AO) (k off : Nat) : Option AV → Option AV
  | some y => (frz H k y).map fun z => .ptr z off
  | _ => none
def fzL (H : Nat → Option AO) (k sz i off : Nat) : Option AO → Option AV
  | some (.row _ sz' xs) => if sz = sz' then fzP H k off (xs[i]?) else none
  | _ => none
section
variable (H : Nat → Option AO) (k : Nat)
theorem fz_clo (x : AV) (h : closed x = true) : frz H k x = some x := xbe h H k
theorem x3bb (xs : List AV) (h : closeds xs = true) : frzs H k xs = some xs := xce h H k
theorem xccb (x : AV) (xs : List AV) : frzs H (k + 1) (x :: xs) = fzC (frz H k x) (frzs H k xs) := by
  by_cases hc : closeds (x :: xs) = true
  · rw [xce hc]
    simp only [closeds, Bool.and_eq_true] at hc
    rw [xbe hc.1, xce hc.2]; rfl
  · conv => lhs; unfold frzs
    rw [if_neg hc]
    dsimp only
    cases frz H k x <;> cases frzs H k xs <;> rfl
theorem fz_agg (cs : List AV) : frz H (k + 1) (.agg cs) = (frzs H k cs).map .agg := by
  by_cases hc : closed (.agg cs) = true
  · rw [xbe hc]; simp only [closed] at hc; rw [xce hc]; rfl
  · conv => lhs; unfold frz
    rw [if_neg hc]
theorem fz_tup (cs : List AV) : frz H (k + 1) (.tup cs) = (frzs H k cs).map .tup := by
  by_cases hc : closed (.tup cs) = true
  · rw [xbe hc]; simp only [closed] at hc; rw [xce hc]; rfl
  · conv => lhs; unfold frz
    rw [if_neg hc]
theorem fz_ptr (y : AV) (off : Nat) : frz H (k + 1) (.ptr y off) = (frz H k y).map fun z => .ptr z off := by
  by_cases hc : closed (.ptr y off) = true
  · rw [xbe hc]; simp only [closed] at hc; rw [xbe hc]; rfl
  · conv => lhs; unfold frz
    rw [if_neg hc]
theorem fz_fn (f : Fn) (a b : List AV) : frz H (k + 1) (.fn f a b) = fzF f (frzs H k a) (frzs H k b) := by
  by_cases hc : closed (.fn f a b) = true
  · rw [xbe hc]; simp only [closed, Bool.and_eq_true] at hc; rw [xce hc.1, xce hc.2]; rfl
  · conv => lhs; unfold frz
    rw [if_neg hc]
    dsimp only
    cases frzs H k a <;> cases frzs H k b <;> rfl
theorem fz_mp (l : Nat) : frz H (k + 1) (.mp l) = some .junk := by simp [frz, closed]
theorem fz_msl (l n : Nat) : frz H (k + 1) (.msl l n) = fzM H k n (H l) := by
  unfold frz fzM
  simp only [closed, Bool.false_eq_true, if_false]
  cases H l with
  | none => rfl
  | some o => cases o <;> rfl
theorem fz_loc (l sz i off : Nat) : frz H (k + 1) (.loc l sz i off) = fzL H k sz i off (H l) := by
  unfold frz fzL fzP
  simp only [closed, Bool.false_eq_true, if_false]
  cases H l with
  | none => rfl
  | some o =>
    cases o <;> try rfl
    rename_i T s xs
    simp only
    split
    · cases xs[i]? <;> rfl
    · rfl
theorem x1cb (n T s : Nat) (xs : List AV) : fzM H k n (some (.row T s xs)) = if n = xs.length then (frzs H k xs).map (.sl s) else none := _root_.id rfl
theorem xsdb (sz i off T s : Nat) (xs : List AV) : fzL H k sz i off (some (.row T s xs)) = if sz = s then fzP H k off (xs[i]?) else none := _root_.id rfl
theorem xo9 (off : Nat) (y : AV) : fzP H k off (some y) = (frz H k y).map fun z => .ptr z off := _root_.id rfl
theorem x77 (y : AV) (ys : List AV) : fzC (some y) (some ys) = some (y :: ys) := _root_.id rfl
theorem xtab (f : Fn) (a b : List AV) : fzF f (some a) (some b) = some (.fn f a b) := _root_.id rfl
end
def FZ := aI (aI (aI (aI (@fz_clo) (@x3bb)) (aI (@xccb) (@fz_agg))) (aI (aI (@fz_tup) (@fz_ptr)) (aI (@fz_fn) (@fz_mp)))) (aI (aI (aI (@fz_msl) (@fz_loc)) (aI (@x1cb) (@xsdb))) (aI (aI (@xo9) (@x77)) (aI (@xtab) (@x3s AV AV))))
theorem frzR_e {r x : AV} {H : Nat → Option AO} {nx : Nat} (h : frz H 9 x = some r) : frzR r x H nx := ⟨9, r, h, Sub.refl _⟩
def OkN (P : Program) (f : FuncId) (args : List AV) (r : AV) : Prop :=
  callable P f = true ∧ ∀ (Z : Nat → Prop) (w : World) (vals : List Value), ZG Z w → VReps (Ec Z w) args vals →
    Calls P f vals.toArray w fun e w' => ∃ v, e = .returned v ∧ Below w.heap.size w w' ∧ VRep (Ec (fun b => w.heap.size ≤ b ∧ b < w'.heap.size) w') r v
theorem OkN.sub {P : Program} {f : FuncId} {ag ag' : List AV} {r : AV} (h : OkN P f ag' r) (hs : Subs ag ag') : OkN P f ag r := ⟨h.1, fun Z w vals hZ hv => h.2 Z w vals hZ (hs _ _ hv)⟩
theorem S1_okn {P : Program} {H : Nat → Option AO} {nx new : Nat} {ρ : Operand → AV} {k : AV → (Nat → Option AO) → Nat → Prop} {c : Call} {f : FuncId} {ag ag' : List AV} {r : AV} (m : Nat) (h : OkN P f ag' r) (hc : xub ρ c = some (f, ag)) (hm : frzs H m ag = some ag') (hk : k r H nx) :
    Sem1 P (.call c) H nx new ρ k := by
  intro o ho C E a hR hρ hn hb hnx next Q hnext
  obtain ⟨vals, h1, h2⟩ := x8f (P := P) ho hρ hc h.1
  unfold Oper.wp
  rw [h2, Oper.upon_enter]
  refine (h.2 (Zall E) E.w vals ⟨?_, hR.gw⟩ ((xij hR m).2 _ _ _ hm h1)).mono ?_
  · intro b hz
    rcases hz with hz | ⟨l, c, hz⟩
    · exact hR.zlt b hz
    · exact (hR.old l b c hz).2
  rintro e w' ⟨v, rfl, hb, hv⟩
  obtain ⟨k1, k2⟩ := xjk hR hb
  refine hnext r v H nx _ hk ?_ k1 k2 (Nat.le_refl _) fun l kl => .inl kl
  exact hv.stab (Ec.stab (E := { E with w := w', Z := fun b => E.Z b ∨ (E.w.heap.size ≤ b ∧ b < w'.heap.size) }) fun b hz => .inr hz)
section
variable {P : Program} {H H' : Nat → Option AO} {nx new : Nat} {ρ : Operand → AV} {k : AV → (Nat → Option AO) → Nat → Prop} {c : Call} {f : FuncId} {ag ag' ag2 : List AV} {r : AV}
theorem qc (h : Ok P f ag r) (hc : xub ρ c = some (f, ag)) (hk : k r H nx) (hcl : closeds ag = true := by simp only [CLO]) : Sem1 P (.call c) H nx new ρ k := S1_ok h hc hcl hk
theorem qcb (h : Ok P f ag' r) (hc : xub ρ c = some (f, ag)) (hm : frzs H 9 ag = some ag') (hk : k r H nx) (hfl : flat r = true := by rfl) : Sem1 P (.call c) H nx new ρ k := S1_okb 9 h hc hm hfl hk
theorem qcn (h : OkN P f ag' r) (hc : xub ρ c = some (f, ag)) (hm : frzs H 9 ag = some ag') (hk : k r H nx) : Sem1 P (.call c) H nx new ρ k := S1_okn 9 h hc hm hk
theorem qd {K : AV → Prop} (h : Ok P f ag r) (hc : xub ρ c = some (f, ag)) (hk : K r) (hcl : closeds ag = true := by simp only [CLO]) : ∃ v, OpS1 P (.call c) H ρ new v ∧ K v := ⟨_, x2v h hc hcl, hk⟩
theorem qdb {K : AV → Prop} (h : Ok P f ag' r) (hc : xub ρ c = some (f, ag)) (hm : frzs H 9 ag = some ag') (hk : K r) (hfl : flat r = true := by rfl) : ∃ v, OpS1 P (.call c) H ρ new v ∧ K v := ⟨_, xw0 9 h hc hm hfl, hk⟩
end
def MT := aI (aI (aI (aI (@xt7) (@x23)) (aI (@x47) (@xy3))) (aI (aI (@x3db) (@xuab)) (aI (@xrdb) (@xiab)))) (aI (aI (aI (@vw_app) (@xrcb)) (aI (@tbK_t) (@tbK_f))) (aI (aI (@z_tb) (aI (@true_and) (@and_true))) (aI (@z_bne) (aI Nat.zero_add Nat.add_zero))))
def fkU : List AV → Upds
  | [] => []
  | x :: xs => match x with
    | .msl l _ => (l, none) :: fkU xs
    | _ => fkU xs
theorem x4cb (x : AV) (xs : List AV) (h : closed x = true) : fkU (x :: xs) = fkU xs := by
  cases x <;> first
    | rfl
    | (simp [closed] at h; done)
theorem SubH.kill {V H : Nat → Option AO} (h : SubH V H) (l : Nat) : SubH (upd V l none) (upd H l none) := by
  intro j o e
  simp only [upd_at] at e ⊢
  split
  · rename_i e'; rw [if_pos e'] at e; cases e
  · rename_i e'; rw [if_neg e'] at e; exact h j o e
theorem xpv : ∀ (xs ys : List AV) (V V' H : Nat → Option AO), SubH V H → fk V xs = some (ys, V') → fk H xs = some (ys, applyU H (fkU xs))
  | [], ys, V, V', H, hs, h => by
    simp only [fk, Option.some.injEq, Prod.mk.injEq] at h
    obtain ⟨rfl, rfl⟩ := h
    rfl
  | x :: xs, ys, V, V', H, hs, h => by
    have plain : closed x = true → fkO (some x) (fk V xs) = some (ys, V') → fkO (some x) (fk H xs) = some (ys, applyU H (fkU (x :: xs))) := by
      intro hc h
      rw [x4cb _ _ hc]
      cases hx : fk V xs with
      | none => rw [hx] at h; cases h
      | some q =>
        obtain ⟨zs, V2⟩ := q
        rw [hx] at h
        simp only [fkO, Option.some.injEq, Prod.mk.injEq] at h
        obtain ⟨rfl, rfl⟩ := h
        rw [xpv xs zs V V2 H hs hx]
        rfl
    unfold fk at h ⊢
    split at h
    · rename_i l m
      cases hx : fk (upd V l none) xs with
      | none => rw [hx] at h; unfold fkO at h; split at h <;> first | (cases h; done) | (simp_all; done)
      | some q =>
        obtain ⟨zs, V2⟩ := q
        cases hk : fkK m (V l) with
        | none => rw [hk] at h; simp [fkO] at h
        | some y =>
          rw [hk, hx] at h
          simp only [fkO, Option.some.injEq, Prod.mk.injEq] at h
          obtain ⟨rfl, rfl⟩ := h
          have hH : fkK m (H l) = some y := by
            cases hv : V l with
            | none => rw [hv] at hk; simp [fkK] at hk
            | some ob => rw [hs l ob hv, ← hv]; exact hk
          simp only [hH]
          rw [xpv xs zs _ V2 (upd H l none) (hs.kill l) hx]
          rfl
    · split at h
      · rename_i hc
        rw [if_pos hc]
        exact plain hc h
      · cases h
theorem xwbb {P : Program} {V V' : Nat → Option AO} {new : Nat} {ρ : Operand → AV} {c : Call} {f : FuncId} {ag ag' : List AV} {r : AV} (h : Ok P f ag' r) (hc : xub ρ c = some (f, ag)) (hf : fk V ag = some (ag', V')) : OpSL P (.call c) V ρ new r (fkU ag) := by
  intro o ho C E H a hR hV hρ hn next Q hnext
  obtain ⟨vals, h1, h2⟩ := x8f (P := P) ho hρ hc h.1
  obtain ⟨E', g1, g2, g3, g4, g5, g6⟩ := xc8 ag E H vals ag' _ hR h1 (xpv _ _ _ _ _ hV hf)
  unfold Oper.wp
  rw [h2, Oper.upon_enter]
  have h3 := h.2 E'.Z E'.w vals ⟨g1.zlt, g1.gw⟩ (VReps.close (fun b hz => hz) _ _ g6 g5)
  rw [g4] at h3
  refine h3.mono ?_
  rintro e w' ⟨v, rfl, hb', hv⟩
  rw [← g4] at hb'
  obtain ⟨k1, k2⟩ := xjk g1 hb'
  refine hnext v _ ?_ k1 (g2.trans k2) fun l kl => .inl (g3 l kl)
  refine hv.stab (Ec.stab (E := { E' with w := w', Z := fun b => E'.Z b ∨ (E'.w.heap.size ≤ b ∧ b < w'.heap.size) }) fun b hz => ?_)
  rw [g4]
  exact hz
section
variable {P : Program} {V V' : Nat → Option AO} {W : List Nat} {new : Nat} {ρ : Operand → AV} {c : Call} {f : FuncId} {ag ag' ag2 : List AV} {r : AV} {K : AV → Upds → Prop}
theorem x18 (h : OpS1 P (.call c) V ρ new r) : OpSL P (.call c) V ρ new r [] := h
theorem qv (h : Ok P f ag r) (hc : xub ρ c = some (f, ag)) (hk : K r []) (hcl : closeds ag = true := by simp only [CLO]) : ∃ v us, OpSL P (.call c) V ρ new v us ∧ okL W new us ∧ K v us := ⟨_, [], x18 (x2v h hc hcl), trivial, hk⟩
end
theorem okG {P : Program} {f : FuncId} {n : Nat} {rs : List ResultVar} {ac : AC} (hf : FnC P f n rs ac) {args : List AV} {r : AV} (h : cw P n ac (finQ P rs (frzR r)) ⟨argT args, fun _ => none, 0⟩) (hn : args.length ≤ n := by simp) : Ok P f args r := okF hf hn h
end Go.Proofs.YtmacnoajlofdbaaDoor.AL

/- strings.IndexFunc by the kit's contract. -/
set_option linter.all false
namespace Go.Proofs.YtmacnoajlofdbaaDoor.AL
open Go Go.Proofs Go.RowKit
def idxFM (p : Int → Option Bool) (s : ByteArray) : Option Int := (ck (∀ x : Fin 1114112, (p x.val).isSome = true)).bind fun _ => some (Lib.idxFunc (fun x => (p (x : Int)).getD false) true s)
theorem x0n {g : FuncId} (p : Int → Option Bool) (s : ByteArray) (r : Int) (h : idxFM p s = some r) (hg : callable Tryd.prog g = true) (hp : ∀ (x : Int) (b : Bool), p x = some b → Ok Tryd.prog g [ik .i32 x] (bool b)) : Ok Tryd.prog 69 [str s, .fn (.func g) [] []] (int r) := by
  unfold idxFM at h
  obtain ⟨h1, h2⟩ := ckE h
  obtain rfl := Option.some.inj h2
  refine ⟨by kernel_rfl, fun Z w vals hZ hv => ?_⟩
  simp only [VReps] at hv
  obtain ⟨u, us, g1, ⟨v, vs, g2, rfl, rfl⟩, rfl⟩ := hv
  simp only [VRep] at g1 g2
  subst g1
  obtain ⟨a, b, ha, hb, rfl⟩ := g2
  simp only [VReps] at ha hb
  subst ha; subst hb
  refine (Tryd.strings_IndexFunc_grows g #[] (fun args w => xhr hg w args) (fun x => (p (x : Int)).getD false) s w ?_).mono ?_
  · intro W x hx hB
    have hs := h1 ⟨x, by omega⟩
    obtain ⟨b, hb⟩ := Option.isSome_iff_exists.1 hs
    have hgw : GW W := hZ.gw.mono hB hZ.gw.size
    have := (hp _ b hb).2 (fun _ => False) W [.int .i32 (x : Int)] ⟨fun _ h => h.elim, hgw⟩ (by simp only [VReps]; exact ⟨_, _, by simp only [ik, VRep], rfl, rfl⟩)
    refine (show Calls Tryd.prog g (#[encR x] ++ #[]) W _ from this).mono ?_
    rintro e w' ⟨v, rfl, hb', hv⟩
    simp only [VRep] at hv
    subst hv
    refine ⟨?_, hb'⟩
    have hb2 : p (x : Int) = some b := hb
    show Ending.returned (Value.bool b) = .returned (.bool ((p (x : Int)).getD false))
    rw [hb2]
    rfl
  · rintro e w' ⟨rfl, hbl⟩
    exact ⟨_, rfl, hbl, by simp only [VRep]⟩
end Go.Proofs.YtmacnoajlofdbaaDoor.AL

/- Functions of the library by the kit's contracts: strings.HasPrefix, CutPrefix, Split. -/
set_option linter.all false
namespace Go.Proofs.YtmacnoajlofdbaaDoor.AL
open Go Go.Proofs Go.RowKit
def xif (s p : ByteArray) : Option Bool := some (Lib.hasPrefix s.data.toList p.data.toList)
theorem xrn (s p : ByteArray) (r : Bool) (h : xif s p = some r) : Ok Tryd.prog 49 [str s, str p] (bool r) := by
  unfold xif at h
  obtain rfl := Option.some.inj h
  refine ⟨by kernel_rfl, fun Z w vals hZ hv => ?_⟩
  simp only [VReps] at hv
  obtain ⟨u, us, g1, ⟨v, vs, g2, rfl, rfl⟩, rfl⟩ := hv
  simp only [VRep] at g1 g2
  subst g1; subst g2
  refine (Tryd.strings_HasPrefix s p w).mono ?_
  rintro e w' ⟨rfl, rfl⟩
  exact ⟨_, rfl, Below.refl _ _, by simp only [VRep]⟩
def xhf (s p : ByteArray) : Option (ByteArray × Bool) := some (⟨(Lib.trimPrefix s.data.toList p.data.toList).toArray⟩, Lib.hasPrefix s.data.toList p.data.toList)
theorem xtn (s p : ByteArray) (r : ByteArray × Bool) (h : xhf s p = some r) : Ok Tryd.prog 78 [str s, str p] (.tup [str r.1, bool r.2]) := by
  unfold xhf at h
  obtain rfl := Option.some.inj h
  refine ⟨by kernel_rfl, fun Z w vals hZ hv => ?_⟩
  simp only [VReps] at hv
  obtain ⟨u, us, g1, ⟨v, vs, g2, rfl, rfl⟩, rfl⟩ := hv
  simp only [VRep] at g1 g2
  subst g1; subst g2
  refine (Tryd.strings_CutPrefix s p w).mono ?_
  rintro e w' ⟨rfl, rfl⟩
  exact ⟨_, rfl, Below.refl _ _, by simp only [VRep, VReps]; exact ⟨_, ⟨_, _, rfl, ⟨_, _, rfl, rfl, rfl⟩, rfl⟩, rfl⟩⟩
def xfh (s sep : ByteArray) : Option (List ByteArray) := (ck (s.size < 4294967281 ∧ 1 ≤ sep.size)).bind fun _ => some (Lib.splitB sep 0 (Lib.countB s sep) s)
theorem xut (s sep : ByteArray) (r : List ByteArray) (h : xfh s sep = some r) : Ok Tryd.prog 79 [str s, str sep] (.sl 1 (r.map str)) := by
  unfold xfh at h
  obtain ⟨⟨h1, h2⟩, h3⟩ := ckE h
  obtain rfl := Option.some.inj h3
  refine ⟨by kernel_rfl, fun Z w vals hZ hv => ?_⟩
  simp only [VReps] at hv
  obtain ⟨u, us, g1, ⟨v, vs, g2, rfl, rfl⟩, rfl⟩ := hv
  simp only [VRep] at g1 g2
  subst g1; subst g2
  obtain ⟨_, m, hm⟩ := hZ.gw
  refine (Tryd.strings_Split s sep m w h1 hm h2).mono ?_
  rintro e w' ⟨rfl, rfl⟩
  have hlen := Lib.splitB_all sep h2 0 _ s rfl
  generalize hl : Lib.splitB sep 0 (Lib.countB s sep) s = l at hlen ⊢
  refine ⟨_, rfl, ?_, ?_⟩
  · exact ⟨rfl, rfl, rfl, by show w.heap.size ≤ (w.heap.push _).size; simp, fun k hk => by show (w.heap.push _)[k]? = _; rw [Array.getElem?_push_lt hk]; simp [hk]⟩
  · simp only [VRep, List.length_map]
    refine ⟨l.map Value.string, some ⟨w.heap.size, 0, none⟩, l.length, ?_, by rw [hlen], Nat.le_refl _, .inr ⟨w.heap.size, 0, rfl, .inr ⟨Nat.le_refl _, by show w.heap.size < (w.heap.push _).size; simp⟩, ?_⟩⟩
    · clear hl hlen
      generalize Ec _ _ = E
      induction l with
      | nil => simp [VReps]
      | cons x l ih =>
        simp only [List.map_cons, VReps]
        exact ⟨_, _, by simp only [VRep], ih, rfl⟩
    · intro i u hu
      simp only [List.getElem?_map] at hu
      obtain ⟨x, hx, rfl⟩ := Option.map_eq_some_iff.1 hu
      refine ⟨rfl, by simp [Value.cells, Value.oneCell'], ?_⟩
      intro j v hj
      have hj0 : j = 0 := by
        simp only [Value.cells] at hj
        have := (Array.getElem?_eq_some_iff.1 hj).1
        simp at this
        exact this
      subst hj0
      simp only [Value.cells] at hj
      simp at hj
      subst hj
      refine (cell_of_row _ w.heap.size (0 + i * 1 + 0) (l.map Value.string).toArray 9 (0, 0) (by show (w.heap.push _)[w.heap.size]? = _; simp)).trans ?_
      simp [hx]
end Go.Proofs.YtmacnoajlofdbaaDoor.AL

/- AL: own rows that are cut; pieces of strings; labels deeper in the code, and ways out ahead of them. -/
set_option linter.all false
namespace Go.Proofs.YtmacnoajlofdbaaDoor.AL
open Go Go.Proofs Go.RowKit
section
variable {P : Program} {n : Nat} {Q : Exit → AS → Prop} {s : AS}
end
end Go.Proofs.YtmacnoajlofdbaaDoor.AL

/- AL: calls that hand back a row of their own, and calls that turn a row in place. -/
set_option linter.all false
namespace Go.Proofs.YtmacnoajlofdbaaDoor.AL
open Go Go.Proofs Go.RowKit
mutual
def inK (K : Nat → Prop) : AV → Prop
  | .val _ => True
  | .agg cs => inKs K cs
  | .tup cs => inKs K cs
  | .sl _ xs => inKs K xs
  | .ptr x _ => inK K x
  | .loc l _ _ _ => K l
  | .msl l _ => K l
  | .mp l => K l
  | .mtl l _ _ _ => K l
  | .fn _ a b => inKs K a ∧ inKs K b
  | .ifc _ x => inK K x
  | .e0 => True
  | .junk => True
def inKs (K : Nat → Prop) : List AV → Prop
  | [] => True
  | x :: xs => inK K x ∧ inKs K xs
end
mutual
theorem VRep.inK {E : Env} : ∀ (x : AV) (u : Value), VRep E x u → AL.inK E.K x
  | .val v, u, h => trivial
  | .agg cs, u, h => by
    simp only [VRep] at h; obtain ⟨us, h1, _⟩ := h
    simpa only [AL.inK] using VReps.inK cs us h1
  | .tup cs, u, h => by
    simp only [VRep] at h; obtain ⟨us, h1, _⟩ := h
    simpa only [AL.inK] using VReps.inK cs us h1
  | .sl sz xs, u, h => by
    simp only [VRep] at h; obtain ⟨us, A, cap, h1, _⟩ := h
    simpa only [AL.inK] using VReps.inK xs us h1
  | .ptr x off, u, h => by
    simp only [VRep] at h; obtain ⟨v, b, o, h1, _⟩ := h
    simpa only [AL.inK] using VRep.inK x v h1
  | .loc l sz i off, u, h => by
    simp only [VRep] at h; obtain ⟨b0, h1, _⟩ := h
    simpa only [AL.inK] using h1
  | .msl l n, u, h => by
    simp only [VRep] at h; obtain ⟨A, c0, h1, _⟩ := h
    simpa only [AL.inK] using h1
  | .mp l, u, h => by
    simp only [VRep] at h; obtain ⟨b0, h1, _⟩ := h
    simpa only [AL.inK] using h1
  | .mtl l sz q n, u, h => by
    simp only [VRep] at h; obtain ⟨A, c0, h1, _⟩ := h
    simpa only [AL.inK] using h1
  | .fn f fi ca, u, h => by
    simp only [VRep] at h; obtain ⟨a, b, h1, h2, _⟩ := h
    simp only [AL.inK]
    exact ⟨VReps.inK fi a h1, VReps.inK ca b h2⟩
  | .ifc t x, u, h => by
    simp only [VRep] at h; obtain ⟨v, h1, _⟩ := h
    simpa only [AL.inK] using VRep.inK x v h1
  | .e0, u, h => trivial
  | .junk, u, h => trivial
theorem VReps.inK {E : Env} : ∀ (xs : List AV) (us : List Value), VReps E xs us → inKs E.K xs
  | [], us, h => trivial
  | x :: xs, us, h => by
    simp only [VReps] at h; obtain ⟨u, us', h1, h2, _⟩ := h
    exact ⟨VRep.inK x u h1, VReps.inK xs us' h2⟩
end
structure Lo (K : Nat → Prop) (E E2 : Env) : Prop where
  K : ∀ j, K j → E2.K j ∧ ∀ p, E2.L j = some p → E.L j = some p
  Z : ∀ b, E.Z b → E2.Z b
  w : E2.w = E.w
theorem SlAt.lo {K : Nat → Prop} {E E2 : Env} (s : Lo K E E2) {sz : Nat} {A : Option Addr} {us : List Value} (h : SlAt E sz A us) : SlAt E2 sz A us := by
  rcases h with h | ⟨b, o, rfl, hz, h⟩
  · exact .inl h
  · exact .inr ⟨b, o, rfl, s.Z b hz, fun i u hu => by rw [s.w]; exact h i u hu⟩
mutual
theorem VRep.lo {K : Nat → Prop} {E E2 : Env} (s : Lo K E E2) : ∀ (x : AV) (u : Value), AL.inK K x → VRep E x u → VRep E2 x u
  | .val v, u, _, h => by simpa only [VRep] using h
  | .agg cs, u, k, h => by
    simp only [AL.inK] at k
    simp only [VRep] at h ⊢
    obtain ⟨us, h1, h2⟩ := h
    exact ⟨us, VReps.lo s cs us k h1, h2⟩
  | .tup cs, u, k, h => by
    simp only [AL.inK] at k
    simp only [VRep] at h ⊢
    obtain ⟨us, h1, h2⟩ := h
    exact ⟨us, VReps.lo s cs us k h1, h2⟩
  | .sl sz xs, u, k, h => by
    simp only [AL.inK] at k
    simp only [VRep] at h ⊢
    obtain ⟨us, A, cap, h1, h2, h3, h4⟩ := h
    exact ⟨us, A, cap, VReps.lo s xs us k h1, h2, h3, h4.lo s⟩
  | .ptr x off, u, k, h => by
    simp only [AL.inK] at k
    simp only [VRep] at h ⊢
    obtain ⟨v, b, o, h1, h2, h3, h4⟩ := h
    exact ⟨v, b, o, VRep.lo s x v k h1, h2, s.Z b h3, by rw [s.w]; exact h4⟩
  | .loc l sz i off, u, k, h => by
    simp only [AL.inK] at k
    simp only [VRep] at h ⊢
    obtain ⟨b0, h1, h2, h3⟩ := h
    exact ⟨b0, (s.K l k).1, h2, fun b c hb => h3 b c ((s.K l k).2 _ hb)⟩
  | .msl l n, u, k, h => by
    simp only [AL.inK] at k
    simp only [VRep] at h ⊢
    obtain ⟨A, c0, h1, h2, h5, h6, h3, h4⟩ := h
    exact ⟨A, c0, (s.K l k).1, h2, h5, h6, fun b c hb => h3 b c ((s.K l k).2 _ hb), fun hb => h4 ((s.K l k).2 _ hb)⟩
  | .mp l, u, k, h => by
    simp only [AL.inK] at k
    simp only [VRep] at h ⊢
    obtain ⟨b0, h1, h2, h3⟩ := h
    exact ⟨b0, (s.K l k).1, h2, fun b c hb => h3 b c ((s.K l k).2 _ hb)⟩
  | .mtl l sz q n, u, k, h => by
    simp only [AL.inK] at k
    simp only [VRep] at h ⊢
    obtain ⟨A, c0, h1, h2, h3, h4⟩ := h
    refine ⟨A, c0, (s.K l k).1, h2, h3, fun hn => ?_⟩
    obtain ⟨b0, h5, h6⟩ := h4 hn
    exact ⟨b0, h5, fun b c hb => h6 b c ((s.K l k).2 _ hb)⟩
  | .fn f fi ca, u, k, h => by
    simp only [AL.inK] at k
    simp only [VRep] at h ⊢
    obtain ⟨a, b, h1, h2, h3⟩ := h
    exact ⟨a, b, VReps.lo s fi a k.1 h1, VReps.lo s ca b k.2 h2, h3⟩
  | .ifc t x, u, k, h => by
    simp only [AL.inK] at k
    simp only [VRep] at h ⊢
    obtain ⟨v, h1, h2⟩ := h
    exact ⟨v, VRep.lo s x v k h1, h2⟩
  | .e0, u, _, h => by simpa only [VRep] using h
  | .junk, u, _, h => by simp only [VRep]
theorem VReps.lo {K : Nat → Prop} {E E2 : Env} (s : Lo K E E2) : ∀ (xs : List AV) (us : List Value), inKs K xs → VReps E xs us → VReps E2 xs us
  | [], us, _, h => by simpa only [VReps] using h
  | x :: xs, us, k, h => by
    simp only [VReps] at h ⊢
    obtain ⟨u, us', h1, h2, h3⟩ := h
    exact ⟨u, us', VRep.lo s x u k.1 h1, VReps.lo s xs us' k.2 h2, h3⟩
end
mutual
theorem inK_closed {K : Nat → Prop} : ∀ (x : AV), closed x = true → AL.inK K x
  | .val v, h => trivial
  | .agg cs, h => by simp only [closed] at h; simpa only [AL.inK] using inKs_closed cs h
  | .tup cs, h => by simp only [closed] at h; simpa only [AL.inK] using inKs_closed cs h
  | .sl sz xs, h => by simp only [closed] at h; simpa only [AL.inK] using inKs_closed xs h
  | .ptr x off, h => by simp only [closed] at h; simpa only [AL.inK] using inK_closed x h
  | .loc _ _ _ _, h => by simp [closed] at h
  | .msl _ _, h => by simp [closed] at h
  | .mp _, h => by simp [closed] at h
  | .mtl _ _ _ _, h => by simp [closed] at h
  | .fn f a b, h => by simp only [closed, Bool.and_eq_true] at h; simp only [AL.inK]; exact ⟨inKs_closed a h.1, inKs_closed b h.2⟩
  | .ifc t x, h => by simp only [closed] at h; simpa only [AL.inK] using inK_closed x h
  | .e0, h => trivial
  | .junk, h => trivial
theorem inKs_closed {K : Nat → Prop} : ∀ (xs : List AV), closeds xs = true → inKs K xs
  | [], h => trivial
  | x :: xs, h => by simp only [closeds, Bool.and_eq_true] at h; exact ⟨inK_closed x h.1, inKs_closed xs h.2⟩
end
def inO (K : Nat → Prop) : AO → Prop
  | .row _ _ xs => inKs K xs
  | .map _ vs => inKs K vs
  | .siter _ _ => True
  | .mapb _ _ _ vs => inKs K vs
theorem ORep.inO {E : Env} : ∀ (p : Option (Nat × Nat)) (o : AO), ORep E p o → AL.inO E.K o
  | some (b, c), .row T sz xs, h => by
    simp only [ORep] at h; obtain ⟨cur, us, _, h2, _⟩ := h
    exact VReps.inK xs us h2
  | none, .row T sz xs, h => by simp only [ORep] at h; subst h; trivial
  | some (b, c), .map ks vs, h => by
    simp only [ORep] at h; obtain ⟨es, cl, _, _, h2⟩ := h
    exact VReps.inK vs _ h2
  | none, .map ks vs, h => by simp only [ORep] at h
  | _, .siter _ _, h => trivial
  | some (b, c), .mapb bs ck ks vs, h => by
    simp only [ORep] at h; obtain ⟨es, _, _, _, h2⟩ := h
    exact VReps.inK vs _ h2
  | none, .mapb bs ck ks vs, h => by simp only [ORep] at h
theorem ORep.lo {K : Nat → Prop} {E E2 : Env} (s : Lo K E E2) : ∀ (p : Option (Nat × Nat)) (o : AO), AL.inO K o → ORep E p o → ORep E2 p o
  | some (b, c), .row T sz xs, k, h => by
    simp only [ORep] at h ⊢; obtain ⟨cur, us, h1, h2, h3⟩ := h
    exact ⟨cur, us, by rw [s.w]; exact h1, VReps.lo s xs us k h2, h3⟩
  | none, .row T sz xs, k, h => by simpa only [ORep] using h
  | some (b, c), .map ks vs, k, h => by
    simp only [ORep] at h ⊢; obtain ⟨es, cl, h1, h3, h2⟩ := h
    exact ⟨es, cl, by rw [s.w]; exact h1, h3, VReps.lo s vs _ k h2⟩
  | none, .map ks vs, k, h => by simp only [ORep] at h
  | some (b, c), .siter _ _, k, h => by simp only [ORep] at h ⊢; rw [s.w]; exact h
  | none, .siter _ _, k, h => by simp only [ORep] at h
  | some (b, c), .mapb bs ck ks vs, k, h => by
    simp only [ORep] at h ⊢; obtain ⟨es, h1, h3, h4, h2⟩ := h
    exact ⟨es, by rw [s.w]; exact h1, h3, h4, VReps.lo s vs _ k h2⟩
  | none, .mapb bs ck ks vs, k, h => by simp only [ORep] at h
noncomputable def envLo (E E1 : Env) (l0 : Nat) (q : Option (Option (Nat × Nat))) : Env :=
  open Classical in { Z := E1.Z, w := E1.w, K := fun j => E.K j ∨ j = l0, L := fun j => if j = l0 then q else if E.K j then E1.L j else none }
theorem xnw {C : Ctx} {E E1 : Env} {H H1 : Nat → Option AO} {nx : Nat} (hR : HR C E H) (hb : ∀ j, E.K j → j < nx) (hR1 : HR C E1 H1) (hS : Stab E E1) {l l0 T sz : Nat} {xs : List AV} {q : Option (Nat × Nat)}
    (hq : (E1.L l = some q ∧ H1 l = some (.row T sz xs)) ∨ (q = none ∧ xs = [])) (hc : closeds xs = true) (hl0 : (l0 = nx ∧ nx ≤ l) ∨ (l0 = l ∧ E.K l ∧ E1.L l = some q)) (hH : ∀ j, j < nx → j ≠ l0 → H1 j = H j) :
    HR C (envLo E E1 l0 (some q)) (upd H l0 (some (.row T sz xs))) ∧ Stab E (envLo E E1 l0 (some q)) ∧ Lo E.K E1 (envLo E E1 l0 (some q)) := by
  have key : ∀ j x, (envLo E E1 l0 (some q)).L j = some x → (j = l0 ∧ q = x) ∨ (j ≠ l0 ∧ E.K j ∧ E1.L j = some x) := by
    intro j x e
    simp only [envLo] at e
    by_cases e1 : j = l0
    · rw [if_pos e1] at e; exact .inl ⟨e1, Option.some.inj e⟩
    · rw [if_neg e1] at e
      by_cases e2 : E.K j
      · rw [if_pos e2] at e; exact .inr ⟨e1, e2, e⟩
      · rw [if_neg e2] at e; cases e
  have hlo : Lo E.K E1 (envLo E E1 l0 (some q)) := ⟨fun j h1 => ⟨.inl h1, fun p e => by
    rcases key j p e with ⟨e1, e2⟩ | ⟨_, _, e3⟩
    · rcases hl0 with ⟨g1, _⟩ | ⟨g1, _, g3⟩
      · have := hb j h1; omega
      · subst e1; subst e2; subst g1; exact g3
    · exact e3⟩, fun _ h => h, rfl⟩
  have hqL : ∀ b c, q = some (b, c) → E1.L l = some (some (b, c)) := by
    intro b c e
    rcases hq with hq | hq
    · rw [hq.1, e]
    · rw [hq.1] at e; cases e
  have hst : Stab E (envLo E E1 l0 (some q)) := ⟨fun j h => .inl h, fun j hj x e => by
      rcases key j x e with ⟨e1, e2⟩ | ⟨_, _, e3⟩
      · rcases hl0 with ⟨h1, _⟩ | ⟨h1, _, h3⟩
        · have := hb j hj; omega
        · subst e1; subst e2; subst h1
          exact hS.L _ hj _ h3
      · exact hS.L j hj x e3, fun b hz => hS.Z b hz⟩
  refine ⟨?_, hst, hlo⟩
  exact {
    below := hR1.below
    base := hR1.base
    zlt := hR1.zlt
    zlive := fun b hz j c e => by
      rcases key j _ e with ⟨_, e⟩ | ⟨_, _, e⟩
      · exact hR1.zlive b hz l c (hqL b c e)
      · exact hR1.zlive b hz j c e
    zsrc := hR1.zsrc
    dom := fun j => by
      simp only [envLo, upd_at]
      by_cases e1 : j = l0
      · rw [if_pos e1, if_pos e1]; rfl
      · rw [if_neg e1, if_neg e1]
        by_cases e2 : E.K j
        · rw [if_pos e2, ← hH j (hb j e2) e1]; exact hR1.dom j
        · rw [if_neg e2, hR.dom j]
          cases hL : E.L j with
          | none => rfl
          | some x => exact absurd (hR.known j x hL) e2
    known := fun j x e => by
      rcases key j x e with ⟨e, _⟩ | ⟨_, e, _⟩
      · exact .inr e
      · exact .inl e
    inj := fun i j b c c' e e' => by
      rcases key i _ e with ⟨e1, e2⟩ | ⟨e1, e2, e3⟩ <;> rcases key j _ e' with ⟨e1', e2'⟩ | ⟨e1', e2', e3'⟩
      · rw [e1, e1']
      · have := hR1.inj _ _ _ _ _ (hqL _ _ e2) e3'
        rcases hl0 with ⟨h1, h2⟩ | ⟨h1, _⟩
        · have := hb j e2'; omega
        · omega
      · have := hR1.inj _ _ _ _ _ (hqL _ _ e2') e3
        rcases hl0 with ⟨h1, h2⟩ | ⟨h1, _⟩
        · have := hb i e2; omega
        · omega
      · exact hR1.inj _ _ _ _ _ e3 e3'
    obj := fun j o p e e' => by
      rcases key j p e' with ⟨e1, e2⟩ | ⟨e1, e2, e3⟩
      · subst e1; subst e2
        simp only [upd_same, Option.some.injEq] at e
        subst e
        refine ORep.lo hlo _ _ (inKs_closed xs hc) ?_
        rcases hq with hq | hq
        · exact hR1.obj l _ _ hq.2 hq.1
        · obtain ⟨rfl, rfl⟩ := hq; simp only [ORep]
      · simp only [upd_ne _ _ e1] at e
        have h1 : ORep E1 p o := hR1.obj j o p ((hH j (hb j e2) e1).trans e) e3
        have h2 : ORep E p o := hR.obj j o p e (hS.L j e2 p e3)
        exact ORep.lo hlo _ _ (ORep.inO _ _ h2) h1
    old := fun j b c e => by
      rcases key j _ e with ⟨_, e⟩ | ⟨_, _, e⟩
      · exact hR1.old l b c (hqL b c e)
      · exact hR1.old j b c e }
def OkO (P : Program) (f : FuncId) (args : List AV) (T sz : Nat) (xs : List AV) : Prop :=
  closeds xs = true ∧ ∀ (H : Nat → Option AO) (nx : Nat), ACall P f args H nx fun r H' nx' => (r = nilS ∧ xs = [] ∧ ∀ j, j < nx → H' j = H j) ∨ ∃ l, nx ≤ l ∧ r = .msl l xs.length ∧ H' l = some (.row T sz xs) ∧ ∀ j, j < nx → H' j = H j
theorem OkO.acall {P : Program} {f : FuncId} {args : List AV} {T sz : Nat} {xs : List AV} (h : OkO P f args T sz xs) (H : Nat → Option AO) (nx : Nat) :
    ACall P f args H nx fun r H' nx' => r = .msl nx xs.length ∧ H' = upd H nx (some (.row T sz xs)) ∧ nx' = nx + 1 := by
  refine ⟨(h.2 H nx).1, fun C E vals hR hb hv => ((h.2 H nx).2 C E vals hR hb hv).mono ?_⟩
  rintro e w' ⟨v, r, H1, nx1, E1, rfl, h1, hv1, hR1, hS, hn1, hn2, rfl⟩
  rcases h1 with ⟨rfl, rfl, hH⟩ | ⟨l, hl, rfl, hH1, hH⟩
  · obtain ⟨g1, g2, g3⟩ := xnw (l := nx) (l0 := nx) (T := T) (sz := sz) (xs := []) (q := none) hR hb hR1 hS (.inr ⟨rfl, rfl⟩) rfl (.inl ⟨rfl, Nat.le_refl _⟩) (fun j hj _ => hH j hj)
    refine ⟨v, .msl nx 0, _, nx + 1, _, rfl, ⟨rfl, rfl, rfl⟩, ?_, g1, g2, by omega, ?_, rfl⟩
    · simp only [VRep] at hv1 ⊢
      exact ⟨none, 0, .inr rfl, hv1, fun h => absurd h (by omega), Nat.le_refl _, fun b c e => by simp [envLo] at e, fun _ => by simp⟩
    · rintro j (hj | hj)
      · exact .inl hj
      · exact .inr (by omega)
  · obtain ⟨q, hq, ho⟩ := hR1.live hH1
    obtain ⟨g1, g2, g3⟩ := xnw (l := l) (l0 := nx) (T := T) (sz := sz) (xs := xs) (q := q) hR hb hR1 hS (.inl ⟨hq, hH1⟩) h.1 (.inl ⟨rfl, hl⟩) (fun j hj _ => hH j hj)
    refine ⟨v, .msl nx xs.length, _, nx + 1, _, rfl, ⟨rfl, rfl, rfl⟩, ?_, g1, g2, by omega, ?_, rfl⟩
    · simp only [VRep] at hv1 ⊢
      obtain ⟨A, c0, _, k1, k2, k3, k4, k5⟩ := hv1
      refine ⟨A, c0, .inr rfl, k1, k2, k3, fun b c e => ?_, fun e => ?_⟩
      · simp only [envLo, if_true, Option.some.injEq] at e
        exact k4 b c (by rw [hq, e])
      · simp only [envLo, if_true, Option.some.injEq] at e
        exact k5 (by rw [hq, e])
    · rintro j (hj | hj)
      · exact .inl hj
      · exact .inr (by omega)
def OkI (P : Program) (f : FuncId) (l : Nat) (args : List AV) (r : AV) (T sz : Nat) (xs ys : List AV) : Prop :=
  closeds ys = true ∧ ∀ (H : Nat → Option AO) (nx : Nat), l < nx → H l = some (.row T sz xs) → ACall P f args H nx fun r' H' nx' => r' = r ∧ H' l = some (.row T sz ys) ∧ ∀ j, j < nx → j ≠ l → H' j = H j
theorem OkI.acall {P : Program} {f : FuncId} {l : Nat} {args : List AV} {r : AV} {T sz : Nat} {xs ys : List AV} (h : OkI P f l args r T sz xs ys) (hr : ∀ K : Nat → Prop, K l → inK K r) (H : Nat → Option AO) (nx : Nat) (hl : l < nx) (hH : H l = some (.row T sz xs)) :
    ACall P f args H nx fun r' H' nx' => r' = r ∧ H' = upd H l (some (.row T sz ys)) ∧ nx' = nx := by
  refine ⟨(h.2 H nx hl hH).1, fun C E vals hR hb hv => ((h.2 H nx hl hH).2 C E vals hR hb hv).mono ?_⟩
  rintro e w' ⟨v, r', H1, nx1, E1, rfl, ⟨rfl, hH1, hH2⟩, hv1, hR1, hS, hn1, hn2, rfl⟩
  obtain ⟨q, hq, ho⟩ := hR1.live hH1
  obtain ⟨p, hp, _⟩ := hR.live hH
  have hk := hR.known l p hp
  obtain ⟨g1, g2, g3⟩ := xnw (l := l) (l0 := l) (T := T) (sz := sz) (xs := ys) (q := q) hR hb hR1 hS (.inl ⟨hq, hH1⟩) h.1 (.inr ⟨rfl, hk, hq⟩) hH2
  refine ⟨v, r', _, nx, _, rfl, ⟨rfl, rfl, rfl⟩, VRep.lo g3 _ _ (hr _ hk) hv1, g1, g2, Nat.le_refl _, ?_, rfl⟩
  rintro j (hj | hj)
  · exact .inl hj
  · subst hj; exact .inl hk
section
variable {P : Program} {H : Nat → Option AO} {nx new : Nat} {ρ : Operand → AV} {k : AV → (Nat → Option AO) → Nat → Prop} {c : Call} {f : FuncId} {ag ag' : List AV} {r : AV} {T sz : Nat} {xs ys : List AV}
theorem OkO.sub (h : OkO P f ag' T sz xs) (hs : Subs ag ag') : OkO P f ag T sz xs := ⟨h.1, fun H nx => ⟨(h.2 H nx).1, fun C E vals hR hb hv => (h.2 H nx).2 C E vals hR hb (hs _ _ hv)⟩⟩
theorem qco (h : OkO P f ag T sz xs) (hc : xub ρ c = some (f, ag)) (hk : k (.msl nx xs.length) (upd H nx (some (.row T sz xs))) (nx + 1)) : Sem1 P (.call c) H nx new ρ k :=
  xtc ((h.acall H nx).mono fun r H' nx' ⟨e1, e2, e3⟩ => ⟨r, Sub.refl _, by subst e1; subst e2; subst e3; exact hk⟩) hc
theorem qci {l : Nat} (h : OkI P f l ag r T sz xs ys) (hc : xub ρ c = some (f, ag)) (hl : l < nx) (hH : H l = some (.row T sz xs)) (hr : ∀ K : Nat → Prop, K l → inK K r) (hk : k r (upd H l (some (.row T sz ys))) nx) : Sem1 P (.call c) H nx new ρ k :=
  xtc ((h.acall hr H nx hl hH).mono fun r H' nx' ⟨e1, e2, e3⟩ => ⟨r, Sub.refl _, by subst e1; subst e2; subst e3; exact hk⟩) hc
end
mutual
def fqA (H : Nat → Option AO) : AV → Option (AV × (Nat → Option AO))
  | .msl l m => (fkK m (H l)).map fun y => (y, upd H l none)
  | .agg cs => (fqL H cs).map fun p => (.agg p.1, p.2)
  | x => if closed x = true then some (x, H) else none
def fqL (H : Nat → Option AO) : List AV → Option (List AV × (Nat → Option AO))
  | [] => some ([], H)
  | x :: xs => (fqA H x).bind fun p => (fqL p.2 xs).map fun q => (p.1 :: q.1, q.2)
end
structure Fz (C : Ctx) (E E' : Env) (H' : Nat → Option AO) : Prop where
  hr : HR C E' H'
  st : Stab E E'
  k : ∀ l, E'.K l → E.K l
  w : E'.w = E.w
theorem fk1 {C : Ctx} {E : Env} {H : Nat → Option AO} {l m : Nat} {u : Value} {y : AV} (hR : HR C E H) (hu : VRep E (.msl l m) u) (h : fkK m (H l) = some y) : Fz C E (E.kill l) (upd H l none) ∧ VRep (E.kill l) y u ∧ closed y = true := by
  have h1 : fk H [.msl l m] = some ([y], upd H l none) := by
    simp only [fk, h, fkO]
  refine ⟨⟨hR.kill l, Env.kill_stab E l, fun _ h => h, rfl⟩, ?_⟩
  cases ho : H l with
  | none => rw [ho] at h; simp [fkK] at h
  | some ob =>
    cases ob with
    | map ks vs => rw [ho] at h; simp [fkK] at h
    | siter s q => rw [ho] at h; simp [fkK] at h
    | mapb bs ck ks vs => rw [ho] at h; simp [fkK] at h
    | row Ty sz zs =>
      rw [ho] at h
      simp only [fkK] at h
      split at h
      · rename_i hmc
        obtain ⟨hm, hc⟩ := hmc
        simp only [Option.some.injEq] at h
        subst h
        refine ⟨?_, by simpa [closed] using hc⟩
        have hs := Env.kill_stab E l
        simp only [VRep] at hu ⊢
        obtain ⟨A, c0, _, g0, q1, q2, q3, q4⟩ := hu
        obtain ⟨p, hp, ho'⟩ := hR.live ho
        subst hm
        cases p with
        | none =>
          simp only [ORep] at ho'
          subst ho'
          exact ⟨[], A, c0, VReps.nil, g0, Nat.zero_le _, .inl rfl⟩
        | some q =>
          obtain ⟨b, c⟩ := q
          obtain ⟨rfl, rfl⟩ := q3 b c hp
          simp only [ORep] at ho'
          obtain ⟨cur, vs, h1, h2, h3, h4, h5, h6, h7⟩ := ho'
          refine ⟨vs, _, c0, h2.stab hs, g0, q2, ?_⟩
          by_cases hz : vs = []
          · exact .inl hz
          refine .inr ⟨b, 0, rfl, .inr ⟨c0, hp⟩, fun i u hu => ⟨(h3 u (List.mem_of_getElem? hu)).1, (h3 u (List.mem_of_getElem? hu)).2, fun j v hj => ?_⟩⟩
          show E.w.cell? _ = _
          rw [cell_of_row E.w b _ cur Ty (0, 0) h1]
          have e := xth (fun u hu => (h3 u hu).1) hu j v hj
          rw [← h7, List.getElem?_take] at e
          split at e
          · simpa using e
          · cases e
      · cases h
theorem Fz.trans {C : Ctx} {E E1 E2 : Env} {H1 H2 : Nat → Option AO} (h : Fz C E E1 H1) (k : Fz C E1 E2 H2) : Fz C E E2 H2 := ⟨k.hr, h.st.trans k.st, fun l hl => h.k l (k.k l hl), k.w.trans h.w⟩
mutual
theorem fqA_sound {C : Ctx} : ∀ (x : AV) (E : Env) (H : Nat → Option AO) (u : Value) (y : AV) (H' : Nat → Option AO), HR C E H → VRep E x u → fqA H x = some (y, H') → ∃ E', Fz C E E' H' ∧ VRep E' y u ∧ closed y = true
  | .msl l m, E, H, u, y, H', hR, hu, h => by
    simp only [fqA, Option.map_eq_some_iff, Prod.mk.injEq] at h
    obtain ⟨y', h1, rfl, rfl⟩ := h
    exact ⟨_, fk1 hR hu h1⟩
  | .agg cs, E, H, u, y, H', hR, hu, h => by
    simp only [fqA, Option.map_eq_some_iff, Prod.mk.injEq] at h
    obtain ⟨⟨ys, H2⟩, h1, rfl, rfl⟩ := h
    simp only [VRep] at hu
    obtain ⟨us, hus, rfl⟩ := hu
    obtain ⟨E', g1, g2, g3⟩ := fqL_sound cs E H us ys H2 hR hus h1
    refine ⟨E', g1, ?_, by simpa only [closed] using g3⟩
    simp only [VRep]
    exact ⟨us, g2, rfl⟩
  | .val v, E, H, u, y, H', hR, hu, h => by simp only [fqA, closed, if_true, Option.some.injEq, Prod.mk.injEq] at h; obtain ⟨rfl, rfl⟩ := h; exact ⟨E, ⟨hR, Stab.refl E, fun _ h => h, rfl⟩, hu, rfl⟩
  | .tup cs, E, H, u, y, H', hR, hu, h => by
    simp only [fqA] at h
    split at h
    · rename_i hc; simp only [Option.some.injEq, Prod.mk.injEq] at h; obtain ⟨rfl, rfl⟩ := h; exact ⟨E, ⟨hR, Stab.refl E, fun _ h => h, rfl⟩, hu, hc⟩
    · cases h
  | .sl sz xs, E, H, u, y, H', hR, hu, h => by
    simp only [fqA] at h
    split at h
    · rename_i hc; simp only [Option.some.injEq, Prod.mk.injEq] at h; obtain ⟨rfl, rfl⟩ := h; exact ⟨E, ⟨hR, Stab.refl E, fun _ h => h, rfl⟩, hu, hc⟩
    · cases h
  | .ptr x off, E, H, u, y, H', hR, hu, h => by
    simp only [fqA] at h
    split at h
    · rename_i hc; simp only [Option.some.injEq, Prod.mk.injEq] at h; obtain ⟨rfl, rfl⟩ := h; exact ⟨E, ⟨hR, Stab.refl E, fun _ h => h, rfl⟩, hu, hc⟩
    · cases h
  | .loc l sz i off, E, H, u, y, H', hR, hu, h => by simp [fqA, closed] at h
  | .mp l, E, H, u, y, H', hR, hu, h => by simp [fqA, closed] at h
  | .mtl l sz q n, E, H, u, y, H', hR, hu, h => by simp [fqA, closed] at h
  | .fn f fi ca, E, H, u, y, H', hR, hu, h => by
    simp only [fqA] at h
    split at h
    · rename_i hc; simp only [Option.some.injEq, Prod.mk.injEq] at h; obtain ⟨rfl, rfl⟩ := h; exact ⟨E, ⟨hR, Stab.refl E, fun _ h => h, rfl⟩, hu, hc⟩
    · cases h
  | .ifc t x, E, H, u, y, H', hR, hu, h => by
    simp only [fqA] at h
    split at h
    · rename_i hc; simp only [Option.some.injEq, Prod.mk.injEq] at h; obtain ⟨rfl, rfl⟩ := h; exact ⟨E, ⟨hR, Stab.refl E, fun _ h => h, rfl⟩, hu, hc⟩
    · cases h
  | .e0, E, H, u, y, H', hR, hu, h => by simp only [fqA, closed, if_true, Option.some.injEq, Prod.mk.injEq] at h; obtain ⟨rfl, rfl⟩ := h; exact ⟨E, ⟨hR, Stab.refl E, fun _ h => h, rfl⟩, hu, rfl⟩
  | .junk, E, H, u, y, H', hR, hu, h => by simp only [fqA, closed, if_true, Option.some.injEq, Prod.mk.injEq] at h; obtain ⟨rfl, rfl⟩ := h; exact ⟨E, ⟨hR, Stab.refl E, fun _ h => h, rfl⟩, hu, rfl⟩
theorem fqL_sound {C : Ctx} : ∀ (xs : List AV) (E : Env) (H : Nat → Option AO) (us : List Value) (ys : List AV) (H' : Nat → Option AO), HR C E H → VReps E xs us → fqL H xs = some (ys, H') → ∃ E', Fz C E E' H' ∧ VReps E' ys us ∧ closeds ys = true
  | [], E, H, us, ys, H', hR, hu, h => by
    simp only [fqL, Option.some.injEq, Prod.mk.injEq] at h
    obtain ⟨rfl, rfl⟩ := h
    exact ⟨E, ⟨hR, Stab.refl E, fun _ h => h, rfl⟩, hu, rfl⟩
  | x :: xs, E, H, us, ys, H', hR, hu, h => by
    simp only [VReps] at hu
    obtain ⟨u, us', h1, h2, rfl⟩ := hu
    unfold fqL at h
    obtain ⟨⟨y, H1⟩, k1, k2⟩ := Option.bind_eq_some_iff.1 h
    simp only [Option.map_eq_some_iff, Prod.mk.injEq] at k2
    obtain ⟨⟨zs, H2⟩, k2, rfl, rfl⟩ := k2
    obtain ⟨E1, g1, g2, g3⟩ := fqA_sound x E H u y H1 hR h1 k1
    obtain ⟨E2, e1, e2, e3⟩ := fqL_sound xs E1 H1 us' zs H2 g1.hr (VReps.stab g1.st _ _ h2) k2
    exact ⟨E2, g1.trans e1, .cons (VRep.stab e1.st _ _ g2) e2, by simp [closeds, g3, e3]⟩
end
def fqC (y : AV) : Option (List AV × (Nat → Option AO)) → Option (List AV × (Nat → Option AO))
  | some q => some (y :: q.1, q.2)
  | none => none
def fqD (xs : List AV) : Option (AV × (Nat → Option AO)) → Option (List AV × (Nat → Option AO))
  | some p => fqC p.1 (fqL p.2 xs)
  | none => none
def fqM (H : Nat → Option AO) (l m : Nat) : Option AO → Option (AV × (Nat → Option AO))
  | some (.row _ sz ys) => if m = ys.length ∧ closeds ys = true then some (.sl sz ys, upd H l none) else none
  | _ => none
def fqG : Option (List AV × (Nat → Option AO)) → Option (AV × (Nat → Option AO))
  | some p => some (.agg p.1, p.2)
  | none => none
section
variable (H : Nat → Option AO)
theorem fq_nil : fqL H [] = some ([], H) := by simp only [fqL]
theorem x62 (x : AV) (xs : List AV) : fqL H (x :: xs) = fqD xs (fqA H x) := by
  conv => lhs; unfold fqL
  cases fqA H x with
  | none => rfl
  | some p => simp only [Option.bind_some, fqD, fqC]; cases fqL p.2 xs <;> rfl
theorem fq_clo (x : AV) (h : closed x = true) : fqA H x = some (x, H) := by
  have key : ∀ (cs : List AV) (H : Nat → Option AO), closeds cs = true → (∀ x ∈ cs, ∀ H, closed x = true → fqA H x = some (x, H)) → fqL H cs = some (cs, H) := by
    intro cs
    induction cs with
    | nil => intro H _ _; simp only [fqL]
    | cons c cs ih =>
      intro H hc ha
      simp only [closeds, Bool.and_eq_true] at hc
      rw [x62, ha c (by simp) H hc.1]
      simp only [fqD]
      rw [ih H hc.2 fun x hx => ha x (by simp [hx])]
      rfl
  have main : ∀ (n : Nat) (x : AV), SizeOf.sizeOf x < n → ∀ H, closed x = true → fqA H x = some (x, H) := by
    intro n
    induction n with
    | zero => intro x hx; omega
    | succ n ih =>
      intro x hx H h
      cases x with
      | msl l m => simp [closed] at h
      | agg cs =>
        simp only [closed] at h
        have := key cs H h fun x hx' H hc => ih x (by have := List.sizeOf_lt_of_mem hx'; simp at hx; omega) H hc
        simp only [fqA, this, Option.map_some]
      | _ => simp only [fqA, h, if_true]
  exact main _ x (Nat.lt_succ_self _) H h
theorem fq_msl (l m : Nat) : fqA H (.msl l m) = fqM H l m (H l) := by
  simp only [fqA, fqM]
  cases H l with
  | none => rfl
  | some o =>
    cases o <;> try rfl
    simp only [fkK]
    split <;> rfl
theorem fq_agg (cs : List AV) : fqA H (.agg cs) = fqG (fqL H cs) := by
  simp only [fqA]; cases fqL H cs <;> rfl
theorem xedb (l m T sz : Nat) (ys : List AV) : fqM H l m (some (.row T sz ys)) = if m = ys.length ∧ closeds ys = true then some (.sl sz ys, upd H l none) else none := _root_.id rfl
theorem xf8 (xs : List AV) (y : AV) (H' : Nat → Option AO) : fqD xs (some (y, H')) = fqC y (fqL H' xs) := _root_.id rfl
theorem xh9 (y : AV) (ys : List AV) (H' : Nat → Option AO) : fqC y (some (ys, H')) = some (y :: ys, H') := _root_.id rfl
theorem xbbb (ys : List AV) (H' : Nat → Option AO) : fqG (some (ys, H')) = some (.agg ys, H') := _root_.id rfl
end
def FQ := aI (aI (aI (@fq_nil) (@x62)) (aI (@fq_clo) (@fq_msl))) (aI (aI (@fq_agg) (@xedb)) (aI (@xf8) (aI (@xh9) (@xbbb))))
section
variable {P : Program} {H H' : Nat → Option AO} {nx new : Nat} {ρ : Operand → AV} {k : AV → (Nat → Option AO) → Nat → Prop} {c : Call} {f : FuncId} {ag ag' ag2 : List AV} {r : AV}
theorem qcq (h : Ok P f ag' r) (hc : xub ρ c = some (f, ag)) (hf : fqL H ag = some (ag', H')) (hk : k r H' nx) : Sem1 P (.call c) H nx new ρ k := by
  intro o ho C E a hR hρ hn hb hnx next Q hnext
  obtain ⟨vals, h1, h2⟩ := x8f (P := P) ho hρ hc h.1
  obtain ⟨E', ⟨g1, g2, g3, g4⟩, g5, g6⟩ := fqL_sound ag E H vals ag' H' hR h1 hf
  unfold Oper.wp
  rw [h2, Oper.upon_enter]
  have h3 := h.2 E'.Z E'.w vals ⟨g1.zlt, g1.gw⟩ (VReps.close (fun b hz => hz) _ _ g6 g5)
  rw [g4] at h3
  refine h3.mono ?_
  rintro e w' ⟨v, rfl, hb', hv⟩
  rw [← g4] at hb'
  obtain ⟨k1, k2⟩ := xjk g1 hb'
  refine hnext r v H' nx _ hk ?_ k1 (g2.trans k2) (Nat.le_refl _) fun l kl => .inl (g3 l kl)
  refine hv.stab (Ec.stab (E := { E' with w := w', Z := fun b => E'.Z b ∨ (E'.w.heap.size ≤ b ∧ b < w'.heap.size) }) fun b hz => ?_)
  rw [g4]
  exact hz
theorem qcqs (h : Ok P f ag2 r) (hc : xub ρ c = some (f, ag)) (hs : Subs ag' ag2) (hf : fqL H ag = some (ag', H')) (hk : k r H' nx) : Sem1 P (.call c) H nx new ρ k := qcq (h.sub hs) hc hf hk
end
theorem xdx {α : Type} {P : Program} {g : FuncId} {S E n by_ : Nat} {b : Bool} {z : AV} (hf : FnC P g 8 [.tmp 2] (x5r S)) (hS : xy P S = some E) (hE : aggN P E = some (b, n)) (hB : xyc P E = some by_) (hz : zeroOf P E = some z) (hzs : xi z n = true) (hn : 0 < n)
    (enc : α → AV) (l r : List α) (hr : cloneM by_ l = some r) (hx : ∀ x, closed (enc x) = true) : OkO P g [.sl n (l.map enc)] E n (r.map enc) := by
  have hxs : closeds (l.map enc) = true := xcb enc hx l
  unfold cloneM at hr
  obtain ⟨hrl, h1, h2⟩ := x9v hr
  simp only [List.nil_append] at hrl
  rw [hrl]
  clear hrl hr
  simp only [List.length_nil, Nat.zero_add] at h1 h2
  have a1 : ∀ (V : Nat → Option AO) (s x : AV) (new : Nat), xfc P S V s x new = appK by_ E n new (oldsOf V s E n) (newsOf V x n) := fun V s x new => xtf P V hS hE hB hz hzs s x new
  have a2 : ∀ (V : Nat → Option AO) (new : Nat) (ρ : Operand → AV), evalOp P (.buildSlice S 0 #[]) V new ρ = some (.msl new 0, [(new, some (.row E n []))]) := by
    intro V new ρ
    rw [xud P V new ρ S 0 #[] E hS, hE, hz]
    simp [xgd, hzs, hn, setsA]
  refine ⟨hxs, fun H nx => acallF hf (by simp) ?_⟩
  unfold x5r
  simp only [EV, ↓EVd, isCall, sevalprocAttr]
  refine x0z hS rfl (fun he => ?_) ?_
  · simp only [EV, ↓EVd, isCall, sevalprocAttr]
    exact .inl ⟨he, fun _ _ => trivial⟩
  · simp only [a1, a2, h1, h2, EV, ↓EVd, isCall, sevalprocAttr]
    refine .inr ⟨nx + 5, by omega, by simp, if_pos rfl, ?_⟩
    · intro j hj
      rw [if_neg (by omega), if_neg (by omega), if_neg (by omega)]
end Go.Proofs.YtmacnoajlofdbaaDoor.AL

/- Maps whose keys are plain structs or arrays of whole numbers: words of models. An entry bears the number that it was made with. -/
set_option linter.all false
namespace Go.Proofs.YtmacnoajlofdbaaDoor.AL
open Go Go.Proofs
abbrev MapK (κ : Type) := List (κ × Int × Nat) × Nat
section
variable {κ : Type} [DecidableEq κ]
def emptyK : MapK κ := ([], 0)
def mgetK (m : MapK κ) (k : κ) : Int := match m.1.find? (fun p => decide (k = p.1)) with
  | some p => p.2.1
  | none => 0
def mhasK (m : MapK κ) (k : κ) : Bool := m.1.any fun p => decide (k = p.1)
def setL : List (κ × Int × Nat) → κ → Int → Nat → List (κ × Int × Nat)
  | [], k, v, c => [(k, v, c)]
  | p :: m, k, v, c => if k = p.1 then (k, v, p.2.2) :: m else p :: setL m k v c
def msetK (m : MapK κ) (k : κ) (v : Int) : MapK κ := (setL m.1 k v m.2, if mhasK m k = true then m.2 else m.2 + 1)
def delL : List (κ × Int × Nat) → κ → List (κ × Int × Nat)
  | [], _ => []
  | p :: m, k => if k = p.1 then m else p :: delL m k
def mdelK (m : MapK κ) (k : κ) : MapK κ := (delL m.1 k, m.2)
def bornK (m : MapK κ) (k : κ) : Nat := match m.1.find? (fun p => decide (k = p.1)) with
  | some p => p.2.2
  | none => m.2
def mentM (m : MapK κ) (k : κ) : MapK κ := msetK m k (mgetK m k)
def mstoL (n x : Int) : List (κ × Int × Nat) → Option (List (κ × Int × Nat))
  | [] => none
  | p :: m => if ((p.2.2 : Int) == n) = true then some ((p.1, x, p.2.2) :: m) else (mstoL n x m).map (p :: ·)
def mstoK (m : MapK κ) (n x : Int) : Option (MapK κ) := (mstoL n x m.1).map fun l => (l, m.2)
structure KeyOf (P : Program) (kt : TypeId) (kv : κ → Value) : Prop where
  chk : ∀ k, chkB P kt (kv k) = true
  eq : ∀ a b, evalEq P 40 kt (keyAV (kv a)) (keyAV (kv b)) = some (decide (a = b))
  bits : ∀ a, Instr.sameBits 10000 (kv a) (kv a) = true
def kKs (kv : κ → Value) (m : List (κ × Int × Nat)) : List Value := m.map fun p => kv p.1
def kVs (m : List (κ × Int × Nat)) : List AV := m.map fun p => .val (.int .i64 p.2.1)
def kBs (m : List (κ × Int × Nat)) : List Nat := m.map fun p => p.2.2
def kOb (kv : κ → Value) (m : MapK κ) : AO := .mapb (kBs m.1) m.2 (kKs kv m.1) (kVs m.1)
variable {P : Program} {kt : TypeId} {kv : κ → Value}
def idxK (m : List (κ × Int × Nat)) (k : κ) : Option Nat := m.findIdx? fun p => decide (k = p.1)
theorem xwl (h : KeyOf P kt kv) (k : κ) : ∀ (m : List (κ × Int × Nat)) (i : Nat), findKx P kt (kv k) (kKs kv m) i = some ((idxK m k).map (i + ·))
  | [], i => rfl
  | p :: m, i => by
    simp only [kKs, idxK, List.map_cons, findKx, h.eq, List.findIdx?_cons]
    by_cases hk : k = p.1
    · simp [hk]
    · simp only [hk, decide_false, Bool.false_eq_true, if_false]
      have := xwl h k m (i + 1)
      simp only [kKs, idxK] at this
      rw [this]
      cases m.findIdx? (fun p => decide (k = p.1)) with
      | none => rfl
      | some j => simp only [Option.map_some]; congr 2; omega
theorem at_ind (k : κ) (x : Int) (c : Nat) : ∀ (m : List (κ × Int × Nat)), (match idxK m k with
    | some j => (m.find? fun p => decide (k = p.1)) = m[j]? ∧ (m.any fun p => decide (k = p.1)) = true ∧ (kKs kv m)[j]? = some (kv k) ∧
      (kKs kv m).set j (kv k) = kKs kv (setL m k x c) ∧ (kVs m).set j (.val (.int .i64 x)) = kVs (setL m k x c) ∧ kBs (setL m k x c) = kBs m ∧
      (kKs kv m).eraseIdx j = kKs kv (delL m k) ∧ (kVs m).eraseIdx j = kVs (delL m k) ∧ (kBs m).eraseIdx j = kBs (delL m k)
    | none => (m.find? fun p => decide (k = p.1)) = none ∧ (m.any fun p => decide (k = p.1)) = false ∧ setL m k x c = m ++ [(k, x, c)] ∧ delL m k = m)
  | [] => by simp [idxK, setL, delL]
  | p :: m => by
    have ih := at_ind k x c m
    unfold idxK at ih ⊢
    rw [List.findIdx?_cons]
    by_cases hk : k = p.1
    · simp [hk, setL, delL, kKs, kVs, kBs]
    · simp only [hk, decide_false, Bool.false_eq_true, if_false, setL, delL, List.find?_cons, List.any_cons, Bool.false_or, kKs, kVs, kBs, List.map_cons] at ih ⊢
      cases hf : m.findIdx? (fun p => decide (k = p.1)) with
      | none => rw [hf] at ih; simp only [Option.map_none] at ih ⊢; obtain ⟨a, b, c, d⟩ := ih; exact ⟨a, b, by rw [c]; rfl, by rw [d]⟩
      | some j =>
        rw [hf] at ih
        simp only [Option.map_some, List.getElem?_cons_succ, List.set_cons_succ, List.eraseIdx_cons_succ] at ih ⊢
        obtain ⟨a1, a2, a3, a4, a5, a6, a7, a8, a9⟩ := ih
        exact ⟨a1, a2, a3, by rw [a4], by rw [a5], by rw [a6], by rw [a7], by rw [a8], by rw [a9]⟩
theorem kget {m : List (κ × Int × Nat)} {j : Nat} {p : κ × Int × Nat} (h : m[j]? = some p) : (kVs m)[j]? = some (.val (.int .i64 p.2.1)) ∧ (kBs m)[j]? = some p.2.2 := by
  unfold kVs kBs
  rw [List.getElem?_map, List.getElem?_map, h]
  exact ⟨rfl, rfl⟩
theorem idx_lt {m : List (κ × Int × Nat)} {k : κ} {j : Nat} (h : idxK m k = some j) : ∃ p, m[j]? = some p := by
  unfold idxK at h
  obtain ⟨hl, _⟩ := List.findIdx?_eq_some_iff_getElem.1 h
  exact ⟨_, List.getElem?_eq_getElem hl⟩
theorem xpz (h : KeyOf P kt kv) {M et : TypeId} (hT : P.underlying M = some (.map kt et)) (hz : zeroOf P et = some (.val (.int .i64 0))) (c : Bool) (m : MapK κ) {k : κ} {cs : List AV} {ws : List Value} (hv : valsOf cs = some ws) (hw : Value.agg ws.toArray = kv k) :
    x4e P M c (some (kOb kv m)) cs = some (xwd c (.val (.int .i64 (mgetK m k))) (mhasK m k)) := by
  unfold x4e kOb
  rw [hT, hv]
  simp only [hw]
  rw [if_pos (h.chk k), xwl h k m.1 0]
  have g := at_ind (kv := kv) k 0 0 m.1
  unfold mgetK mhasK
  cases hf : idxK m.1 k with
  | none =>
    rw [hf] at g
    simp only at g
    simp only [Option.map_none, hz, Option.map_some, g.1, g.2.1]
  | some j =>
    rw [hf] at g
    simp only at g
    obtain ⟨p, hp⟩ := idx_lt hf
    rw [hp] at g
    simp only [Option.map_some, Nat.zero_add, g.1, g.2.1, (kget hp).1]
theorem x3eb (h : KeyOf P kt kv) {M et : TypeId} (hT : P.underlying M = some (.map kt et)) (m : MapK κ) {k : κ} {cs : List AV} {ws : List Value} (hv : valsOf cs = some ws) (hw : Value.agg ws.toArray = kv k) (l : Nat) (x : Int) :
    x6d P M l (some (kOb kv m)) cs (.val (.int .i64 x)) = some [(l, some (kOb kv (msetK m k x)))] := by
  unfold x6d kOb msetK mhasK
  rw [hT, hv]
  simp only [hw]
  rw [if_pos (h.chk k), xwl h k m.1 0]
  have g := at_ind (kv := kv) k x m.2 m.1
  cases hf : idxK m.1 k with
  | none =>
    rw [hf] at g
    simp only at g
    simp only [Option.map_none, g.2.1, g.2.2.1, Bool.false_eq_true, if_false, kBs, kKs, kVs, List.map_append, List.map_cons, List.map_nil]
  | some j =>
    rw [hf] at g
    simp only at g
    obtain ⟨g1, g2, g3, g4, g5, g6, _⟩ := g
    simp only [Option.map_some, Nat.zero_add, g3, Option.any_some, h.bits k, if_true, g4, g5, g6, g2]
def xvm (P : Program) (T : TypeId) (l : Nat) (o : Option AO) (cs : List AV) : Option (AV × Upds) := xwf P T (fun _ => o) (.mp l) (.agg cs)
theorem xzeb (h : KeyOf P kt kv) {M et : TypeId} (hT : P.underlying M = some (.map kt et)) (m : MapK κ) {k : κ} {cs : List AV} {ws : List Value} (hv : valsOf cs = some ws) (hw : Value.agg ws.toArray = kv k) (l : Nat) :
    xvm P M l (some (kOb kv m)) cs = some (.tup [], [(l, some (kOb kv (mdelK m k)))]) := by
  unfold xvm xwf kOb mdelK
  simp only [hT, hv, hw]
  rw [if_pos (h.chk k), xwl h k m.1 0]
  have g := at_ind (kv := kv) k 0 0 m.1
  cases hf : idxK m.1 k with
  | none =>
    rw [hf] at g
    simp only at g
    simp only [Option.map_none, g.2.2.2]
  | some j =>
    rw [hf] at g
    simp only at g
    obtain ⟨_, _, _, _, _, _, g7, g8, g9⟩ := g
    simp only [Option.map_some, Nat.zero_add, g7, g8, g9]
def x2n (P : Program) (T : TypeId) (l : Nat) (o : Option AO) (cs : List AV) : Option (AV × Upds) := xcd P T (fun _ => o) (.mp l) (.agg cs)
theorem xjdb (h : KeyOf P kt kv) {M et : TypeId} (hT : P.underlying M = some (.map kt et)) (hz : zeroOf P et = some (.val (.int .i64 0))) (m : MapK κ) {k : κ} {cs : List AV} {ws : List Value} (hv : valsOf cs = some ws) (hw : Value.agg ws.toArray = kv k) (l : Nat) :
    x2n P M l (some (kOb kv m)) cs = some (.tup [.val (.int .i64 (mgetK m k)), .val (.int .i64 (bornK m k))], [(l, some (kOb kv (mentM m k)))]) := by
  unfold x2n xcd kOb mentM msetK mhasK mgetK bornK
  simp only [hT, hv, hw]
  rw [if_pos ⟨h.chk k, by rw [h.eq]; simp, by simp [kKs, kVs]⟩, xwl h k m.1 0]
  cases hf : idxK m.1 k with
  | none =>
    have g := at_ind (kv := kv) k 0 m.2 m.1
    rw [hf] at g
    simp only at g
    simp only [Option.map_none, hz, Option.map_some, g.1, g.2.1, g.2.2.1, Bool.false_eq_true, if_false, kBs, kKs, kVs, List.map_append, List.map_cons, List.map_nil]
  | some j =>
    obtain ⟨p, hp⟩ := idx_lt hf
    have g := at_ind (kv := kv) k p.2.1 m.2 m.1
    rw [hf] at g
    simp only at g
    obtain ⟨g1, g2, g3, g4, g5, g6, _⟩ := g
    rw [hp] at g1
    have hs : (kVs m.1).set j (.val (.int .i64 p.2.1)) = kVs m.1 := List.ext_getElem? fun i => by
      rw [List.getElem?_set]
      split
      · rename_i e
        subst e
        split
        · exact (kget hp).1.symm
        · rename_i hn
          rw [List.getElem?_eq_none (by omega)]
      · rfl
    simp only [Option.map_some, Nat.zero_add, g3, Option.any_some, h.bits k, if_true, (kget hp).1, (kget hp).2, g1, g2, g4, ← g5, hs, g6]
def entS (l : Nat) (n : Int) (x : AV) (o : Option AO) : Option Upds := xod (fun _ => o) (.mp l) (.val (.int .i64 n)) x
theorem esE (V : Nat → Option AO) (l : Nat) (n : Int) (x : AV) : xod V (.mp l) (int n) x = entS l n x (V l) := _root_.id rfl
theorem x30 (n x : Int) : ∀ (m r : List (κ × Int × Nat)), mstoL n x m = some r → ∃ j, ((kBs m).findIdx? fun b : Nat => ((b : Int)) == n) = some j ∧ (kVs m).set j (.val (.int .i64 x)) = kVs r ∧ kKs kv r = kKs kv m ∧ kBs r = kBs m
  | [], r, h => by simp [mstoL] at h
  | p :: m, r, h => by
    unfold mstoL at h
    by_cases hp : ((p.2.2 : Int) == n) = true
    · rw [if_pos hp] at h
      injection h with h
      subst h
      exact ⟨0, by simp only [kBs, List.map_cons, List.findIdx?_cons, hp, if_true], rfl, rfl, rfl⟩
    · rw [if_neg hp] at h
      obtain ⟨r', h1, h2⟩ := Option.map_eq_some_iff.1 h
      subst h2
      obtain ⟨j, g1, g2, g3, g4⟩ := x30 n x m r' h1
      have hpf : ((p.2.2 : Int) == n) = false := by simpa using hp
      refine ⟨j + 1, ?_, ?_, ?_, ?_⟩
      · simp only [kBs, List.map_cons, List.findIdx?_cons, hpf, Bool.false_eq_true, if_false] at g1 ⊢
        rw [g1]
        rfl
      · simp only [kVs, List.map_cons, List.set_cons_succ] at g2 ⊢
        rw [g2]
      · simp only [kKs, List.map_cons] at g3 ⊢
        rw [g3]
      · simp only [kBs, List.map_cons] at g4 ⊢
        rw [g4]
theorem esO (kv : κ → Value) {m m' : MapK κ} {n x : Int} (h : mstoK m n x = some m') (l : Nat) : entS l n (.val (.int .i64 x)) (some (kOb kv m)) = some [(l, some (kOb kv m'))] := by
  unfold mstoK at h
  obtain ⟨r, h1, h2⟩ := Option.map_eq_some_iff.1 h
  subst h2
  obtain ⟨j, g1, g2, g3, g4⟩ := x30 (kv := kv) n x m.1 r h1
  unfold entS xod kOb
  simp only
  rw [g1]
  simp only [Option.map_some, g2, g3, g4]
theorem esI (kv : κ → Value) {m m' : MapK κ} {n x : Int} (h : mstoK m n x = some m') : ∀ l : Nat, entS l n (int x) (some (kOb kv m)) = some [(l, some (kOb kv m'))] := fun l => esO kv h l
def BornK (m : MapK κ) : Prop := (∀ p ∈ m.1, p.2.2 < m.2) ∧ (m.1.map fun p => p.2.2).Nodup
end
theorem xdbb (P : Program) (a b : Operand) (T T' : TypeId) (V : Nat → Option AO) (new : Nat) (ρ : Operand → AV) : evalOp P (.call (Call.mk (.builtin .delete) #[a, b] #[T, T'])) V new ρ = xwf P T V (ρ a) (ρ b) := _root_.id rfl
theorem xe4 (P : Program) (a b : Operand) (T : TypeId) (V : Nat → Option AO) (new : Nat) (ρ : Operand → AV) : evalOp P (.mapEntry T a b) V new ρ = xcd P T V (ρ a) (ρ b) := _root_.id rfl
theorem xk1 (P : Program) (a b c : Operand) (T : TypeId) (V : Nat → Option AO) (new : Nat) (ρ : Operand → AV) : evalOp P (.entryStore T a b c) V new ρ = (xod V (ρ a) (ρ b) (ρ c)).map fun us => (.val undef, us) := _root_.id rfl
def mhas (m : List (Int × Int)) (k : Int) : Bool := m.any fun p => k == p.1
theorem xx7 (k : IntKind) (m : List (Int × Int)) (n : Int) : lookK true (.int k) (some (.val (.int k 0))) (.int k n) (some (.map (m.map (kI k)) (m.map fun p => .val (.int k p.2)))) = some (.tup [.val (.int k (mget m n)), .val (.bool (mhas m n))]) := by
  unfold mhas
  have h2 : isKeyB (.int k) (.int k n) = true := by simp [isKeyB]
  have h3 := mkeys k m
  simp only [lookK]
  rw [if_pos ⟨h2, h3⟩]
  have key : ∀ m : List (Int × Int), (match (m.map (kI k)).findIdx? (keyEq (.int k n)) with
      | some j => (m.map fun p => (AV.val (.int k p.2)))[j]? = some (.val (.int k (mget m n))) ∧ (m.any fun p => n == p.1) = true
      | none => mget m n = 0 ∧ (m.any fun p => n == p.1) = false) := by
    intro m
    induction m with
    | nil => simp [mget]
    | cons p m ih =>
      have hk : keyEq (.int k n) (kI k p) = (n == p.1) := rfl
      simp only [List.map_cons, List.findIdx?_cons, hk]
      by_cases h : n = p.1
      · simp [h, mget]
      · have hb : (n == p.1) = false := by simpa using h
        have hm : mget (p :: m) n = mget m n := by simp [mget, List.find?_cons, hb]
        simp only [hb, Bool.false_eq_true, if_false, hm, List.any_cons, Bool.false_or]
        cases hf : (m.map (kI k)).findIdx? (keyEq (.int k n)) with
        | none => rw [hf] at ih; simpa using ih
        | some j => rw [hf] at ih; simpa using ih
  have g := key m
  cases hf : (m.map (kI k)).findIdx? (keyEq (.int k n)) with
  | none =>
    rw [hf] at g
    simp only [Option.map_some, xwd, if_true, g.1, g.2]
  | some j =>
    rw [hf] at g
    simp only [g.1, Option.map_some, xwd, if_true, g.2]
end Go.Proofs.YtmacnoajlofdbaaDoor.AL

