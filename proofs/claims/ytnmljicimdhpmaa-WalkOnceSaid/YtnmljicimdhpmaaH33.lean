/- A law of the given program is proved: part 33 of 49. -/
import Derived.Test.YtnmljicimdhpmaaH32
set_option linter.all false
/- Generic functions of slices, by their models: IndexFunc, ContainsFunc, Clone, for all types. -/
set_option linter.all false
namespace Go.Proofs.Ytnmljicimdhpmaa.AL
open Go.RowKit
theorem indexM_cw {α : Type} {P : Program} {S E n : Nat} {b : Bool} (hS : elemOfT P S = some E) (hE : aggN P E = some (b, n)) {f : FuncId} {fi ca : List AV} (enc : α → AV) (l : List α) (p : α → Option Bool) (r : Int) (hr : indexM p l = some r)
    (hp : ∀ x b, p x = some b → Ok P f (fi ++ ([enc x] ++ ca)) (bool b)) (hcl : ∀ x, closeds (fi ++ ([enc x] ++ ca)) = true) (hld : ∀ x, evalLd P E (enc x) 0 = some (enc x)) (H : Nat → Option AO) (nx : Nat) :
    cw P 19 (idxAC S E) (finQ P [.tmp 4] (frzR (int r))) ⟨argT [.sl n (l.map enc), .fn (.func f) fi ca], H, nx⟩ := by
  have h1 := len_sl P hS
  have h2 := indexAddr_sl P hS hE
  unfold indexM at hr
  rcases h : ck (l.length < 9223372036854775807) with _ | u
  · rw [h] at hr; cases hr
  rw [h] at hr
  simp only [Option.bind_some] at hr
  have hlen := ck_some h
  unfold idxAC
  simp (config := { contextual := true }) only [h1, z_len_map, EV, ↓EVd, isCall, Nat.reduceAdd, Nat.reduceSub, Nat.reduceMul, Nat.reduceEqDiff, Nat.reduceBEq, Nat.reduceLT, Nat.reduceLeDiff, ↓reduceIte, reduceCtorEq, Nat.reduceShiftRight, Nat.reduceAnd, Nat.reduceBneDiff]
  obtain ⟨I, hI⟩ : ∃ I : Nat → AS → Prop, I = fun k s => s.T 0 = .sl n (l.map enc) ∧ s.T 1 = .fn (.func f) fi ca ∧ s.T 7 = int l.length ∧ ∃ i : Nat, s.T 8 = int i ∧ i ≤ l.length ∧ k = l.length - i + 1 ∧ idxM p (l.drop i) i = some r := ⟨_, rfl⟩
  refine cwp_iter I (l.length + 1) ?_ ?_ ?_
  · rw [hI]
    refine TI.here ⟨?_, ?_, ?_, 0, ?_, Nat.zero_le _, rfl, by simpa using hr⟩
    all_goals simp only [EV, ↓EVd, isCall, Nat.reduceAdd, Nat.reduceSub, Nat.reduceMul, Nat.reduceEqDiff, Nat.reduceBEq, Nat.reduceLT, Nat.reduceLeDiff, ↓reduceIte, reduceCtorEq, Nat.reduceShiftRight, Nat.reduceAnd, Nat.reduceBneDiff]
    simp
  · rintro s hs
    rw [hI] at hs
    obtain ⟨_, _, _, i, _, _, hk, _⟩ := hs
    omega
  · rintro k ⟨T, H, nx⟩ hs
    rw [hI] at hs
    obtain ⟨k0, k1, k2, i, k3, k4, hk, k5⟩ := hs
    simp only at k0 k1 k2 k3
    apply cw_cwp
    have i0 : (0 : Int) ≤ (i : Int) := by omega
    have i1 : ((i : Int)).toNat = i := by omega
    by_cases hi : i < l.length
    · have i2 : (i : Int) < (l.length : Int) := by omega
      have i3 : (l.map enc)[i]? = some (enc l[i]) := by simp [hi]
      have i4 := hld l[i]
      have i5 := Go.IntWalk.i64_in ((i : Int) + 1) (by omega)
      rw [List.drop_eq_getElem_cons hi] at k5
      unfold idxM at k5
      rcases h : p l[i] with _ | v
      · rw [h] at k5; cases k5
      rw [h] at k5
      simp only [Option.bind_some] at k5
      simp only [h2, k0, k1, k2, k3, i0, i1, i2, i3, i4, EV, ↓EVd, isCall, Nat.reduceAdd, Nat.reduceSub, Nat.reduceMul, Nat.reduceEqDiff, Nat.reduceBEq, Nat.reduceLT, Nat.reduceLeDiff, ↓reduceIte, reduceCtorEq, Nat.reduceShiftRight, Nat.reduceAnd, Nat.reduceBneDiff]
      refine S1_ok (hp _ _ h) rfl (hcl _) ?_
      cases v
      · simp only [Bool.false_eq_true, if_false] at k5
        simp (config := { contextual := true }) only [k0, k1, k2, k3, i5, EV, ↓EVd, isCall, Nat.reduceAdd, Nat.reduceSub, Nat.reduceMul, Nat.reduceEqDiff, Nat.reduceBEq, Nat.reduceLT, Nat.reduceLeDiff, ↓reduceIte, reduceCtorEq, Nat.reduceShiftRight, Nat.reduceAnd, Nat.reduceBneDiff]
        rw [hI]
        refine TI.here ⟨?_, ?_, ?_, i + 1, ?_, by omega, by omega, k5⟩
        all_goals simp only [k0, k1, k2, k3, i5, EV, ↓EVd, isCall, Nat.reduceAdd, Nat.reduceSub, Nat.reduceMul, Nat.reduceEqDiff, Nat.reduceBEq, Nat.reduceLT, Nat.reduceLeDiff, ↓reduceIte, reduceCtorEq, Nat.reduceShiftRight, Nat.reduceAnd, Nat.reduceBneDiff]
        simp
      · simp only [if_true, Option.some.injEq] at k5
        subst k5
        simp (config := { contextual := true }) only [k0, k1, k2, k3, i5, EV, ↓EVd, isCall, Nat.reduceAdd, Nat.reduceSub, Nat.reduceMul, Nat.reduceEqDiff, Nat.reduceBEq, Nat.reduceLT, Nat.reduceLeDiff, ↓reduceIte, reduceCtorEq, Nat.reduceShiftRight, Nat.reduceAnd, Nat.reduceBneDiff]
    · have i2 : ¬ (i : Int) < (l.length : Int) := by omega
      rw [List.drop_of_length_le (by omega)] at k5
      simp only [idxM, Option.some.injEq] at k5
      subst k5
      simp only [h2, k0, k1, k2, k3, i0, i1, i2, EV, ↓EVd, isCall, Nat.reduceAdd, Nat.reduceSub, Nat.reduceMul, Nat.reduceEqDiff, Nat.reduceBEq, Nat.reduceLT, Nat.reduceLeDiff, ↓reduceIte, reduceCtorEq, Nat.reduceShiftRight, Nat.reduceAnd, Nat.reduceBneDiff]
theorem indexM_ok {α : Type} {P : Program} {g : FuncId} {S E n : Nat} {b : Bool} (hf : FnC P g 19 [.tmp 4] (idxAC S E)) (hS : elemOfT P S = some E) (hE : aggN P E = some (b, n)) {f : FuncId} {fi ca : List AV} (enc : α → AV) (l : List α) (p : α → Option Bool) (r : Int) (hr : indexM p l = some r)
    (hp : ∀ x b, p x = some b → Ok P f (fi ++ ([enc x] ++ ca)) (bool b)) (hcl : ∀ x, closeds (fi ++ ([enc x] ++ ca)) = true) (hld : ∀ x, evalLd P E (enc x) 0 = some (enc x)) :
    Ok P g [.sl n (l.map enc), .fn (.func f) fi ca] (int r) := okF hf (by simp) (indexM_cw hS hE enc l p r hr hp hcl hld _ _)
theorem containsM_ok {α : Type} {P : Program} {g c : FuncId} {S E F n : Nat} {b : Bool} (hc : FnC P c 9 [.tmp 4] (conAC g S F)) (hf : FnC P g 19 [.tmp 4] (idxAC S E)) (hS : elemOfT P S = some E) (hE : aggN P E = some (b, n)) {f : FuncId} {fi ca : List AV} (enc : α → AV) (l : List α) (p : α → Option Bool) (r : Bool) (hr : containsM p l = some r)
    (hp : ∀ x b, p x = some b → Ok P f (fi ++ ([enc x] ++ ca)) (bool b)) (hx : ∀ x, closed (enc x) = true) (hcf : closeds fi = true) (hcc : closeds ca = true) (hld : ∀ x, evalLd P E (enc x) 0 = some (enc x)) :
    Ok P c [.sl n (l.map enc), .fn (.func f) fi ca] (bool r) := by
  have hxs : closeds (l.map enc) = true := closeds_map enc hx l
  unfold containsM at hr
  rcases h : indexM p l with _ | i
  · rw [h] at hr; cases hr
  rw [h] at hr
  simp only [Option.bind_some, Option.some.injEq] at hr
  refine okF hc (by simp) ?_
  unfold conAC
  simp only [EV, ↓EVd, isCall, Nat.reduceAdd, Nat.reduceSub, Nat.reduceMul, Nat.reduceEqDiff, Nat.reduceBEq, Nat.reduceLT, Nat.reduceLeDiff, ↓reduceIte, reduceCtorEq, Nat.reduceShiftRight, Nat.reduceAnd, Nat.reduceBneDiff]
  refine S1_ok (indexM_ok hf hS hE enc l p i h hp (fun x => closeds_append hcf (closeds_append (by simp [closeds, hx]) hcc)) hld) rfl (by simp [closeds, closed, hxs, hcf, hcc]) ?_
  subst hr
  by_cases hi : 0 ≤ i
  · simp only [hi, EV, ↓EVd, isCall, Nat.reduceAdd, Nat.reduceSub, Nat.reduceMul, Nat.reduceEqDiff, Nat.reduceBEq, Nat.reduceLT, Nat.reduceLeDiff, ↓reduceIte, reduceCtorEq, Nat.reduceShiftRight, Nat.reduceAnd, Nat.reduceBneDiff]
  · simp only [hi, EV, ↓EVd, isCall, Nat.reduceAdd, Nat.reduceSub, Nat.reduceMul, Nat.reduceEqDiff, Nat.reduceBEq, Nat.reduceLT, Nat.reduceLeDiff, ↓reduceIte, reduceCtorEq, Nat.reduceShiftRight, Nat.reduceAnd, Nat.reduceBneDiff]
def cloneAC (S : TypeId) : AC := (.seq (.region [⟨.assign (.const (Value.slice none 0 0)), some 2, none⟩])
 (.seq (.seq (.region [⟨.move (.tmp 0), some 3, none⟩,
  ⟨.binOp .eql S (.tmp 3) (.const (Value.slice none 0 0)) S, some 4, none⟩])
 (.cond (.tmp 4) (.seq (.region [⟨.assign (.const (Value.slice none 0 0)), some 2, none⟩])
 .ret)
 .skip))
 (.seq (.region [⟨.buildSlice S 0 #[], some 5, none⟩,
  ⟨.move (.tmp 0), some 6, none⟩,
  ⟨.call (Go.Call.mk (.builtin .append) #[.tmp 5, .tmp 6] #[S, S]), some 7, none⟩,
  ⟨.assign (.tmp 7), some 2, none⟩])
 .ret)))
end Go.Proofs.Ytnmljicimdhpmaa.AL

