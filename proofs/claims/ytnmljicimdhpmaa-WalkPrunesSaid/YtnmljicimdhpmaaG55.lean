/- A law of the given program is proved: part 55 of 55. -/
import Derived.Test.YtnmljicimdhpmaaG54
set_option linter.all false
/- The table of functions for closed runs; written by tabgen.py. -/
set_option linter.all false
namespace Go.Proofs.Ytnmljicimdhpmaa.AL
open Go Go.Proofs
end Go.Proofs.Ytnmljicimdhpmaa.AL

/- Models of functions, and that the functions are as their models: written by gen.py. -/
set_option linter.all false
set_option maxRecDepth 100000
namespace Go.Proofs.Ytnmljicimdhpmaa.AL
open Go Go.Proofs
end Go.Proofs.Ytnmljicimdhpmaa.AL

/- Plain laws, part 7: chapter 22. -/
set_option linter.all false
namespace Go.Proofs.Ytnmljicimdhpmaa.AL
open Go Go.Proofs

end Go.Proofs.Ytnmljicimdhpmaa.AL

/- Plain laws, part 8: OriginTells. -/
set_option linter.all false
namespace Go.Proofs.Ytnmljicimdhpmaa.AL
open Go Go.Proofs

end Go.Proofs.Ytnmljicimdhpmaa.AL

/- Plain laws, part 9: ImpureSet, OriginNone. -/
set_option linter.all false
namespace Go.Proofs.Ytnmljicimdhpmaa.AL
open Go Go.Proofs

/-- Layers that have the same tree. -/
structure Sm (b c : Branch) : Prop where
  len : c.nodes.length = b.nodes.length
  k : ∀ i, (nodeP c i).kind = (nodeP b i).kind
  e : ∀ i, (nodeP c i).entries = (nodeP b i).entries
theorem Sm.walk {b c : Branch} (h : Sm b c) (fr : List Int) : walkP c fr = walkP b fr := by
  have h1 : eStep c = eStep b := by
    funext k ino s e
    unfold eStep
    rw [h.k]
  have h2 : wStep c = wStep b := by
    funext k s
    unfold wStep
    rw [h.e, h1]
  have h3 : fStep c = fStep b := by
    funext t r
    unfold fStep wLoop
    rw [h.k, h2]
  unfold walkP
  rw [h3]
theorem Sm.reach {b c : Branch} (h : Sm b c) (fr : List Int) : reachP c fr = reachP b fr := by
  unfold reachP reachW reachL
  rw [h.walk, h.len]
  simp only [h.e]
/-- What stands at each place of a row of nodes, told by its places. -/
theorem nodeP_of {b c : Branch} (hl : c.nodes.length = b.nodes.length) {f : Nat → Node → Node} (h : ∀ j x, b.nodes[j]? = some x → c.nodes[j]? = some (f j x)) (ino : Int) : (∃ j : Nat, ino = (j : Int) + 1 ∧ j < b.nodes.length ∧ nodeP c ino = f j (nodeP b ino)) ∨ ((ino < 1 ∨ (b.nodes.length : Int) < ino) ∧ nodeP c ino = zeroNode ∧ nodeP b ino = zeroNode) := by
  by_cases h1 : ino < 1
  · exact .inr ⟨.inl h1, nodeP_out (.inl h1), nodeP_out (.inl h1)⟩
  by_cases h2 : (b.nodes.length : Int) < ino
  · exact .inr ⟨.inr h2, nodeP_out (.inr (by omega)), nodeP_out (.inr h2)⟩
  refine .inl ⟨(ino - 1).toNat, by omega, by omega, ?_⟩
  have hlt : (ino - 1).toNat < b.nodes.length := by omega
  have e1 : nodeP b ino = b.nodes[(ino - 1).toNat] := by
    unfold nodeP
    rw [if_neg h1, if_neg h2, List.getElem?_eq_getElem hlt]; rfl
  have e2 := h _ _ (List.getElem?_eq_getElem hlt)
  rw [e1]
  unfold nodeP
  rw [if_neg h1, if_neg (by omega), e2]; rfl
/-! ### ImpureSet -/
/-! ### OriginNone -/
end Go.Proofs.Ytnmljicimdhpmaa.AL

/- slices.DeleteFunc, in place; what is left is handed back as plain data. -/
set_option linter.all false
namespace Go.Proofs.Ytnmljicimdhpmaa.AL
open Go Go.Proofs Go.RowKit
def delAC (g : FuncId) (S F E : TypeId) : AC := (.seq (.region [⟨.assign (.const (Value.slice none 0 0)), some 4, none⟩])
 (.seq (.region [⟨.move (.tmp 0), some 8, none⟩,
  ⟨.move (.tmp 1), some 9, none⟩,
  ⟨.call (Go.Call.mk (.value (.func g)) #[.tmp 8, .tmp 9] #[S, F]), some 10, none⟩,
  ⟨.assign (.tmp 10), some 5, none⟩])
 (.seq (.seq (.region [⟨.move (.tmp 5), some 11, none⟩,
  ⟨.binOp .eql 3 (.tmp 11) (.const (Value.int .i64 (-1))) 3, some 12, none⟩])
 (.cond (.tmp 12) (.seq (.region [⟨.move (.tmp 0), some 13, none⟩,
  ⟨.assign (.tmp 13), some 4, none⟩])
 .ret)
 .skip))
 (.seq (.seq (.region [⟨.move (.tmp 5), some 14, none⟩,
  ⟨.binOp .add 3 (.tmp 14) (.const (Value.int .i64 1)) 3, some 15, none⟩,
  ⟨.assign (.tmp 15), some 6, none⟩])
 (.block 0 (.loop (.seq (.seq (.region [⟨.move (.tmp 6), some 16, none⟩,
  ⟨.move (.tmp 0), some 17, none⟩,
  ⟨.call (Go.Call.mk (.builtin .len) #[.tmp 17] #[S]), some 18, none⟩,
  ⟨.binOp .lss 3 (.tmp 16) (.tmp 18) 3, some 19, none⟩])
 (.cond (.tmp 19) .skip
 (.exit 0)))
 (.seq (.block 1 (.seq (.region [⟨.move (.tmp 0), some 22, none⟩,
  ⟨.move (.tmp 6), some 23, none⟩,
  ⟨.indexAddr S (.tmp 22) (.tmp 23), some 24, none⟩,
  ⟨.load E (.tmp 24), some 25, none⟩,
  ⟨.alloc E, some 7, none⟩,
  ⟨.store E (.tmp 7) (.tmp 25), none, none⟩])
 (.seq (.region [⟨.move (.tmp 1), some 26, none⟩,
  ⟨.load E (.tmp 7), some 27, none⟩,
  ⟨.call (Go.Call.mk (.value (.tmp 26)) #[.tmp 27] #[E]), some 28, none⟩,
  ⟨.unOp .not 4 (.tmp 28), some 29, none⟩])
 (.cond (.tmp 29) (.seq (.region [⟨.move (.tmp 0), some 30, none⟩,
  ⟨.move (.tmp 5), some 31, none⟩,
  ⟨.load E (.tmp 7), some 32, none⟩,
  ⟨.indexAddr S (.tmp 30) (.tmp 31), some 33, none⟩,
  ⟨.store E (.tmp 33) (.tmp 32), none, none⟩])
 (.region [⟨.move (.tmp 5), some 34, none⟩,
  ⟨.binOp .add 3 (.tmp 34) (.const (Value.int .i64 1)) 3, some 35, none⟩,
  ⟨.assign (.tmp 35), some 5, none⟩]))
 .skip))))
 (.region [⟨.move (.tmp 6), some 20, none⟩,
  ⟨.binOp .add 3 (.tmp 20) (.const (Value.int .i64 1)) 3, some 21, none⟩,
  ⟨.assign (.tmp 21), some 6, none⟩]))))))
 (.seq (.region [⟨.move (.tmp 0), some 36, none⟩,
  ⟨.move (.tmp 5), some 37, none⟩,
  ⟨.slice S (.tmp 36) (some (.tmp 37)) none none, some 38, none⟩,
  ⟨.call (Go.Call.mk (.builtin .clear) #[.tmp 38] #[S]), none, none⟩])
 (.seq (.region [⟨.move (.tmp 0), some 39, none⟩,
  ⟨.move (.tmp 5), some 40, none⟩,
  ⟨.slice S (.tmp 39) none (some (.tmp 40)) none, some 41, none⟩,
  ⟨.assign (.tmp 41), some 4, none⟩])
 .ret))))))
def delM {α : Type} (p : α → Option Bool) : List α → Option (List α)
  | [] => some []
  | x :: xs => (p x).bind fun b => (delM p xs).bind fun r => some (if b = true then r else x :: r)
def deleteM {α : Type} (p : α → Option Bool) (l : List α) : Option (List α) := (ck (l.length < 4611686018427387904)).bind fun _ => delM p l
theorem delM_fun {α : Type} {p : α → Option Bool} : ∀ {l r : List α}, delM p l = some r → (∀ x ∈ l, p x = some ((p x).getD false)) ∧ r = l.filter fun x => !((p x).getD false)
  | [], r, h => by
    simp only [delM, Option.some.injEq] at h
    subst h
    simp
  | x :: xs, r, h => by
    unfold delM at h
    obtain ⟨b, h1, h⟩ := bsE h
    obtain ⟨r', h2, h⟩ := bsE h
    obtain rfl := Option.some.inj h
    obtain ⟨g1, g2⟩ := delM_fun h2
    refine ⟨fun y hy => ?_, ?_⟩
    · rcases List.mem_cons.1 hy with rfl | hy
      · rw [h1]; rfl
      · exact g1 y hy
    · rw [List.filter_cons, h1, g2]
      cases b <;> simp
theorem E_clear {P : Program} (x : Operand) (T : TypeId) (V : Nat → Option AO) (new : Nat) (ρ : Operand → AV) : evalOp P (.call (Call.mk (.builtin .clear) #[x] #[T])) V new ρ = evalClear P T V (ρ x) := by
  simp [evalOp]
theorem E_slice1 {P : Program} (T : TypeId) (x a : Operand) (V : Nat → Option AO) (new : Nat) (ρ : Operand → AV) : evalOp P (.slice T x (some a) none none) V new ρ = (evalSlice P T (ρ x) (some (ρ a)) none none).map fun v => (v, []) := _root_.id rfl
theorem E_slice2 {P : Program} (T : TypeId) (x a : Operand) (V : Nat → Option AO) (new : Nat) (ρ : Operand → AV) : evalOp P (.slice T x none (some a) none) V new ρ = (evalSlice P T (ρ x) none (some (ρ a)) none).map fun v => (v, []) := _root_.id rfl
set_option maxHeartbeats 1000000 in
theorem del_cw {α : Type} {P : Program} {g f : FuncId} {S F E n : Nat} {b : Bool} {z0 : AV} (hi : FnC P g 19 [.tmp 4] (idxAC S E)) (hS : elemOfT P S = some E) (hE : aggN P E = some (b, n)) (hz : zeroOf P E = some z0) (hzs : hasSize z0 n = true)
    (enc : α → AV) (l : List α) (p : α → Bool) (hlen : l.length < 4611686018427387904) {ca ca' : List AV} (hp : ∀ x ∈ l, Ok P f (enc x :: ca') (bool (p x))) (hx : ∀ x, closed (enc x) = true) (hcc : closeds ca' = true)
    (hld : ∀ x, evalLd P E (enc x) 0 = some (enc x)) (hst : ∀ x y, stAV (enc x) 0 (enc y) = some (enc y)) (hst0 : ∀ y, stAV z0 0 (enc y) = some (enc y)) (hsz : ∀ x, hasSize (enc x) n = true)
    (H : Nat → Option AO) (nx q : Nat) (hq : q < nx) (hH : H q = some (.row E n (l.map enc))) (hcap : ∀ H' : Nat → Option AO, (∀ j, j < nx → j ≠ q → H' j = H j) → frzs H' 9 ca = some ca') :
    cw P 42 (delAC g S F E) (finQ P [.tmp 4] fun r H' nx' => (∃ m, (r = .msl q m ∨ r = .mtl q n 0 m) ∧ m = (l.filter fun x => !p x).length ∧ H' q = some (.row E n ((l.filter fun x => !p x).map enc))) ∧ ∀ j, j < nx → j ≠ q → H' j = H j) ⟨argT [.msl q l.length, .fn (.func f) [] ca], H, nx⟩ := by
  have i1 : ∀ (l len : Nat) (k : IntKind) (n' : Int), evalIndexAddr P S (.msl l len) (.val (.int k n')) = if 0 ≤ n' ∧ n' < len then some (.loc l n n'.toNat 0) else none := fun l len k n' => indexAddr_msl _ hS hE l len k n'
  have s1 : ∀ (V : Nat → Option AO) (l sz i off : Nat) (v : AV), evalStore P E V (.loc l sz i off) v = if hasSize v n = true then (rowT (V l) sz i).bind fun p => (stAV p.2.2 off v).map fun x' => [(l, some (.row p.1 sz (p.2.1.set i x')))] else none := fun V l sz i off v => store_loc _ hE V l sz i off v
  have l1 : ∀ (l m : Nat), evalLen P S (.msl l m) = some (int m) := fun l m => len_msl _ hS l m
  have a1 : ∀ (V : Nat → Option AO) (new : Nat) (ρ : Operand → AV), evalOp P (.alloc E) V new ρ = some (.loc new n 0 0, [(new, some (.row E n [z0]))]) := fun V new ρ => by
    rw [E_alloc, hE, hz]
    simp [allocK, hzs]
  have hxl := closeds_map enc hx l
  have hfz : ∀ (H' : Nat → Option AO) (x : α), (∀ j, j < nx → j ≠ q → H' j = H j) → frzs H' 10 (enc x :: ca) = some (enc x :: ca') := fun H' x h => by
    rw [fz_cons, fz_clo H' 9 _ (hx x), hcap H' h]; rfl
  have hany : l.any p = false → (l.filter fun x => !p x) = l := fun h => by
    rw [List.filter_eq_self]
    intro x hx'
    have := List.any_eq_false.1 h x hx'
    simpa using this
  unfold delAC
  simp only [EV, ↓EVd, isCall, sevalprocAttr]
  refine S1_okb 12 (indexFunc_ok hi hS hE (fi := []) (ca := ca') enc l p (by omega) (fun x hx' => hp x hx') (fun x hx' => by simp [closeds, hx x, hcc]) (fun x _ => hld x)) rfl ?_ rfl ?_
  · show frzs H 12 [.msl q l.length, .fn (.func f) [] ca] = some [.sl n (l.map enc), .fn (.func f) [] ca']
    rw [fz_cons, fz_cons, fz_msl, hH, fzM_row, if_pos (by simp), fz_clos _ _ _ hxl, fz_fn, hcap H (fun _ _ _ => rfl), fz_clos _ _ [] rfl]
    rfl
  cases ha : l.any p with
  | false =>
    have e1 : idxF p l = -1 := by unfold idxF; rw [ha]; rfl
    rw [e1]
    simp only [EV, ↓EVd, isCall, sevalprocAttr]
    refine ⟨⟨l.length, rfl, by rw [hany ha], by rw [hany ha]; exact hH⟩, fun _ _ _ => trivial⟩
  | true =>
    obtain ⟨a, hal, ha1, ha2⟩ : ∃ a, a < l.length ∧ idxF p l = (a : Int) ∧ (l.take (a + 1)).filter (fun x => !p x) = l.take a := by
      have hlt : l.findIdx p < l.length := List.findIdx_lt_length.2 (List.any_eq_true.1 ha)
      refine ⟨l.findIdx p, hlt, by unfold idxF; rw [ha]; rfl, ?_⟩
      rw [List.take_succ_eq_append_getElem hlt, List.filter_append]
      have h1 : p l[l.findIdx p] = true := List.findIdx_getElem
      rw [List.filter_cons, h1]
      simp only [Bool.not_true, Bool.false_eq_true, if_false, List.filter_nil, List.append_nil]
      rw [List.filter_eq_self]
      intro x hx'
      obtain ⟨k, hk, rfl⟩ := List.getElem_of_mem hx'
      have hk' : k < l.findIdx p := by simp at hk; omega
      have := List.not_of_lt_findIdx hk'
      simpa using this
    rw [ha1]
    have w0 : IntKind.i64.wrap ((a : Int) + 1) = ((a + 1 : Nat) : Int) := Go.IntWalk.i64_in _ (by omega)
    have e0 : ((a : Int) = -1) = False := eq_false (by omega)
    simp only [e0, w0, EV, ↓EVd, isCall, sevalprocAttr]
    obtain ⟨J, hJ⟩ : ∃ J : AS → Prop, J = fun s => s.T 0 = .msl q l.length ∧ (∃ (i : Nat) (z : List α), s.T 5 = int i ∧ i ≤ l.length ∧ z.length = l.length ∧ s.H q = some (.row E n (z.map enc)) ∧ z.take i = l.filter fun x => !p x) ∧ nx ≤ s.nx ∧ ∀ j, j < nx → j ≠ q → s.H j = H j := ⟨_, rfl⟩
    refine cwp_cut 0 J ?_ ?_
    rotate_left
    · rintro ⟨T, H', nx'⟩ hs
      rw [hJ] at hs
      obtain ⟨k0, ⟨i, z, k5, k6, k7, k8, k9⟩, k10, k11⟩ := hs
      simp only at k0 k5 k8 k10 k11
      have hzt : (z.take i).length = i := by simp; omega
      have b1 : evalSlice P S (.msl q l.length) (some (int i)) none none = some (.mtl q n i (l.length - i)) := by
        have : (i : Int) ≤ (l.length : Int) := by omega
        simp [evalSlice, hS, hE, bounds, boundOf, this]
      have b2 : evalSlice P S (.msl q l.length) none (some (int i)) none = some (.mtl q n 0 i) := by
        have : (i : Int) ≤ (l.length : Int) := by omega
        simp [evalSlice, hS, hE, bounds, boundOf, this]
      have b3 : ∃ us, evalClear P S H' (.mtl q n i (l.length - i)) = some (.tup [], us) ∧ applyU H' us q = some (.row E n ((z.take i).map enc)) ∧ ∀ j, j ≠ q → applyU H' us j = H' j := by
        by_cases hn0 : l.length - i = 0
        · refine ⟨[], by simp [evalClear, hS, hE, hz, hzs, hn0], ?_, fun _ _ => rfl⟩
          rw [show z.take i = z by rw [List.take_of_length_le (by omega)]]
          exact k8
        · refine ⟨[(q, some (.row E n ((z.map enc).take i)))], by simp [evalClear, hS, hE, hz, hzs, hn0, k8]; omega, ?_, fun j hj => by simp [applyU, upd_at, hj]⟩
          simp [applyU, List.map_take]
      obtain ⟨us, c1, c2, c3⟩ := b3
      simp only [k0, k5, b1, b2, c1, E_clear, ↓E_slice1, ↓E_slice2, opt, EV, ↓EVd, isCall, sevalprocAttr]
      refine ⟨⟨i, rfl, by rw [← k9, hzt], by rw [← k9]; exact c2⟩, fun j h1 h2 => by rw [c3 j h2]; exact k11 j h1 h2⟩
    refine cwp_loop (fun s => s.T 0 = .msl q l.length ∧ s.T 1 = .fn (.func f) [] ca ∧ (∃ (i j : Nat) (z : List α), s.T 5 = int i ∧ s.T 6 = int j ∧ i < j ∧ j ≤ l.length ∧ z.length = l.length ∧ s.H q = some (.row E n (z.map enc)) ∧ z.take i = (l.take j).filter (fun x => !p x) ∧ ∀ k, j ≤ k → z[k]? = l[k]?) ∧ nx ≤ s.nx ∧ ∀ j, j < nx → j ≠ q → s.H j = H j) (fun s => ((l.length : Int) - iv (s.T 6)).toNat) ?_ ?_
    · simp only [EV, ↓EVd, isCall, sevalprocAttr]
      exact ⟨⟨a, a + 1, l, by simp, by simp, by omega, by omega, rfl, hH, ha2.symm, fun _ _ => rfl⟩, by omega, fun _ _ _ => trivial⟩
    · rintro ⟨T, H', nx'⟩ ⟨k0, k1, ⟨i, j, z, k2, k3, k4, k5, k6, k7, k8, k9⟩, k10, k11⟩
      simp only at k0 k1 k2 k3 k7 k10 k11
      apply cw_cwp
      have kq := lq (show q < nx' by omega)
      dsimp only [Lq] at kq
      by_cases hc : (j : Int) < (l.length : Int)
      · have e1 : ((j : Int) < (l.length : Int)) = True := eq_true hc
        have e2 : ((0 : Int) ≤ (j : Int)) = True := eq_true (by omega)
        have e3 : ((0 : Int) ≤ (i : Int)) = True := eq_true (by omega)
        have e4 : ((i : Int) < (l.length : Int)) = True := eq_true (by omega)
        have hj0 : ((j : Int)).toNat = j := by omega
        have hi0 : ((i : Int)).toNat = i := by omega
        have hjl : j < l.length := by omega
        have hil : i < z.length := by omega
        have z1 : (z.map enc)[j]? = some (enc l[j]) := by rw [List.getElem?_map, k9 j (Nat.le_refl _), List.getElem?_eq_getElem hjl]; rfl
        have z2 : (z.map enc)[i]? = some (enc z[i]) := by simp [hil]
        have d1 := hld l[j]
        have d2 := hst0 l[j]
        have d3 := hst z[i] l[j]
        have d5 := hsz l[j]
        have w1 : IntKind.i64.wrap ((i : Int) + 1) = ((i + 1 : Nat) : Int) := Go.IntWalk.i64_in _ (by omega)
        have w2 : IntKind.i64.wrap ((j : Int) + 1) = ((j + 1 : Nat) : Int) := Go.IntWalk.i64_in _ (by omega)
        have hm : l[j] ∈ l := List.getElem_mem hjl
        have htk : l.take (j + 1) = l.take j ++ [l[j]] := List.take_succ_eq_append_getElem hjl
        have hone : n = 0 ∨ 0 < n := Nat.eq_zero_or_pos n
        simp only [i1, s1, l1, a1, kq, k0, k1, k2, k3, k7, e1, e2, hj0, z1, d1, d2, d5, EV, ↓EVd, isCall, sevalprocAttr]
        refine S1_okb 10 (hp _ hm) rfl (hfz _ _ ?_) rfl ?_
        · intro j' h1 h2
          have : ¬ j' = nx' + 10 := by omega
          simp only [upd_at]
          repeat rw [if_neg (by omega)]
          exact k11 j' h1 h2
        cases hb : p l[j] with
        | true =>
          simp only [i1, s1, l1, a1, kq, k0, k1, k2, k3, k7, e1, e2, e3, e4, hj0, hi0, z1, z2, d1, d2, d3, d5, w1, w2, EV, ↓EVd, isCall, sevalprocAttr]
          refine ⟨⟨⟨i, j + 1, z, by simp, by simp, by omega, by omega, k6, ?_, ?_, fun k hk => k9 k (by omega)⟩, by omega, ?_⟩, by omega⟩
          · first | exact k7 | rfl | trivial
          · rw [k8, htk, List.filter_append, List.filter_cons, hb]; simp
          · intro j' h1 h2
            repeat rw [if_neg (by omega)]
            exact k11 j' h1 h2
        | false =>
          simp only [i1, s1, l1, a1, kq, k0, k1, k2, k3, k7, e1, e2, e3, e4, hj0, hi0, z1, z2, d1, d2, d3, d5, w1, w2, EV, ↓EVd, isCall, sevalprocAttr]
          refine ⟨⟨⟨i + 1, j + 1, z.set i l[j], by simp, by simp, by omega, by omega, by simpa using k6, ?_, ?_, ?_⟩, by omega, ?_⟩, by omega⟩
          · first | rfl | trivial
          · rw [htk, List.filter_append, List.filter_cons, hb, ← k8]
            simp only [Bool.not_false, if_true, List.filter_nil]
            rw [List.take_succ_eq_append_getElem (by simpa using hil)]
            simp [List.take_set_of_le]
          · intro k hk
            rw [List.getElem?_set_ne (by omega)]
            exact k9 k (by omega)
          · intro j' h1 h2
            repeat rw [if_neg (by omega)]
            exact k11 j' h1 h2
      · have e1 : ((j : Int) < (l.length : Int)) = False := eq_false hc
        obtain rfl : j = l.length := by omega
        rw [List.take_length] at k8
        simp only [l1, k0, k1, k2, k3, e1, EV, ↓EVd, isCall, sevalprocAttr]
        rw [hJ]
        exact TI.here ⟨by simp only [k0, EV, ↓EVd, sevalprocAttr], ⟨i, z, by simp only [k2, EV, ↓EVd, sevalprocAttr], by omega, k6, k7, k8⟩, by show nx ≤ nx' + 4; omega, k11⟩
/-- What is left of a row, as plain data. -/
theorem fk1t {C : Ctx} {E : Env} {H : Nat → Option AO} {l T sz : Nat} {ys : List AV} {u : Value} (hR : HR C E H) (hl : H l = some (.row T sz ys)) (hu : VRep E (.mtl l sz 0 ys.length) u) : VRep (E.kill l) (.sl sz ys) u := by
  have hs := Env.kill_stab E l
  simp only [VRep] at hu ⊢
  obtain ⟨A, c0, _, g0, q1, q2⟩ := hu
  obtain ⟨p, hp, ho'⟩ := hR.live hl
  by_cases hy : ys = []
  · subst hy
    exact ⟨[], A, c0, VReps.nil, g0, Nat.zero_le _, .inl rfl⟩
  have hyl : 0 < ys.length := List.length_pos_iff.2 hy
  obtain ⟨b0, rfl, hb⟩ := q2 hyl
  cases p with
  | none => simp only [ORep] at ho'; exact absurd ho' hy
  | some q =>
    obtain ⟨b, c⟩ := q
    obtain ⟨rfl, hc⟩ := hb b c hp
    simp only [ORep] at ho'
    obtain ⟨cur, vs, h1, h2, h3, h4, h5, h6, h7⟩ := ho'
    refine ⟨vs, _, c0, h2.stab hs, g0, q1, .inr ⟨b0, 0, by simp, .inr ⟨c, hp⟩, fun i u hu => ⟨(h3 u (List.mem_of_getElem? hu)).1, (h3 u (List.mem_of_getElem? hu)).2, fun j v hj => ?_⟩⟩⟩
    show E.w.cell? _ = _
    rw [cell_of_row E.w b0 _ cur T (0, 0) h1]
    have e := flatV_at (fun u hu => (h3 u hu).1) hu j v hj
    rw [← h7, List.getElem?_take] at e
    split at e
    · simpa using e
    · cases e
theorem ACall.left {P : Program} {f : FuncId} {args : List AV} {H : Nat → Option AO} {nx q T sz : Nat} {xs ys : List AV} (hc : closeds ys = true) (hq : q < nx) (hH : H q = some (.row T sz xs))
    (h : ACall P f args H nx fun r H' nx' => (∃ m, (r = .msl q m ∨ r = .mtl q sz 0 m) ∧ m = ys.length ∧ H' q = some (.row T sz ys)) ∧ ∀ j, j < nx → j ≠ q → H' j = H j) : ACall P f args H nx fun r H' nx' => r = .sl sz ys ∧ H' = upd H q none ∧ nx' = nx := by
  refine ⟨h.1, fun C E vals hR hb hv => (h.2 C E vals hR hb hv).mono ?_⟩
  rintro e w' ⟨v, r', H1, nx1, E1, rfl, ⟨⟨m, hr, rfl, hH1⟩, hH2⟩, hv1, hR1, hS, hn1, hn2, rfl⟩
  obtain ⟨q', hq', ho⟩ := hR1.live hH1
  obtain ⟨p, hp, _⟩ := hR.live hH
  have hk := hR.known q p hp
  obtain ⟨g1, g2, g3⟩ := low_one (l := q) (l0 := q) (T := T) (sz := sz) (xs := ys) (q := q') hR hb hR1 hS (.inl ⟨hq', hH1⟩) hc (.inr ⟨rfl, hk, hq'⟩) hH2
  have hrow : upd H q (some (AO.row T sz ys)) q = some (.row T sz ys) := upd_same _ _ _
  have e2 : upd (upd H q (some (AO.row T sz ys))) q none = upd H q none := by
    funext j; simp only [upd_at]; split <;> rfl
  have hk2 := g1.kill q
  rw [e2] at hk2
  refine ⟨v, .sl sz ys, upd H q none, nx, _, rfl, ⟨rfl, rfl, rfl⟩, ?_, hk2, g2.trans (Env.kill_stab _ _), Nat.le_refl _, ?_, rfl⟩
  · rcases hr with rfl | rfl
    · refine (fk1 g1 (VRep.lo g3 _ _ (by simpa only [inK] using hk) hv1) ?_).2.1
      rw [hrow]
      simp [fkK, hc]
    · exact fk1t g1 hrow (VRep.lo g3 _ _ (by simpa only [inK] using hk) hv1)
  · rintro j (hj | hj)
    · exact .inl hj
    · subst hj; exact .inl hk
theorem qdel {α : Type} {P : Program} {g g' f : FuncId} {S F E n : Nat} {b : Bool} {z0 : AV} (hf : FnC P g' 42 [.tmp 4] (delAC g S F E)) (hi : FnC P g 19 [.tmp 4] (idxAC S E)) (hS : elemOfT P S = some E) (hE : aggN P E = some (b, n)) (hz : zeroOf P E = some z0) (hzs : hasSize z0 n = true)
    (enc : α → AV) (l : List α) (p : α → Option Bool) (r : List α) (hr : deleteM p l = some r) {ca ca' : List AV} (hp : ∀ x b, p x = some b → Ok P f (enc x :: ca') (bool b)) (hx : ∀ x, closed (enc x) = true) (hcc : closeds ca' = true)
    (hld : ∀ x, evalLd P E (enc x) 0 = some (enc x)) (hst : ∀ x y, stAV (enc x) 0 (enc y) = some (enc y)) (hst0 : ∀ y, stAV z0 0 (enc y) = some (enc y)) (hsz : ∀ x, hasSize (enc x) n = true)
    {H : Nat → Option AO} {nx q new : Nat} {ρ : Operand → AV} {k : AV → (Nat → Option AO) → Nat → Prop} {c : Call} (hc : callArgs ρ c = some (g', [.msl q l.length, .fn (.func f) [] ca])) (hq : q < nx) (hH : H q = some (.row E n (l.map enc))) (hcap : ∀ H' : Nat → Option AO, (∀ j, j < nx → j ≠ q → H' j = H j) → frzs H' 9 ca = some ca')
    (hk : k (.sl n (r.map enc)) (upd H q none) nx) : Sem1 P (.call c) H nx new ρ k := by
  obtain ⟨hlen, hr⟩ := ckE hr
  obtain ⟨h1, rfl⟩ := delM_fun hr
  have hA : ACall P g' [.msl q l.length, .fn (.func f) [] ca] H nx fun r H' nx' => r = .sl n ((l.filter fun x => !((p x).getD false)).map enc) ∧ H' = upd H q none ∧ nx' = nx := by
    refine ACall.left (closeds_map enc hx _) hq hH ((acallF hf (by simp) (del_cw hi hS hE hz hzs enc l (fun x => (p x).getD false) hlen (fun x hx' => hp x _ (h1 x hx')) hx hcc hld hst hst0 hsz H nx q hq hH hcap)).mono ?_)
    rintro r H' nx' ⟨⟨m, g1, g2, g3⟩, g4⟩
    exact ⟨r, Sub.refl _, ⟨m, g1, by simpa using g2, g3⟩, g4⟩
  refine S1_call (hA.mono fun r H' nx' ⟨e1, e2, e3⟩ => ⟨r, Sub.refl _, ?_⟩) hc
  subst e1; subst e2; subst e3
  exact hk
end Go.Proofs.Ytnmljicimdhpmaa.AL

/- Models of functions, and that the functions are as their models: written by gen.py. -/
set_option linter.all false
set_option maxRecDepth 100000
namespace Go.Proofs.Ytnmljicimdhpmaa.AL
open Go Go.Proofs
def m_slices_Index_2_int_2_int_b0 (a0 : List Ar2_Int) (a1 : Ar2_Int) : Int → Option (St (Int) ((Unit) ⊕ (Int)))
 | v2 => if v2 < (a0.length : Int) then (ix a0 v2).bind fun v6 => if (decide (a1 = v6)) = true then some (.out (.inr v2))
 else some (.nx (wr (v2 + 1)))
 else some (.out (.inl ()))
def m_slices_Index_2_int_2_int (a0 : List Ar2_Int) (a1 : Ar2_Int) : Option (Int) := (iter (m_slices_Index_2_int_2_int_b0 a0 a1) big 0).bind fun o => (match o with
 | (.inl _) => some (-1)
 | (.inr r) => some r)
def Y_slices_Index_2_int_2_int := And.intro (And.intro ((@EV)) (And.intro ((@R3)) ((@R67)))) (And.intro (And.intro ((@R68)) ((@DAr2_Int))) (And.intro ((@eq68)) ((@mixed))))
set_option maxHeartbeats 2000000 in
theorem ok_slices_Index_2_int_2_int (a0 : List Ar2_Int) (a1 : Ar2_Int) (r : Int) (hm0 : m_slices_Index_2_int_2_int a0 a1 = some r) : Ok Try.prog 102 [.sl 2 (a0.map encAr2_Int), encAr2_Int a1] (int r) := by
 unfold m_slices_Index_2_int_2_int at hm0
 refine okG fc_slices_Index_2_int_2_int ?_
 unfold c_slices_Index_2_int_2_int
 obtain ⟨o0, ho0, hm0⟩ := bsE hm0
 simp only [Y_slices_Index_2_int_2_int, ↓EVd, isCall, sevalprocAttr]
 refine cwp_cx 0 (fun s => (.inl ()) = o0) ?_ fun J0_0 hJ0_0 => ?_
 · rintro T0 H0 x3 rfl
   try dsimp only at hm0
   obtain rfl := Option.some.inj hm0
   simp only [Y_slices_Index_2_int_2_int, ↓EVd, isCall, sevalprocAttr]
   all_goals first | done | rfl
 refine cwp_lp ho0 (fun v2 s => s.T 0 = .sl 2 (a0.map encAr2_Int) ∧ s.T 3 = .loc 0 2 0 0 ∧ s.T 7 = int (a0.length : Int) ∧ s.T 8 = int v2 ∧ s.H 0 = some (.row 68 2 [encAr2_Int a1]) ∧ Lq 0 s.nx) ?_ ?_
 · refine TI.here ⟨?_, ?_, ?_, ?_, ?_, ?_⟩
   all_goals try simp only [Y_slices_Index_2_int_2_int, ↓EVd, isCall, sevalprocAttr]
   all_goals first | omega | exact lq (by omega) | exact nq (by omega) | rfl | (congr 1; omega)
 rintro I0 v2 T0 H0 x1 st0 kk0 hm1 hI0 hO0
 dsimp only [Lq, Nq] at kk0
 simp only [m_slices_Index_2_int_2_int_b0] at hm1
 rcases iteE hm1 with ⟨e5, hm1⟩ | ⟨e5, hm1⟩
 · obtain ⟨v6, e8, hm1⟩ := ixE encAr2_Int hm1
   rcases itbE hm1 with ⟨e10, hm1⟩ | ⟨e10, hm1⟩
   · obtain rfl := Option.some.inj hm1
     obtain rfl := hO0 _ rfl
     try dsimp only at hm0
     obtain rfl := Option.some.inj hm0
     simp only [kk0, e5, e8, e10, Y_slices_Index_2_int_2_int, ↓EVd, isCall, sevalprocAttr]
     all_goals first | done | rfl
   obtain rfl := Option.some.inj hm1
   simp only [kk0, e5, e8, e10, Y_slices_Index_2_int_2_int, ↓EVd, isCall, sevalprocAttr]
   refine TI.here (hI0 _ rfl _ ⟨?_, ?_, ?_, ?_, ?_, ?_⟩)
   all_goals try simp only [kk0, e5, e8, e10, Y_slices_Index_2_int_2_int, ↓EVd, isCall, sevalprocAttr]
   all_goals first | omega | exact lq (by omega) | exact nq (by omega) | rfl | (congr 1; omega)
 obtain rfl := Option.some.inj hm1
 simp only [kk0, e5, Y_slices_Index_2_int_2_int, ↓EVd, isCall, sevalprocAttr]
 refine TI.here (hJ0_0 _ (hO0 _ rfl))
def m_slices_Contains_2_int_2_int (a0 : List Ar2_Int) (a1 : Ar2_Int) : Option (Bool) := (m_slices_Index_2_int_2_int a0 a1).bind fun v1 => if 0 ≤ v1 then some true
 else some false
def Y_slices_Contains_2_int_2_int := And.intro (And.intro ((@EV)) ((@R3))) (And.intro ((@R67)) (And.intro ((@R68)) ((@DAr2_Int))))
set_option maxHeartbeats 2000000 in
theorem ok_slices_Contains_2_int_2_int (a0 : List Ar2_Int) (a1 : Ar2_Int) (r : Bool) (hm0 : m_slices_Contains_2_int_2_int a0 a1 = some r) : Ok Try.prog 80 [.sl 2 (a0.map encAr2_Int), encAr2_Int a1] (bool r) := by
 unfold m_slices_Contains_2_int_2_int at hm0
 refine okG fc_slices_Contains_2_int_2_int ?_
 unfold c_slices_Contains_2_int_2_int
 obtain ⟨v1, h2, hm0⟩ := bsE hm0
 simp only [Y_slices_Contains_2_int_2_int, ↓EVd, isCall, sevalprocAttr]
 refine qc (ok_slices_Index_2_int_2_int _ _ _ h2) rfl ?_
 rcases iteE hm0 with ⟨e4, hm0⟩ | ⟨e4, hm0⟩
 · obtain rfl := Option.some.inj hm0
   simp only [e4, Y_slices_Contains_2_int_2_int, ↓EVd, isCall, sevalprocAttr]
   all_goals first | done | rfl
 obtain rfl := Option.some.inj hm0
 simp only [e4, Y_slices_Contains_2_int_2_int, ↓EVd, isCall, sevalprocAttr]
 all_goals first | done | rfl
def m_walk_Prune_1 (a0 : Entry) (a1 : List Node) (a2 : List Way) (a3 : List Ar2_Int) (a4 : Int) : Option (Bool) := (m_slices_Contains_2_int_2_int a3 (⟨(wr (a4 + 1)), a0.slot⟩ : Ar2_Int)).bind fun v2 => some v2
def Y_walk_Prune_1 := And.intro (And.intro (And.intro ((@EV)) ((@R3))) (And.intro ((@R54)) (And.intro ((@R67)) ((@R68))))) (And.intro (And.intro ((@R96)) ((@R97))) (And.intro ((@DEntry)) (And.intro ((@DAr2_Int)) ((@mixed)))))
set_option maxHeartbeats 2000000 in
theorem ok_walk_Prune_1 (a0 : Entry) (a1 : List Node) (a2 : List Way) (a3 : List Ar2_Int) (a4 : Int) (r : Bool) (hm0 : m_walk_Prune_1 a0 a1 a2 a3 a4 = some r) : Ok Try.prog 79 [encEntry a0, .ptr (.ptr (.agg [.sl 13 (a1.map encNode), .sl 3 (a2.map encWay), .junk, .sl 2 (a3.map encAr2_Int)]) 0) 0, .ptr (int a4) 0] (bool r) := by
 unfold m_walk_Prune_1 at hm0
 refine okG fc_walk_Prune_1 ?_
 unfold c_walk_Prune_1
 have e1 : (.agg [int (wr (a4 + 1)), int a0.slot] : AV) = encAr2_Int (⟨(wr (a4 + 1)), a0.slot⟩ : Ar2_Int) := _root_.id rfl
 obtain ⟨v2, h3, hm0⟩ := bsE hm0
 simp only [e1, Y_walk_Prune_1, ↓EVd, isCall, sevalprocAttr]
 refine qd (ok_slices_Contains_2_int_2_int _ _ _ h3) rfl ?_
 obtain rfl := Option.some.inj hm0
 simp only [e1, Y_walk_Prune_1, ↓EVd, isCall, sevalprocAttr]
 all_goals first | done | rfl
def m_walk_Prune_p1 (a0 : Branch) (v5 : List Way) (v8 : List (Int × Int)) (v17 : Int) : Option (List Way × List (Int × Int)) := if v17 < 1 then some (v5, v8)
 else if (a0.nodes.length : Int) < v17 then some (v5, v8)
 else (ix a0.nodes (wr (v17 - 1))).bind fun v103 => if v103.kind = 1 then if 0 < (mget v8 v17) then some (v5, v8)
 else (ap 32 v5 ([(⟨v17, (-1), noBytes⟩ : Way)] : List Way)).bind fun _ => some ((v5 ++ ([(⟨v17, (-1), noBytes⟩ : Way)] : List Way)), (mset v8 v17 (wr ((mget v8 v17) + 1))))
 else some (v5, v8)
def m_walk_Prune_b3  : Unit → Option (St (Unit) (Unit))
 | _ => some (.out ())
def m_walk_Prune_b4  : Unit → Option (St (Unit) (Unit))
 | _ => some (.out ())
def m_walk_Prune_b5 (a0 : Branch) (v25 : Int) (v40 : Way) (v53 : Node) : (Int × List Way × List Ar2_Int × List (Int × Int)) → Option (St (Int × List Way × List Ar2_Int × List (Int × Int)) (List Way × List (Int × Int) × List Ar2_Int))
 | (v57, v59, v61, v62) => if v57 < (v53.entries.length : Int) then (ix v53.entries v57).bind fun v71 => if v71.ino < 1 then some (.nx ((wr (v57 + 1)), v59, v61, v62))
 else if (a0.nodes.length : Int) < v71.ino then some (.nx ((wr (v57 + 1)), v59, v61, v62))
 else (ix a0.nodes (wr (v71.ino - 1))).bind fun v80 => if v80.kind = 1 then if 0 < (mget v62 v71.ino) then (ap 16 v61 ([(⟨v40.ino, v71.slot⟩ : Ar2_Int)] : List Ar2_Int)).bind fun _ => some (.nx ((wr (v57 + 1)), v59, (v61 ++ ([(⟨v40.ino, v71.slot⟩ : Ar2_Int)] : List Ar2_Int)), v62))
 else (ap 32 v59 ([(⟨v71.ino, v25, v71.name⟩ : Way)] : List Way)).bind fun _ => some (.nx ((wr (v57 + 1)), (v59 ++ ([(⟨v71.ino, v25, v71.name⟩ : Way)] : List Way)), v61, (mset v62 v71.ino (wr ((mget v62 v71.ino) + 1)))))
 else some (.nx ((wr (v57 + 1)), v59, v61, v62))
 else some (.out (v59, v62, v61))
def m_walk_Prune_b2 (a0 : Branch) : (Int × List Way × List Ar2_Int × List (Int × Int)) → Option (St (Int × List Way × List Ar2_Int × List (Int × Int)) (List Way × List (Int × Int) × List Ar2_Int × Int))
 | (v25, v27, v29, v30) => if v25 < (v27.length : Int) then (ix v27 v25).bind fun v40 => if v40.ino < 1 then (iter (m_walk_Prune_b3) big ()).bind fun o => (match o with
 | _ => some (.nx ((wr (v25 + 1)), v27, v29, v30)))
 else if (a0.nodes.length : Int) < v40.ino then (iter (m_walk_Prune_b4) big ()).bind fun o => (match o with
 | _ => some (.nx ((wr (v25 + 1)), v27, v29, v30)))
 else (ix a0.nodes (wr (v40.ino - 1))).bind fun v53 => (iter (m_walk_Prune_b5 a0 v25 v40 v53) big (0, v27, v29, v30)).bind fun o => (match o with
 | (v65, v66, v68) => some (.nx ((wr (v25 + 1)), v65, v68, v66)))
 else some (.out (v27, v30, v29, v25))
def m_walk_Prune_b0 (a0 : Branch) (a1 : List Int) : (Int × Int × List Way × List Ar2_Int × List (Int × Int)) → Option (St (Int × Int × List Way × List Ar2_Int × List (Int × Int)) (List Way × List (Int × Int) × List Ar2_Int))
 | (v2, v3, v5, v7, v8) => if v3 < (a1.length : Int) then (ix a1 v3).bind fun v17 => (m_walk_Prune_p1 a0 v5 v8 v17).bind fun o => (match o with
 | (v22, v23) => (iter (m_walk_Prune_b2 a0) (big + 1) (v2, v22, v7, v23)).bind fun o => (match o with
 | (v33, v34, v36, v37) => some (.nx (v37, (wr (v3 + 1)), v33, v36, v34))))
 else some (.out (v5, v8, v7))
def m_walk_Prune_b6 (a0 : Branch) (v11 : List Way) (v14 : List Ar2_Int) (v115 : List Bool) : (Int × List Node) → Option (St (Int × List Node) (List Node))
 | (v120, v121) => if v120 < (a0.nodes.length : Int) then (ix a0.nodes v120).bind fun v126 => (ix v115 v120).bind fun v129 => if (!v129) = true then some (.nx ((wr (v120 + 1)), v121))
 else (cloneM 1 v126.data).bind fun v134 => (cloneM 32 (({ v126 with data := v134 } : Node).entries)).bind fun v136 => (deleteM (fun z => m_walk_Prune_1 z a0.nodes v11 v14 v120) v136).bind fun v138 => (ix v121 v120).bind fun v140 => some (.nx ((wr (v120 + 1)), (v121.set (v120).toNat ({ ({ v126 with data := v134 } : Node) with entries := v138 } : Node))))
 else some (.out v121)
def m_walk_Prune (a0 : Branch) (a1 : List Int) : Option (Branch) := (iter (m_walk_Prune_b0 a0 a1) big (0, 0, [], [], ([] : List (Int × Int)))).bind fun o => (match o with
 | (v11, v12, v14) => (m_walk_trail_reach a0 v11).bind fun v115 => (ck (0 ≤ (a0.nodes.length : Int) ∧ (a0.nodes.length : Int) ≤ (a0.nodes.length : Int) ∧ (144 : Int) * (a0.nodes.length : Int) ≤ 281474976710656 ∧ (a0.nodes.length : Int) ≤ 9223372036854775807)).bind fun _ => (iter (m_walk_Prune_b6 a0 v11 v14 v115) big (0, (List.replicate (a0.nodes.length : Int).toNat (⟨0, 0, 0, 0, [], [], (⟨0, 0, noBytes, (⟨0, 0, 0⟩ : Origin), 0⟩ : Attr)⟩ : Node)))).bind fun o => (match o with
 | v123 => some (⟨v123⟩ : Branch)))
def Y_walk_Prune := And.intro (And.intro (And.intro (And.intro ((@EV)) (And.intro ((@R3)) ((@R4)))) (And.intro (And.intro ((@R5)) ((@R9))) (And.intro ((@R24)) ((@R26))))) (And.intro (And.intro ((@R39)) (And.intro ((@R40)) ((@R46)))) (And.intro (And.intro ((@R49)) ((@R52))) (And.intro ((@R54)) ((@R63)))))) (And.intro (And.intro (And.intro ((@R67)) (And.intro ((@R68)) ((@R72)))) (And.intro (And.intro ((@R94)) ((@R96))) (And.intro ((@R97)) ((@R100))))) (And.intro (And.intro (And.intro ((@DBranch)) ((@DOrigin))) (And.intro ((@DAttr)) ((@DNode)))) (And.intro (And.intro ((@DWay)) ((@DEntry))) (And.intro ((@DAr2_Int)) ((@mixed))))))
set_option maxHeartbeats 2000000 in
theorem ok_walk_Prune (a0 : Branch) (a1 : List Int) (r : Branch) (hm0 : m_walk_Prune a0 a1 = some r) : Ok Try.prog 46 [encBranch a0, .sl 1 (a1.map int)] (encBranch r) := by
 unfold m_walk_Prune at hm0
 refine okG fc_walk_Prune ?_
 unfold c_walk_Prune
 simp only [Y_walk_Prune, ↓EVd, isCall, sevalprocAttr]
 refine S1_call (acallF fc_walk_walk (by simp) ?_) rfl
 unfold c_walk_walk
 obtain ⟨o0, ho0, hm0⟩ := bsE hm0
 simp only [Y_walk_Prune, ↓EVd, isCall, sevalprocAttr]
 refine cwp_cx 0 (fun s => ∃ v11 : List Way, ∃ v12 : List (Int × Int), ∃ v14 : List Ar2_Int, ∃ l10 : Nat, ∃ l13 : Nat, (s.T 5 = .loc 12 4 0 0 ∧ s.H 0 = some (.row 26 1 [encBranch a0]) ∧ s.H 1 = some (.row 26 1 [.agg [nilS]]) ∧ s.H 12 = some (.row 96 4 [.agg [.sl 13 (a0.nodes.map encNode), .msl l10 v11.length, .mp 10, .msl l13 v14.length]]) ∧ s.H l10 = some (.row 52 3 (v11.map encWay)) ∧ s.H 10 = some (.map (v12.map (kI .i64)) (v12.map fun p => .val (.int .i64 p.2))) ∧ s.H l13 = some (.row 68 2 (v14.map encAr2_Int)) ∧ Lq 0 s.nx ∧ Lq 1 s.nx ∧ Lq 12 s.nx ∧ Lq l10 s.nx ∧ Lq 10 s.nx ∧ Lq l13 s.nx ∧ Lq 5 s.nx ∧ Nq 5 l10 ∧ Nq 5 l13 ∧ Nq 0 l10 ∧ Nq 0 l13 ∧ Nq 1 l10 ∧ Nq 1 l13 ∧ Nq 12 l10 ∧ Nq 12 l13 ∧ Nq l10 10 ∧ Nq l10 l13 ∧ Nq 10 l13) ∧ (v11, v12, v14) = o0) ?_ fun J0_0 hJ0_0 => ?_
 · rintro T0 H0 x9 ⟨v11, v12, v14, l10, l13, kk0_0, rfl⟩
   dsimp only [Lq, Nq] at kk0_0
   try dsimp only at hm0
   obtain ⟨v115, h116, hm0⟩ := bsE hm0
   simp only [kk0_0, Y_walk_Prune, ↓EVd, isCall, sevalprocAttr]
   refine qcn (okn_walk_trail_reach a0 v11 _ _ h116) rfl (by simp only [kk0_0, FZ, CLO, Y_walk_Prune, ↓EVd, isCall, sevalprocAttr]; first | done | rfl) ?_
   obtain ⟨e118, hm0⟩ := ckE hm0
   obtain ⟨o6, ho6, hm0⟩ := bsE hm0
   simp only [kk0_0, e118, Y_walk_Prune, ↓EVd, isCall, sevalprocAttr]
   refine cwp_cx 0 (fun s => ∃ v123 : List Node, (s.T 4 = .loc 1 1 0 0 ∧ s.T 7 = .loc (x9 + 10) 1 0 0 ∧ s.H 1 = some (.row 26 1 [.agg [nilS]]) ∧ s.H (x9 + 10) = some (.row 26 1 [.agg [.msl (x9 + 8) v123.length]]) ∧ s.H (x9 + 8) = some (.row 46 13 (v123.map encNode)) ∧ Lq 1 s.nx ∧ Lq (x9 + 10) s.nx ∧ Lq (x9 + 8) s.nx ∧ Nq 1 (x9 + 10) ∧ Nq 1 (x9 + 8)) ∧ v123 = o6) ?_ fun J6_0 hJ6_0 => ?_
   · rintro T6 H6 x122 ⟨v123, kk6_0, rfl⟩
     dsimp only [Lq, Nq] at kk6_0
     try dsimp only at hm0
     obtain rfl := Option.some.inj hm0
     simp only [kk6_0, kk0_0, e118, Y_walk_Prune, ↓EVd, isCall, sevalprocAttr]
     all_goals first | done | rfl | exact frzR_of 9 (by simp only [kk6_0, kk0_0, e118, FZ, CLO, Y_walk_Prune, ↓EVd, isCall, sevalprocAttr]) (Sub.agg (Subs.cons (Sub.refl _) (Subs.nil)))
   refine cwp_lp ho6 (fun (v120, v121) s => s.T 4 = .loc 1 1 0 0 ∧ s.T 5 = .loc 5 1 0 0 ∧ s.T 6 = .sl 1 (v115.map bool) ∧ s.T 7 = .loc (x9 + 10) 1 0 0 ∧ s.T 21 = .sl 13 (a0.nodes.map encNode) ∧ s.T 22 = int (a0.nodes.length : Int) ∧ s.T 23 = int v120 ∧ s.H 1 = some (.row 26 1 [.agg [nilS]]) ∧ s.H 12 = some (.row 96 4 [.agg [.sl 13 (a0.nodes.map encNode), .msl l10 v11.length, .mp 10, .msl l13 v14.length]]) ∧ s.H l10 = some (.row 52 3 (v11.map encWay)) ∧ s.H 10 = some (.map (v12.map (kI .i64)) (v12.map fun p => .val (.int .i64 p.2))) ∧ s.H l13 = some (.row 68 2 (v14.map encAr2_Int)) ∧ s.H 5 = some (.row 97 1 [.loc 12 4 0 0]) ∧ s.H (x9 + 8) = some (.row 46 13 (v121.map encNode)) ∧ s.H (x9 + 10) = some (.row 26 1 [.agg [.msl (x9 + 8) v121.length]]) ∧ Lq 1 s.nx ∧ Lq 12 s.nx ∧ Lq l10 s.nx ∧ Lq 10 s.nx ∧ Lq l13 s.nx ∧ Lq 5 s.nx ∧ Lq (x9 + 8) s.nx ∧ Lq (x9 + 10) s.nx ∧ Nq 1 l10 ∧ Nq 1 l13 ∧ Nq 1 (x9 + 8) ∧ Nq 1 (x9 + 10) ∧ Nq 12 l10 ∧ Nq 12 l13 ∧ Nq 12 (x9 + 8) ∧ Nq 12 (x9 + 10) ∧ Nq l10 10 ∧ Nq l10 l13 ∧ Nq l10 5 ∧ Nq l10 (x9 + 8) ∧ Nq l10 (x9 + 10) ∧ Nq 10 l13 ∧ Nq 10 (x9 + 8) ∧ Nq 10 (x9 + 10) ∧ Nq l13 5 ∧ Nq l13 (x9 + 8) ∧ Nq l13 (x9 + 10) ∧ Nq 5 (x9 + 8) ∧ Nq 5 (x9 + 10)) ?_ ?_
   · refine TI.by (Tn.row (x9 + 8) 46 13 (List.replicate ((a0.nodes.length : Int).toNat) (.agg [int 0, int 0, int 0, int 0, nilS, nilS, int 0, int 0, str noBytes, int 0, int 0, int 0, int 0])) ((List.replicate ((a0.nodes.length : Int).toNat) (⟨0, 0, 0, 0, [], [], (⟨0, 0, noBytes, (⟨0, 0, 0⟩ : Origin), 0⟩ : Attr)⟩ : Node)).map encNode) (by simp only [kk0_0, e118, Y_walk_Prune, ↓EVd, isCall, sevalprocAttr]) (Subs.rep encNode (Sub.agg (.cons (.refl _) (.cons (.refl _) (.cons (.refl _) (.cons (.refl _) (.cons (.nilS _) (.cons (.nilS _) (.refl _)))))))))) ?_
     refine TI.here ⟨?_, ?_, ?_, ?_, ?_, ?_, ?_, ?_, ?_, ?_, ?_, ?_, ?_, ?_, ?_, ?_, ?_, ?_, ?_, ?_, ?_, ?_, ?_, ?_, ?_, ?_, ?_, ?_, ?_, ?_, ?_, ?_, ?_, ?_, ?_, ?_, ?_, ?_, ?_, ?_, ?_, ?_, ?_, ?_⟩
     all_goals try simp only [kk0_0, e118, Y_walk_Prune, ↓EVd, isCall, sevalprocAttr]
     all_goals first | omega | exact lq (by omega) | exact nq (by omega) | rfl | (congr 1; omega)
   rintro I6 ⟨v120, v121⟩ T6 H6 x119 st6 kk6 hm1 hI6 hO6
   dsimp only [Lq, Nq] at kk6
   simp only [m_walk_Prune_b6] at hm1
   rcases iteE hm1 with ⟨e125, hm1⟩ | ⟨e125, hm1⟩
   · obtain ⟨v126, e128, hm1⟩ := ixE encNode hm1
     obtain ⟨v129, e131, hm1⟩ := ixE bool hm1
     rcases itbE hm1 with ⟨e133, hm1⟩ | ⟨e133, hm1⟩
     · obtain rfl := Option.some.inj hm1
       simp only [kk6, kk0_0, e118, e125, e128, e131, e133, Y_walk_Prune, ↓EVd, isCall, sevalprocAttr]
       refine TI.here (hI6 _ rfl _ ⟨?_, ?_, ?_, ?_, ?_, ?_, ?_, ?_, ?_, ?_, ?_, ?_, ?_, ?_, ?_, ?_, ?_, ?_, ?_, ?_, ?_, ?_, ?_, ?_, ?_, ?_, ?_, ?_, ?_, ?_, ?_, ?_, ?_, ?_, ?_, ?_, ?_, ?_, ?_, ?_, ?_, ?_, ?_, ?_⟩)
       all_goals try simp only [kk6, kk0_0, e118, e125, e128, e131, e133, Y_walk_Prune, ↓EVd, isCall, sevalprocAttr]
       all_goals first | omega | exact lq (by omega) | exact nq (by omega) | rfl | (congr 1; omega)
     obtain ⟨v134, h135, hm1⟩ := bsE hm1
     simp only [kk6, kk0_0, e118, e125, e128, e131, e133, Y_walk_Prune, ↓EVd, isCall, sevalprocAttr]
     refine qc (cloneM_ok fc_slices_Clone_byte_byte elemOfT_39 aggN_5 bytesOfT_5 zero_5 rfl (by decide) u8 _ _ h135 (fun z => by simp only [CLO])) rfl ?_
     obtain ⟨v136, h137, hm1⟩ := bsE hm1
     simp only [kk6, kk0_0, e118, e125, e128, e131, e133, Y_walk_Prune, ↓EVd, isCall, sevalprocAttr]
     refine qco (cloneO_ok fc_slices_Clone_api_Entry_api_Entry elemOfT_40 aggN_54 bytesOfT_54 zero_54 rfl (by decide) encEntry _ _ h137 (fun z => by simp only [CLO])) rfl ?_
     obtain ⟨v138, h139, hm1⟩ := bsE hm1
     simp only [kk6, kk0_0, e118, e125, e128, e131, e133, Y_walk_Prune, ↓EVd, isCall, sevalprocAttr]
     refine qdel fc_slices_DeleteFunc_api_Entry_api_Entry fc_slices_IndexFunc_api_Entry_api_Entry elemOfT_40 aggN_54 zero_54 (by simp only [Y_walk_Prune, ↓EVd, isCall, sevalprocAttr]) encEntry _ (fun z => m_walk_Prune_1 z a0.nodes v11 v14 v120) _ h139 (fun z b hz => ok_walk_Prune_1 z a0.nodes v11 v14 v120 b hz) (fun z => by simp only [CLO]) (by simp only [CLO]) (fun z => by simp only [Y_walk_Prune, ↓EVd, isCall, sevalprocAttr]) (fun z w => by simp only [Y_walk_Prune, ↓EVd, isCall, sevalprocAttr]) (fun z => by simp only [Y_walk_Prune, ↓EVd, isCall, sevalprocAttr]) (fun z => by simp only [Y_walk_Prune, ↓EVd, isCall, sevalprocAttr]) rfl (by simp only [kk6, kk0_0, e118, e125, e128, e131, e133, FZ, CLO, Y_walk_Prune, ↓EVd, isCall, sevalprocAttr]) (by simp only [kk6, kk0_0, e118, e125, e128, e131, e133, FZ, CLO, Y_walk_Prune, ↓EVd, isCall, sevalprocAttr]) (fun H9 hc9 => by simp only [kk6, kk0_0, e118, e125, e128, e131, e133, hc9, FZ, CLO, Y_walk_Prune, ↓EVd, isCall, sevalprocAttr]) ?_
     obtain ⟨v140, e142, hm1⟩ := ixE encNode hm1
     obtain rfl := Option.some.inj hm1
     simp only [kk6, kk0_0, e118, e125, e128, e131, e133, e142, Y_walk_Prune, ↓EVd, isCall, sevalprocAttr]
     refine TI.here (hI6 _ rfl _ ⟨?_, ?_, ?_, ?_, ?_, ?_, ?_, ?_, ?_, ?_, ?_, ?_, ?_, ?_, ?_, ?_, ?_, ?_, ?_, ?_, ?_, ?_, ?_, ?_, ?_, ?_, ?_, ?_, ?_, ?_, ?_, ?_, ?_, ?_, ?_, ?_, ?_, ?_, ?_, ?_, ?_, ?_, ?_, ?_⟩)
     all_goals try simp only [kk6, kk0_0, e118, e125, e128, e131, e133, e142, Y_walk_Prune, ↓EVd, isCall, sevalprocAttr]
     all_goals first | omega | exact lq (by omega) | exact nq (by omega) | rfl | (congr 1; omega)
   obtain rfl := Option.some.inj hm1
   simp only [kk6, kk0_0, e118, e125, Y_walk_Prune, ↓EVd, isCall, sevalprocAttr]
   refine TI.here (hJ6_0 _ ⟨v121, ⟨?_, ?_, ?_, ?_, ?_, ?_, ?_, ?_, ?_, ?_⟩, hO6 _ rfl⟩)
   all_goals try simp only [kk6, kk0_0, e118, e125, Y_walk_Prune, ↓EVd, isCall, sevalprocAttr]
   all_goals first | omega | exact lq (by omega) | exact nq (by omega) | rfl | (congr 1; omega)
 refine cwp_lp ho0 (fun (v2, v3, v5, v7, v8) s => ∃ l4 : Nat, ∃ l6 : Nat, s.T 5 = .loc 12 4 0 0 ∧ s.T 6 = int v2 ∧ s.T 13 = .sl 1 (a1.map int) ∧ s.T 14 = int (a1.length : Int) ∧ s.T 15 = int v3 ∧ s.H 0 = some (.row 26 1 [encBranch a0]) ∧ s.H 1 = some (.row 26 1 [.agg [nilS]]) ∧ s.H 10 = some (.map (v8.map (kI .i64)) (v8.map fun p => .val (.int .i64 p.2))) ∧ s.H 12 = some (.row 96 4 [.agg [.sl 13 (a0.nodes.map encNode), .msl l4 v5.length, .mp 10, .msl l6 v7.length]]) ∧ s.H l4 = some (.row 52 3 (v5.map encWay)) ∧ s.H l6 = some (.row 68 2 (v7.map encAr2_Int)) ∧ Lq 0 s.nx ∧ Lq 1 s.nx ∧ Lq 10 s.nx ∧ Lq 12 s.nx ∧ Lq l4 s.nx ∧ Lq l6 s.nx ∧ Lq 5 s.nx ∧ Nq 5 l4 ∧ Nq 5 l6 ∧ Nq 0 l4 ∧ Nq 0 l6 ∧ Nq 1 l4 ∧ Nq 1 l6 ∧ Nq 10 l4 ∧ Nq 10 l6 ∧ Nq 12 l4 ∧ Nq 12 l6 ∧ Nq l4 l6) ?_ ?_
 · refine TI.by (Tn.adoptC 12 1 96 4 52 3 [.sl 13 (a0.nodes.map encNode), nilS, .mp 10, nilS] (by simp only [Y_walk_Prune, ↓EVd, isCall, sevalprocAttr]) rfl) ?_
   refine TI.by (Tn.adoptC 12 3 96 4 68 2 [.sl 13 (a0.nodes.map encNode), .msl 18 ([] : List Way).length, .mp 10, nilS] (by simp only [Y_walk_Prune, ↓EVd, isCall, sevalprocAttr]) rfl) ?_
   refine TI.here ⟨18, 19, ?_, ?_, ?_, ?_, ?_, ?_, ?_, ?_, ?_, ?_, ?_, ?_, ?_, ?_, ?_, ?_, ?_, ?_, ?_, ?_, ?_, ?_, ?_, ?_, ?_, ?_, ?_, ?_, ?_⟩
   all_goals try simp only [Y_walk_Prune, ↓EVd, isCall, sevalprocAttr]
   all_goals first | omega | exact lq (by omega) | exact nq (by omega) | rfl | (congr 1; omega)
 rintro I0 ⟨v2, v3, v5, v7, v8⟩ T0 H0 x1 st0 ⟨l4, l6, kk0⟩ hm1 hI0 hO0
 dsimp only [Lq, Nq] at kk0
 simp only [m_walk_Prune_b0] at hm1
 rcases iteE hm1 with ⟨e16, hm1⟩ | ⟨e16, hm1⟩
 · obtain ⟨v17, e19, hm1⟩ := ixE int hm1
   obtain ⟨⟨v22, v23⟩, hp2, hm1⟩ := bsE hm1
   try dsimp only at hm1
   obtain ⟨o2, ho2, hm1⟩ := bsE hm1
   simp only [kk0, e16, e19, Y_walk_Prune, ↓EVd, isCall, sevalprocAttr]
   refine cwp_cn (fun s => ∃ v33 : List Way, ∃ v34 : List (Int × Int), ∃ v36 : List Ar2_Int, ∃ v37 : Int, ∃ l32 : Nat, ∃ l35 : Nat, (s.T 5 = .loc 12 4 0 0 ∧ s.T 6 = int v37 ∧ s.T 13 = .sl 1 (a1.map int) ∧ s.T 14 = int (a1.length : Int) ∧ s.T 15 = int v3 ∧ s.H 0 = some (.row 26 1 [encBranch a0]) ∧ s.H 1 = some (.row 26 1 [.agg [nilS]]) ∧ s.H 12 = some (.row 96 4 [.agg [.sl 13 (a0.nodes.map encNode), .msl l32 v33.length, .mp 10, .msl l35 v36.length]]) ∧ s.H l32 = some (.row 52 3 (v33.map encWay)) ∧ s.H 10 = some (.map (v34.map (kI .i64)) (v34.map fun p => .val (.int .i64 p.2))) ∧ s.H l35 = some (.row 68 2 (v36.map encAr2_Int)) ∧ Lq 0 s.nx ∧ Lq 1 s.nx ∧ Lq 12 s.nx ∧ Lq l32 s.nx ∧ Lq 10 s.nx ∧ Lq l35 s.nx ∧ Lq 5 s.nx ∧ Nq 5 l32 ∧ Nq 5 l35 ∧ Nq 0 l32 ∧ Nq 0 l35 ∧ Nq 1 l32 ∧ Nq 1 l35 ∧ Nq 12 l32 ∧ Nq 12 l35 ∧ Nq l32 10 ∧ Nq l32 l35 ∧ Nq 10 l35) ∧ (v33, v34, v36, v37) = o2) ?_ fun J2_0 hJ2_0 => ?_
   · rintro T2 H2 x31 ⟨v33, v34, v36, v37, l32, l35, kk2_0, rfl⟩
     dsimp only [Lq, Nq] at kk2_0
     try dsimp only at hm1
     obtain rfl := Option.some.inj hm1
     simp only [kk2_0, kk0, e16, e19, Y_walk_Prune, ↓EVd, isCall, sevalprocAttr]
     refine TI.here (hI0 _ rfl _ ⟨l32, l35, ?_, ?_, ?_, ?_, ?_, ?_, ?_, ?_, ?_, ?_, ?_, ?_, ?_, ?_, ?_, ?_, ?_, ?_, ?_, ?_, ?_, ?_, ?_, ?_, ?_, ?_, ?_, ?_, ?_⟩)
     all_goals try simp only [kk2_0, kk0, e16, e19, Y_walk_Prune, ↓EVd, isCall, sevalprocAttr]
     all_goals first | omega | exact lq (by omega) | exact nq (by omega) | rfl | (congr 1; omega)
   refine cwp_sl 0 ho2 (fun (v25, v27, v29, v30) s => ∃ l26 : Nat, ∃ l28 : Nat, s.T 5 = .loc 12 4 0 0 ∧ s.T 6 = int v25 ∧ s.T 13 = .sl 1 (a1.map int) ∧ s.T 14 = int (a1.length : Int) ∧ s.T 15 = int v3 ∧ s.H 0 = some (.row 26 1 [encBranch a0]) ∧ s.H 1 = some (.row 26 1 [.agg [nilS]]) ∧ s.H 12 = some (.row 96 4 [.agg [.sl 13 (a0.nodes.map encNode), .msl l26 v27.length, .mp 10, .msl l28 v29.length]]) ∧ s.H 10 = some (.map (v30.map (kI .i64)) (v30.map fun p => .val (.int .i64 p.2))) ∧ s.H l26 = some (.row 52 3 (v27.map encWay)) ∧ s.H l28 = some (.row 68 2 (v29.map encAr2_Int)) ∧ Lq 0 s.nx ∧ Lq 1 s.nx ∧ Lq 12 s.nx ∧ Lq 10 s.nx ∧ Lq l26 s.nx ∧ Lq l28 s.nx ∧ Lq 5 s.nx ∧ Nq 5 l26 ∧ Nq 5 l28 ∧ Nq 0 l26 ∧ Nq 0 l28 ∧ Nq 1 l26 ∧ Nq 1 l28 ∧ Nq 12 l26 ∧ Nq 12 l28 ∧ Nq 10 l26 ∧ Nq 10 l28 ∧ Nq l26 l28) rfl ?_ ?_
   · intro K2 hK2
     have hm2 := hp2
     unfold m_walk_Prune_p1 at hm2
     simp only [kk0, e16, e19, Y_walk_Prune, ↓EVd, isCall, sevalprocAttr]
     refine S1_call (acallF fc_walk_trail_node (by simp) ?_) rfl
     unfold c_walk_trail_node
     rcases iteE hm2 with ⟨e98, hm2⟩ | ⟨e98, hm2⟩
     · have e99 : ((0 : Int) = 1) = False := by decide
       simp only [Option.some.injEq, Prod.mk.injEq] at hm2
       obtain ⟨rfl, rfl⟩ := hm2
       simp only [kk0, e16, e19, e98, e99, Y_walk_Prune, ↓EVd, isCall, sevalprocAttr]
       apply hK2
       refine TI.here ⟨l4, l6, ?_, ?_, ?_, ?_, ?_, ?_, ?_, ?_, ?_, ?_, ?_, ?_, ?_, ?_, ?_, ?_, ?_, ?_, ?_, ?_, ?_, ?_, ?_, ?_, ?_, ?_, ?_, ?_, ?_⟩
       all_goals try simp only [kk0, e16, e19, e98, e99, Y_walk_Prune, ↓EVd, isCall, sevalprocAttr]
       all_goals first | omega | exact lq (by omega) | exact nq (by omega) | rfl | (congr 1; omega)
     rcases iteE hm2 with ⟨e101, hm2⟩ | ⟨e101, hm2⟩
     · have e102 : ((0 : Int) = 1) = False := by decide
       simp only [Option.some.injEq, Prod.mk.injEq] at hm2
       obtain ⟨rfl, rfl⟩ := hm2
       simp only [kk0, e16, e19, e98, e101, e102, Y_walk_Prune, ↓EVd, isCall, sevalprocAttr]
       apply hK2
       refine TI.here ⟨l4, l6, ?_, ?_, ?_, ?_, ?_, ?_, ?_, ?_, ?_, ?_, ?_, ?_, ?_, ?_, ?_, ?_, ?_, ?_, ?_, ?_, ?_, ?_, ?_, ?_, ?_, ?_, ?_, ?_, ?_⟩
       all_goals try simp only [kk0, e16, e19, e98, e101, e102, Y_walk_Prune, ↓EVd, isCall, sevalprocAttr]
       all_goals first | omega | exact lq (by omega) | exact nq (by omega) | rfl | (congr 1; omega)
     obtain ⟨v103, e105, hm2⟩ := ixE encNode hm2
     rcases iteE hm2 with ⟨e107, hm2⟩ | ⟨e107, hm2⟩
     · have e108 : (.agg [int v17, int (-1), str noBytes] : AV) = encWay (⟨v17, (-1), noBytes⟩ : Way) := _root_.id rfl
       simp only [kk0, e16, e19, e98, e101, e105, e107, e108, Y_walk_Prune, ↓EVd, isCall, sevalprocAttr]
       refine S1_call (acallF fc_walk_trail_come (by simp) ?_) rfl
       unfold c_walk_trail_come
       rcases iteE hm2 with ⟨e110, hm2⟩ | ⟨e110, hm2⟩
       · simp only [Option.some.injEq, Prod.mk.injEq] at hm2
         obtain ⟨rfl, rfl⟩ := hm2
         simp only [kk0, e16, e19, e98, e101, e105, e107, e108, e110, Y_walk_Prune, ↓EVd, isCall, sevalprocAttr]
         apply hK2
         refine TI.here ⟨l4, l6, ?_, ?_, ?_, ?_, ?_, ?_, ?_, ?_, ?_, ?_, ?_, ?_, ?_, ?_, ?_, ?_, ?_, ?_, ?_, ?_, ?_, ?_, ?_, ?_, ?_, ?_, ?_, ?_, ?_⟩
         all_goals try simp only [kk0, e16, e19, e98, e101, e105, e107, e108, e110, Y_walk_Prune, ↓EVd, isCall, sevalprocAttr]
         all_goals first | omega | exact lq (by omega) | exact nq (by omega) | rfl | (congr 1; omega)
       obtain ⟨e113, hm2⟩ := apE hm2
       try simp only [ZL] at e113
       simp only [Option.some.injEq, Prod.mk.injEq] at hm2
       obtain ⟨rfl, rfl⟩ := hm2
       simp only [kk0, e16, e19, e98, e101, e105, e107, e108, e110, e113, Y_walk_Prune, ↓EVd, isCall, sevalprocAttr]
       apply hK2
       refine TI.here ⟨(x1 + 62), l6, ?_, ?_, ?_, ?_, ?_, ?_, ?_, ?_, ?_, ?_, ?_, ?_, ?_, ?_, ?_, ?_, ?_, ?_, ?_, ?_, ?_, ?_, ?_, ?_, ?_, ?_, ?_, ?_, ?_⟩
       all_goals try simp only [kk0, e16, e19, e98, e101, e105, e107, e108, e110, e113, Y_walk_Prune, ↓EVd, isCall, sevalprocAttr]
       all_goals first | omega | exact lq (by omega) | exact nq (by omega) | rfl | (congr 1; omega)
     simp only [Option.some.injEq, Prod.mk.injEq] at hm2
     obtain ⟨rfl, rfl⟩ := hm2
     simp only [kk0, e16, e19, e98, e101, e105, e107, Y_walk_Prune, ↓EVd, isCall, sevalprocAttr]
     apply hK2
     refine TI.here ⟨l4, l6, ?_, ?_, ?_, ?_, ?_, ?_, ?_, ?_, ?_, ?_, ?_, ?_, ?_, ?_, ?_, ?_, ?_, ?_, ?_, ?_, ?_, ?_, ?_, ?_, ?_, ?_, ?_, ?_, ?_⟩
     all_goals try simp only [kk0, e16, e19, e98, e101, e105, e107, Y_walk_Prune, ↓EVd, isCall, sevalprocAttr]
     all_goals first | omega | exact lq (by omega) | exact nq (by omega) | rfl | (congr 1; omega)
   rintro I2 ⟨v25, v27, v29, v30⟩ T2 H2 x24 st2 ⟨l26, l28, kk2⟩ hm2 hI2 hO2
   dsimp only [Lq, Nq] at kk2
   simp only [m_walk_Prune_b2] at hm2
   rcases iteE hm2 with ⟨e39, hm2⟩ | ⟨e39, hm2⟩
   · simp only [kk2, kk0, e16, e19, e39, Y_walk_Prune, ↓EVd, isCall, sevalprocAttr]
     refine S1_call (acallF fc_walk_trail_enter (by simp) ?_) rfl
     unfold c_walk_trail_enter
     obtain ⟨v40, e42, hm2⟩ := ixE encWay hm2
     simp only [kk2, kk0, e16, e19, e39, e42, Y_walk_Prune, ↓EVd, isCall, sevalprocAttr]
     refine S1_call (acallF fc_walk_trail_node (by simp) ?_) rfl
     unfold c_walk_trail_node
     rcases iteE hm2 with ⟨e44, hm2⟩ | ⟨e44, hm2⟩
     · obtain ⟨o3, ho3, hm2⟩ := bsE hm2
       simp only [kk2, kk0, e16, e19, e39, e42, e44, Y_walk_Prune, ↓EVd, isCall, sevalprocAttr]
       refine cwp_cx 0 (fun s => (s.H 0 = some (.row 26 1 [encBranch a0]) ∧ s.H 1 = some (.row 26 1 [.agg [nilS]]) ∧ s.H 12 = some (.row 96 4 [.agg [.sl 13 (a0.nodes.map encNode), .msl l26 v27.length, .mp 10, .msl l28 v29.length]]) ∧ s.H l26 = some (.row 52 3 (v27.map encWay)) ∧ s.H 10 = some (.map (v30.map (kI .i64)) (v30.map fun p => .val (.int .i64 p.2))) ∧ s.H l28 = some (.row 68 2 (v29.map encAr2_Int)) ∧ Lq 0 s.nx ∧ Lq 1 s.nx ∧ Lq 12 s.nx ∧ Lq l26 s.nx ∧ Lq 10 s.nx ∧ Lq l28 s.nx ∧ Lq 5 s.nx ∧ Nq 5 l26 ∧ Nq 5 l28 ∧ Nq 0 l26 ∧ Nq 0 l28 ∧ Nq 1 l26 ∧ Nq 1 l28 ∧ Nq 12 l26 ∧ Nq 12 l28 ∧ Nq l26 10 ∧ Nq l26 l28 ∧ Nq 10 l28) ∧ () = o3) ?_ fun J3_0 hJ3_0 => ?_
       · rintro T3 H3 x46 ⟨kk3_0, rfl⟩
         dsimp only [Lq, Nq] at kk3_0
         try dsimp only at hm2
         obtain rfl := Option.some.inj hm2
         simp only [kk3_0, kk2, kk0, e16, e19, e39, e42, e44, Y_walk_Prune, ↓EVd, isCall, sevalprocAttr]
         refine TI.here (hI2 _ rfl _ ⟨l26, l28, ?_, ?_, ?_, ?_, ?_, ?_, ?_, ?_, ?_, ?_, ?_, ?_, ?_, ?_, ?_, ?_, ?_, ?_, ?_, ?_, ?_, ?_, ?_, ?_, ?_, ?_, ?_, ?_, ?_⟩)
         all_goals try simp only [kk3_0, kk2, kk0, e16, e19, e39, e42, e44, Y_walk_Prune, ↓EVd, isCall, sevalprocAttr]
         all_goals first | omega | exact lq (by omega) | exact nq (by omega) | rfl | (congr 1; omega)
       refine cwp_lp ho3 (fun (_ : Unit) s => s.T 0 = .loc 12 4 0 0 ∧ s.T 1 = int v25 ∧ s.T 4 = int v40.ino ∧ s.T 18 = nilS ∧ s.T 19 = int 0 ∧ s.T 20 = int 0 ∧ s.H 0 = some (.row 26 1 [encBranch a0]) ∧ s.H 1 = some (.row 26 1 [.agg [nilS]]) ∧ s.H 12 = some (.row 96 4 [.agg [.sl 13 (a0.nodes.map encNode), .msl l26 v27.length, .mp 10, .msl l28 v29.length]]) ∧ s.H 10 = some (.map (v30.map (kI .i64)) (v30.map fun p => .val (.int .i64 p.2))) ∧ s.H l26 = some (.row 52 3 (v27.map encWay)) ∧ s.H l28 = some (.row 68 2 (v29.map encAr2_Int)) ∧ Lq 0 s.nx ∧ Lq 1 s.nx ∧ Lq 12 s.nx ∧ Lq 10 s.nx ∧ Lq l26 s.nx ∧ Lq l28 s.nx ∧ Lq 5 s.nx ∧ Nq 5 l26 ∧ Nq 5 l28 ∧ Nq 0 l26 ∧ Nq 0 l28 ∧ Nq 1 l26 ∧ Nq 1 l28 ∧ Nq 12 l26 ∧ Nq 12 l28 ∧ Nq 10 l26 ∧ Nq 10 l28 ∧ Nq l26 l28) ?_ ?_
       · refine TI.here ⟨?_, ?_, ?_, ?_, ?_, ?_, ?_, ?_, ?_, ?_, ?_, ?_, ?_, ?_, ?_, ?_, ?_, ?_, ?_, ?_, ?_, ?_, ?_, ?_, ?_, ?_, ?_, ?_, ?_, ?_⟩
         all_goals try simp only [kk2, kk0, e16, e19, e39, e42, e44, Y_walk_Prune, ↓EVd, isCall, sevalprocAttr]
         all_goals first | omega | exact lq (by omega) | exact nq (by omega) | rfl | (congr 1; omega)
       rintro I3 _ T3 H3 x45 st3 kk3 hm3 hI3 hO3
       dsimp only [Lq, Nq] at kk3
       simp only [m_walk_Prune_b3] at hm3
       have e47 : ((0 : Int) < 0) = False := by decide
       obtain rfl := Option.some.inj hm3
       simp only [kk3, kk2, kk0, e16, e19, e39, e42, e44, e47, Y_walk_Prune, ↓EVd, isCall, sevalprocAttr]
       refine TI.here (hJ3_0 _ ⟨⟨?_, ?_, ?_, ?_, ?_, ?_, ?_, ?_, ?_, ?_, ?_, ?_, ?_, ?_, ?_, ?_, ?_, ?_, ?_, ?_, ?_, ?_, ?_, ?_⟩, hO3 _ rfl⟩)
       all_goals try simp only [kk3, kk2, kk0, e16, e19, e39, e42, e44, e47, Y_walk_Prune, ↓EVd, isCall, sevalprocAttr]
       all_goals first | omega | exact lq (by omega) | exact nq (by omega) | rfl | (congr 1; omega)
     rcases iteE hm2 with ⟨e49, hm2⟩ | ⟨e49, hm2⟩
     · obtain ⟨o4, ho4, hm2⟩ := bsE hm2
       simp only [kk2, kk0, e16, e19, e39, e42, e44, e49, Y_walk_Prune, ↓EVd, isCall, sevalprocAttr]
       refine cwp_cx 0 (fun s => (s.H 0 = some (.row 26 1 [encBranch a0]) ∧ s.H 1 = some (.row 26 1 [.agg [nilS]]) ∧ s.H 12 = some (.row 96 4 [.agg [.sl 13 (a0.nodes.map encNode), .msl l26 v27.length, .mp 10, .msl l28 v29.length]]) ∧ s.H l26 = some (.row 52 3 (v27.map encWay)) ∧ s.H 10 = some (.map (v30.map (kI .i64)) (v30.map fun p => .val (.int .i64 p.2))) ∧ s.H l28 = some (.row 68 2 (v29.map encAr2_Int)) ∧ Lq 0 s.nx ∧ Lq 1 s.nx ∧ Lq 12 s.nx ∧ Lq l26 s.nx ∧ Lq 10 s.nx ∧ Lq l28 s.nx ∧ Lq 5 s.nx ∧ Nq 5 l26 ∧ Nq 5 l28 ∧ Nq 0 l26 ∧ Nq 0 l28 ∧ Nq 1 l26 ∧ Nq 1 l28 ∧ Nq 12 l26 ∧ Nq 12 l28 ∧ Nq l26 10 ∧ Nq l26 l28 ∧ Nq 10 l28) ∧ () = o4) ?_ fun J4_0 hJ4_0 => ?_
       · rintro T4 H4 x51 ⟨kk4_0, rfl⟩
         dsimp only [Lq, Nq] at kk4_0
         try dsimp only at hm2
         obtain rfl := Option.some.inj hm2
         simp only [kk4_0, kk2, kk0, e16, e19, e39, e42, e44, e49, Y_walk_Prune, ↓EVd, isCall, sevalprocAttr]
         refine TI.here (hI2 _ rfl _ ⟨l26, l28, ?_, ?_, ?_, ?_, ?_, ?_, ?_, ?_, ?_, ?_, ?_, ?_, ?_, ?_, ?_, ?_, ?_, ?_, ?_, ?_, ?_, ?_, ?_, ?_, ?_, ?_, ?_, ?_, ?_⟩)
         all_goals try simp only [kk4_0, kk2, kk0, e16, e19, e39, e42, e44, e49, Y_walk_Prune, ↓EVd, isCall, sevalprocAttr]
         all_goals first | omega | exact lq (by omega) | exact nq (by omega) | rfl | (congr 1; omega)
       refine cwp_lp ho4 (fun (_ : Unit) s => s.T 0 = .loc 12 4 0 0 ∧ s.T 1 = int v25 ∧ s.T 4 = int v40.ino ∧ s.T 18 = nilS ∧ s.T 19 = int 0 ∧ s.T 20 = int 0 ∧ s.H 0 = some (.row 26 1 [encBranch a0]) ∧ s.H 1 = some (.row 26 1 [.agg [nilS]]) ∧ s.H 12 = some (.row 96 4 [.agg [.sl 13 (a0.nodes.map encNode), .msl l26 v27.length, .mp 10, .msl l28 v29.length]]) ∧ s.H 10 = some (.map (v30.map (kI .i64)) (v30.map fun p => .val (.int .i64 p.2))) ∧ s.H l26 = some (.row 52 3 (v27.map encWay)) ∧ s.H l28 = some (.row 68 2 (v29.map encAr2_Int)) ∧ Lq 0 s.nx ∧ Lq 1 s.nx ∧ Lq 12 s.nx ∧ Lq 10 s.nx ∧ Lq l26 s.nx ∧ Lq l28 s.nx ∧ Lq 5 s.nx ∧ Nq 5 l26 ∧ Nq 5 l28 ∧ Nq 0 l26 ∧ Nq 0 l28 ∧ Nq 1 l26 ∧ Nq 1 l28 ∧ Nq 12 l26 ∧ Nq 12 l28 ∧ Nq 10 l26 ∧ Nq 10 l28 ∧ Nq l26 l28) ?_ ?_
       · refine TI.here ⟨?_, ?_, ?_, ?_, ?_, ?_, ?_, ?_, ?_, ?_, ?_, ?_, ?_, ?_, ?_, ?_, ?_, ?_, ?_, ?_, ?_, ?_, ?_, ?_, ?_, ?_, ?_, ?_, ?_, ?_⟩
         all_goals try simp only [kk2, kk0, e16, e19, e39, e42, e44, e49, Y_walk_Prune, ↓EVd, isCall, sevalprocAttr]
         all_goals first | omega | exact lq (by omega) | exact nq (by omega) | rfl | (congr 1; omega)
       rintro I4 _ T4 H4 x50 st4 kk4 hm3 hI4 hO4
       dsimp only [Lq, Nq] at kk4
       simp only [m_walk_Prune_b4] at hm3
       have e52 : ((0 : Int) < 0) = False := by decide
       obtain rfl := Option.some.inj hm3
       simp only [kk4, kk2, kk0, e16, e19, e39, e42, e44, e49, e52, Y_walk_Prune, ↓EVd, isCall, sevalprocAttr]
       refine TI.here (hJ4_0 _ ⟨⟨?_, ?_, ?_, ?_, ?_, ?_, ?_, ?_, ?_, ?_, ?_, ?_, ?_, ?_, ?_, ?_, ?_, ?_, ?_, ?_, ?_, ?_, ?_, ?_⟩, hO4 _ rfl⟩)
       all_goals try simp only [kk4, kk2, kk0, e16, e19, e39, e42, e44, e49, e52, Y_walk_Prune, ↓EVd, isCall, sevalprocAttr]
       all_goals first | omega | exact lq (by omega) | exact nq (by omega) | rfl | (congr 1; omega)
     obtain ⟨v53, e55, hm2⟩ := ixE encNode hm2
     obtain ⟨o5, ho5, hm2⟩ := bsE hm2
     simp only [kk2, kk0, e16, e19, e39, e42, e44, e49, e55, Y_walk_Prune, ↓EVd, isCall, sevalprocAttr]
     refine cwp_cx 0 (fun s => ∃ v65 : List Way, ∃ v66 : List (Int × Int), ∃ v68 : List Ar2_Int, ∃ l64 : Nat, ∃ l67 : Nat, (s.H 0 = some (.row 26 1 [encBranch a0]) ∧ s.H 1 = some (.row 26 1 [.agg [nilS]]) ∧ s.H 12 = some (.row 96 4 [.agg [.sl 13 (a0.nodes.map encNode), .msl l64 v65.length, .mp 10, .msl l67 v68.length]]) ∧ s.H l64 = some (.row 52 3 (v65.map encWay)) ∧ s.H 10 = some (.map (v66.map (kI .i64)) (v66.map fun p => .val (.int .i64 p.2))) ∧ s.H l67 = some (.row 68 2 (v68.map encAr2_Int)) ∧ Lq 0 s.nx ∧ Lq 1 s.nx ∧ Lq 12 s.nx ∧ Lq l64 s.nx ∧ Lq 10 s.nx ∧ Lq l67 s.nx ∧ Lq 5 s.nx ∧ Nq 5 l64 ∧ Nq 5 l67 ∧ Nq 0 l64 ∧ Nq 0 l67 ∧ Nq 1 l64 ∧ Nq 1 l67 ∧ Nq 12 l64 ∧ Nq 12 l67 ∧ Nq l64 10 ∧ Nq l64 l67 ∧ Nq 10 l67) ∧ (v65, v66, v68) = o5) ?_ fun J5_0 hJ5_0 => ?_
     · rintro T5 H5 x63 ⟨v65, v66, v68, l64, l67, kk5_0, rfl⟩
       dsimp only [Lq, Nq] at kk5_0
       try dsimp only at hm2
       obtain rfl := Option.some.inj hm2
       simp only [kk5_0, kk2, kk0, e16, e19, e39, e42, e44, e49, e55, Y_walk_Prune, ↓EVd, isCall, sevalprocAttr]
       refine TI.here (hI2 _ rfl _ ⟨l64, l67, ?_, ?_, ?_, ?_, ?_, ?_, ?_, ?_, ?_, ?_, ?_, ?_, ?_, ?_, ?_, ?_, ?_, ?_, ?_, ?_, ?_, ?_, ?_, ?_, ?_, ?_, ?_, ?_, ?_⟩)
       all_goals try simp only [kk5_0, kk2, kk0, e16, e19, e39, e42, e44, e49, e55, Y_walk_Prune, ↓EVd, isCall, sevalprocAttr]
       all_goals first | omega | exact lq (by omega) | exact nq (by omega) | rfl | (congr 1; omega)
     refine cwp_lp ho5 (fun (v57, v59, v61, v62) s => ∃ l58 : Nat, ∃ l60 : Nat, s.T 0 = .loc 12 4 0 0 ∧ s.T 1 = int v25 ∧ s.T 4 = int v40.ino ∧ s.T 18 = .sl 3 (v53.entries.map encEntry) ∧ s.T 19 = int (v53.entries.length : Int) ∧ s.T 20 = int v57 ∧ s.H 0 = some (.row 26 1 [encBranch a0]) ∧ s.H 1 = some (.row 26 1 [.agg [nilS]]) ∧ s.H 12 = some (.row 96 4 [.agg [.sl 13 (a0.nodes.map encNode), .msl l58 v59.length, .mp 10, .msl l60 v61.length]]) ∧ s.H 10 = some (.map (v62.map (kI .i64)) (v62.map fun p => .val (.int .i64 p.2))) ∧ s.H l58 = some (.row 52 3 (v59.map encWay)) ∧ s.H l60 = some (.row 68 2 (v61.map encAr2_Int)) ∧ Lq 0 s.nx ∧ Lq 1 s.nx ∧ Lq 12 s.nx ∧ Lq 10 s.nx ∧ Lq l58 s.nx ∧ Lq l60 s.nx ∧ Lq 5 s.nx ∧ Nq 5 l58 ∧ Nq 5 l60 ∧ Nq 0 l58 ∧ Nq 0 l60 ∧ Nq 1 l58 ∧ Nq 1 l60 ∧ Nq 12 l58 ∧ Nq 12 l60 ∧ Nq 10 l58 ∧ Nq 10 l60 ∧ Nq l58 l60) ?_ ?_
     · refine TI.here ⟨l26, l28, ?_, ?_, ?_, ?_, ?_, ?_, ?_, ?_, ?_, ?_, ?_, ?_, ?_, ?_, ?_, ?_, ?_, ?_, ?_, ?_, ?_, ?_, ?_, ?_, ?_, ?_, ?_, ?_, ?_, ?_⟩
       all_goals try simp only [kk2, kk0, e16, e19, e39, e42, e44, e49, e55, Y_walk_Prune, ↓EVd, isCall, sevalprocAttr]
       all_goals first | omega | exact lq (by omega) | exact nq (by omega) | rfl | (congr 1; omega)
     rintro I5 ⟨v57, v59, v61, v62⟩ T5 H5 x56 st5 ⟨l58, l60, kk5⟩ hm3 hI5 hO5
     dsimp only [Lq, Nq] at kk5
     simp only [m_walk_Prune_b5] at hm3
     rcases iteE hm3 with ⟨e70, hm3⟩ | ⟨e70, hm3⟩
     · obtain ⟨v71, e73, hm3⟩ := ixE encEntry hm3
       simp only [kk5, kk2, kk0, e16, e19, e39, e42, e44, e49, e55, e70, e73, Y_walk_Prune, ↓EVd, isCall, sevalprocAttr]
       refine S1_call (acallF fc_walk_trail_node (by simp) ?_) rfl
       unfold c_walk_trail_node
       have g143 := And.intro (And.intro (And.intro ((e16)) ((e19))) (And.intro ((e39)) ((e42)))) (And.intro (And.intro ((e44)) ((e49))) (And.intro ((e55)) (And.intro ((e70)) ((e73)))))
       rcases iteE hm3 with ⟨e75, hm3⟩ | ⟨e75, hm3⟩
       · have e76 : ((0 : Int) = 1) = False := by decide
         obtain rfl := Option.some.inj hm3
         simp only [kk5, kk2, kk0, g143, e75, e76, Y_walk_Prune, ↓EVd, isCall, sevalprocAttr]
         refine TI.here (hI5 _ rfl _ ⟨l58, l60, ?_, ?_, ?_, ?_, ?_, ?_, ?_, ?_, ?_, ?_, ?_, ?_, ?_, ?_, ?_, ?_, ?_, ?_, ?_, ?_, ?_, ?_, ?_, ?_, ?_, ?_, ?_, ?_, ?_, ?_⟩)
         all_goals try simp only [kk5, kk2, kk0, g143, e75, e76, Y_walk_Prune, ↓EVd, isCall, sevalprocAttr]
         all_goals first | omega | exact lq (by omega) | exact nq (by omega) | rfl | (congr 1; omega)
       rcases iteE hm3 with ⟨e78, hm3⟩ | ⟨e78, hm3⟩
       · have e79 : ((0 : Int) = 1) = False := by decide
         obtain rfl := Option.some.inj hm3
         simp only [kk5, kk2, kk0, g143, e75, e78, e79, Y_walk_Prune, ↓EVd, isCall, sevalprocAttr]
         refine TI.here (hI5 _ rfl _ ⟨l58, l60, ?_, ?_, ?_, ?_, ?_, ?_, ?_, ?_, ?_, ?_, ?_, ?_, ?_, ?_, ?_, ?_, ?_, ?_, ?_, ?_, ?_, ?_, ?_, ?_, ?_, ?_, ?_, ?_, ?_, ?_⟩)
         all_goals try simp only [kk5, kk2, kk0, g143, e75, e78, e79, Y_walk_Prune, ↓EVd, isCall, sevalprocAttr]
         all_goals first | omega | exact lq (by omega) | exact nq (by omega) | rfl | (congr 1; omega)
       obtain ⟨v80, e82, hm3⟩ := ixE encNode hm3
       rcases iteE hm3 with ⟨e84, hm3⟩ | ⟨e84, hm3⟩
       · have e85 : (.agg [int v71.ino, int v25, str v71.name] : AV) = encWay (⟨v71.ino, v25, v71.name⟩ : Way) := _root_.id rfl
         simp only [kk5, kk2, kk0, g143, e75, e78, e82, e84, e85, Y_walk_Prune, ↓EVd, isCall, sevalprocAttr]
         refine S1_call (acallF fc_walk_trail_come (by simp) ?_) rfl
         unfold c_walk_trail_come
         rcases iteE hm3 with ⟨e87, hm3⟩ | ⟨e87, hm3⟩
         · have e88 : (.agg [int v40.ino, int v71.slot] : AV) = encAr2_Int (⟨v40.ino, v71.slot⟩ : Ar2_Int) := _root_.id rfl
           obtain ⟨e91, hm3⟩ := apE hm3
           try simp only [ZL] at e91
           obtain rfl := Option.some.inj hm3
           simp only [kk5, kk2, kk0, g143, e75, e78, e82, e84, e85, e87, e88, e91, Y_walk_Prune, ↓EVd, isCall, sevalprocAttr]
           refine TI.here (hI5 _ rfl _ ⟨l58, (x56 + 66), ?_, ?_, ?_, ?_, ?_, ?_, ?_, ?_, ?_, ?_, ?_, ?_, ?_, ?_, ?_, ?_, ?_, ?_, ?_, ?_, ?_, ?_, ?_, ?_, ?_, ?_, ?_, ?_, ?_, ?_⟩)
           all_goals try simp only [kk5, kk2, kk0, g143, e75, e78, e82, e84, e85, e87, e88, e91, Y_walk_Prune, ↓EVd, isCall, sevalprocAttr]
           all_goals first | omega | exact lq (by omega) | exact nq (by omega) | rfl | (congr 1; omega)
         obtain ⟨e95, hm3⟩ := apE hm3
         try simp only [ZL] at e95
         obtain rfl := Option.some.inj hm3
         simp only [kk5, kk2, kk0, g143, e75, e78, e82, e84, e85, e87, e95, Y_walk_Prune, ↓EVd, isCall, sevalprocAttr]
         refine TI.here (hI5 _ rfl _ ⟨(x56 + 71), l60, ?_, ?_, ?_, ?_, ?_, ?_, ?_, ?_, ?_, ?_, ?_, ?_, ?_, ?_, ?_, ?_, ?_, ?_, ?_, ?_, ?_, ?_, ?_, ?_, ?_, ?_, ?_, ?_, ?_, ?_⟩)
         all_goals try simp only [kk5, kk2, kk0, g143, e75, e78, e82, e84, e85, e87, e95, Y_walk_Prune, ↓EVd, isCall, sevalprocAttr]
         all_goals first | omega | exact lq (by omega) | exact nq (by omega) | rfl | (congr 1; omega)
       obtain rfl := Option.some.inj hm3
       simp only [kk5, kk2, kk0, g143, e75, e78, e82, e84, Y_walk_Prune, ↓EVd, isCall, sevalprocAttr]
       refine TI.here (hI5 _ rfl _ ⟨l58, l60, ?_, ?_, ?_, ?_, ?_, ?_, ?_, ?_, ?_, ?_, ?_, ?_, ?_, ?_, ?_, ?_, ?_, ?_, ?_, ?_, ?_, ?_, ?_, ?_, ?_, ?_, ?_, ?_, ?_, ?_⟩)
       all_goals try simp only [kk5, kk2, kk0, g143, e75, e78, e82, e84, Y_walk_Prune, ↓EVd, isCall, sevalprocAttr]
       all_goals first | omega | exact lq (by omega) | exact nq (by omega) | rfl | (congr 1; omega)
     obtain rfl := Option.some.inj hm3
     simp only [kk5, kk2, kk0, e16, e19, e39, e42, e44, e49, e55, e70, Y_walk_Prune, ↓EVd, isCall, sevalprocAttr]
     refine TI.here (hJ5_0 _ ⟨v59, v62, v61, l58, l60, ⟨?_, ?_, ?_, ?_, ?_, ?_, ?_, ?_, ?_, ?_, ?_, ?_, ?_, ?_, ?_, ?_, ?_, ?_, ?_, ?_, ?_, ?_, ?_, ?_⟩, hO5 _ rfl⟩)
     all_goals try simp only [kk5, kk2, kk0, e16, e19, e39, e42, e44, e49, e55, e70, Y_walk_Prune, ↓EVd, isCall, sevalprocAttr]
     all_goals first | omega | exact lq (by omega) | exact nq (by omega) | rfl | (congr 1; omega)
   obtain rfl := Option.some.inj hm2
   simp only [kk2, kk0, e16, e19, e39, Y_walk_Prune, ↓EVd, isCall, sevalprocAttr]
   refine TI.here (hJ2_0 _ ⟨v27, v30, v29, v25, l26, l28, ⟨?_, ?_, ?_, ?_, ?_, ?_, ?_, ?_, ?_, ?_, ?_, ?_, ?_, ?_, ?_, ?_, ?_, ?_, ?_, ?_, ?_, ?_, ?_, ?_, ?_, ?_, ?_, ?_, ?_⟩, hO2 _ rfl⟩)
   all_goals try simp only [kk2, kk0, e16, e19, e39, Y_walk_Prune, ↓EVd, isCall, sevalprocAttr]
   all_goals first | omega | exact lq (by omega) | exact nq (by omega) | rfl | (congr 1; omega)
 obtain rfl := Option.some.inj hm1
 simp only [kk0, e16, Y_walk_Prune, ↓EVd, isCall, sevalprocAttr]
 refine TI.here (hJ0_0 _ ⟨v5, v8, v7, l4, l6, ⟨?_, ?_, ?_, ?_, ?_, ?_, ?_, ?_, ?_, ?_, ?_, ?_, ?_, ?_, ?_, ?_, ?_, ?_, ?_, ?_, ?_, ?_, ?_, ?_, ?_⟩, hO0 _ rfl⟩)
 all_goals try simp only [kk0, e16, Y_walk_Prune, ↓EVd, isCall, sevalprocAttr]
 all_goals first | omega | exact lq (by omega) | exact nq (by omega) | rfl | (congr 1; omega)
end Go.Proofs.Ytnmljicimdhpmaa.AL

/- Plain laws, part 2: the program's walk is the document's: as walk_Prune has it. -/
set_option linter.all false
namespace Go.Proofs.Ytnmljicimdhpmaa.AL
open Go Go.Proofs

theorem my_enter_walk_Prune {b : Branch} (hb : PB b) {k : Nat} {t : MS} (h : LI b k t.1) (hm : SM t) (hk : k < t.1.1.length) (w : Way) (hw : w.ino = wIno t.1 k) :
    iter (m_walk_Prune_b5 b (k : Int) w (nodeP b (wIno t.1 k))) big (0, t.1.1, t.1.2, t.2) = some ((wStepM b k t).1.1, (wStepM b k t).2, (wStepM b k t).1.2) ∧ SM (wStepM b k t) := by
  have hlen := nodeP_ents hb (wIno t.1 k)
  have hn := hb.len
  have key := (iter_fold (B := m_walk_Prune_b5 b (k : Int) w (nodeP b (wIno t.1 k))) (fun (i : Nat) (s : MS) => ((i : Int), s.1.1, s.1.2, s.2)) (nodeP b (wIno t.1 k)).entries (eStepM b k (wIno t.1 k)) (fun s => (s.1.1, s.2, s.1.2))
    (fun i u => WI b u.1.1 ∧ u.1.2.length ≤ t.1.2.length + i ∧ SM u) (by
    rintro i u hi ⟨w1, w2, w3⟩
    have htl := w1.len
    have hs2 := h.tw
    have hsl := h.wi.len
    have hat := h.at'
    obtain ⟨a1, a2, a3, a4⟩ := eStep_inv (k := k) (ino := wIno t.1 k) (e := (nodeP b (wIno t.1 k)).entries[i]) w1
    refine ⟨?_, a1, by show (eStep _ _ _ _ _).2.length ≤ _; omega, eStepM_sm w3⟩
    simp only [m_walk_Prune_b5]
    rw [if_pos (by omega), ix_at hi]
    simp only [Option.bind_some]
    generalize (nodeP b (wIno t.1 k)).entries[i] = e
    unfold eStepM eStep
    by_cases h1 : e.ino < 1
    · rw [if_pos h1, nodeP_out (.inl h1), if_neg kind_zero, if_neg (fun h => kind_zero h.1), wr_suc (by omega)]
    · rw [if_neg h1]
      by_cases h2 : (b.nodes.length : Int) < e.ino
      · rw [if_pos h2, nodeP_out (.inr h2), if_neg kind_zero, if_neg (fun h => kind_zero h.1), wr_suc (by omega)]
      · rw [if_neg h2, nodeP_in h1 h2 hn]
        simp only [Option.bind_some]
        by_cases hkd : (nodeP b e.ino).kind = 1
        · rw [if_pos hkd, if_pos hkd]
          have hg := w3 e.ino
          by_cases hs : seenB u.1.1 e.ino = true
          · rw [if_pos (by rw [hg, if_pos hs]; omega), if_pos hs, if_neg (by rw [hs]; simp), ap_of (by simp; omega) (by omega), wr_suc (by omega), hw]
            rfl
          · have hs' : seenB u.1.1 e.ino = false := by simpa using hs
            rw [if_neg (by rw [hg, if_neg hs]; omega), if_neg hs, if_pos ⟨hkd, hs'⟩, ap_of (by simp; omega) (by omega), wr_suc (by omega), hg, if_neg hs, wr_in (by omega) (by omega)]
            rfl
        · rw [if_neg hkd, if_neg hkd, if_neg (fun h => hkd h.1), wr_suc (by omega)]) (by
    rintro u ⟨w1, w2, w3⟩
    simp only [m_walk_Prune_b5]
    rw [if_neg (by omega)]) (s0 := t) ⟨h.wi, by omega, hm⟩ (fuel := big) (by rw [big_eq]; omega))
  exact ⟨key.1, key.2.2.2⟩
theorem my_loop_walk_Prune {b : Branch} (hb : PB b) {k : Nat} {t : MS} (h : LI b k t.1) (hm : SM t) :
    iter (m_walk_Prune_b2 b) (big + 1) ((k : Int), t.1.1, t.1.2, t.2) = some ((wLoopM b k t).2.1.1, (wLoopM b k t).2.2, (wLoopM b k t).2.1.2, ((wLoopM b k t).1 : Int)) ∧ (LI b (wLoopM b k t).1 (wLoopM b k t).2.1 ∧ SM (wLoopM b k t).2) ∧ (wLoopM b k t).1 = (wLoopM b k t).2.1.1.length := by
  have hn := hb.len
  refine iter_wl (B := m_walk_Prune_b2 b) (fun (k : Nat) (t : MS) => ((k : Int), t.1.1, t.1.2, t.2)) (wStepM b) (fun t => t.1.1.length) (fun k t => (t.1.1, t.2, t.1.2, (k : Int))) (fun k t => LI b k t.1 ∧ SM t) 24 (fun k s h => ⟨h.1.at', Nat.le_trans h.1.wi.len hn⟩) ?_ ?_ 25 k t (big + 1) ⟨h, hm⟩ (by omega) (by rw [big_eq]; omega)
  · rintro k t ⟨h, hm⟩ hk
    have hl := h.wi.len
    have he : t.1.1[k].ino = wIno t.1 k := by unfold wIno; rw [List.getElem?_eq_getElem hk]; rfl
    obtain ⟨r1, r2⟩ := nodeP_kind (h.wi.dir _ (List.getElem_mem hk))
    obtain ⟨e1, e2⟩ := my_enter_walk_Prune hb h hm hk t.1.1[k] he
    refine ⟨?_, by rw [wStepM_fst]; exact wStep_inv hb h hk, e2⟩
    simp only [m_walk_Prune_b2]
    rw [if_pos (by omega), ix_at hk]
    simp only [Option.bind_some]
    rw [if_neg (by omega), if_neg (by omega), nodeP_in (by omega) (by omega) hn, he]
    simp only [Option.bind_some]
    rw [e1, wr_suc (by omega)]
    rfl
  · rintro k t ⟨h, hm⟩ hk
    simp only [m_walk_Prune_b2]
    rw [if_neg (by omega)]
theorem my_push_walk_Prune {b : Branch} (hb : PB b) {t : Nat × MS} (h : FI b (t.1, t.2.1)) (hm : SM t.2) (r : Int) :
    m_walk_Prune_p1 b t.2.1.1 t.2.2 r = some (if (nodeP b r).kind = 1 ∧ seenB t.2.1.1 r = false then (t.2.1.1 ++ [⟨r, -1, noBytes⟩], mset t.2.2 r 1) else (t.2.1.1, t.2.2)) := by
  have hn := hb.len
  have hl := h.li.wi.len
  simp only at hl
  unfold m_walk_Prune_p1
  by_cases h1 : r < 1
  · rw [if_pos h1, nodeP_out (.inl h1), if_neg (fun h => kind_zero h.1)]
  · rw [if_neg h1]
    by_cases h2 : (b.nodes.length : Int) < r
    · rw [if_pos h2, nodeP_out (.inr h2), if_neg (fun h => kind_zero h.1)]
    · rw [if_neg h2, nodeP_in h1 h2 hn]
      simp only [Option.bind_some]
      by_cases hk : (nodeP b r).kind = 1
      · rw [if_pos hk]
        have hg := hm r
        by_cases hs : seenB t.2.1.1 r = true
        · rw [if_pos (by rw [hg, if_pos hs]; omega), if_neg (by rw [hs]; simp)]
        · have hs' : seenB t.2.1.1 r = false := by simpa using hs
          rw [if_neg (by rw [hg, if_neg hs]; omega), if_pos ⟨hk, hs'⟩, ap_of (by simp; omega) (by omega), hg, if_neg hs, wr_in (by omega) (by omega)]
          rfl
      · rw [if_neg hk, if_neg (fun h => hk h.1)]
theorem my_walk_walk_Prune {b : Branch} (hb : PB b) {fr : List Int} (hf : fr.length ≤ 1000) : ∃ M, iter (m_walk_Prune_b0 b fr) big (0, 0, [], [], ([] : List (Int × Int))) = some ((walkP b fr).2.1, M, (walkP b fr).2.2) := by
  have hn := hb.len
  have key := iter_fold (B := m_walk_Prune_b0 b fr) (fun (i : Nat) (t : Nat × MS) => ((t.1 : Int), (i : Int), t.2.1.1, t.2.1.2, t.2.2)) fr (fStepM b) (fun t => (t.2.1.1, t.2.2, t.2.1.2)) (fun _ t => FI b (t.1, t.2.1) ∧ SM t.2) (by
    rintro i t hi ⟨h, hm⟩
    have hl := h.li.wi.len
    have hi2 : FI b ((fStepM b t fr[i]).1, (fStepM b t fr[i]).2.1) := by rw [fStepM_fst]; exact fStep_inv hb h _
    simp only [m_walk_Prune_b0]
    rw [if_pos (by omega), ix_at hi]
    simp only [Option.bind_some]
    rw [my_push_walk_Prune hb h hm]
    unfold fStepM at hi2 ⊢
    by_cases hc : (nodeP b fr[i]).kind = 1 ∧ seenB t.2.1.1 fr[i] = false
    · rw [if_pos hc] at hi2
      rw [if_pos hc, if_pos hc]
      have hp := h.li.push (w := ⟨fr[i], -1, noBytes⟩) hc.1 hc.2
      obtain ⟨q1, q2, q3⟩ := my_loop_walk_Prune hb (k := t.1) (t := ((t.2.1.1 ++ [⟨fr[i], -1, noBytes⟩], t.2.1.2), mset t.2.2 fr[i] 1)) hp (hm.push _ hc.2)
      simp only [Option.bind_some]
      simp only at q1
      rw [q1, wr_suc (by omega)]
      exact ⟨rfl, hi2, q2.2⟩
    · rw [if_neg hc] at hi2
      rw [if_neg hc, if_neg hc]
      obtain ⟨q1, q2, q3⟩ := my_loop_walk_Prune hb (k := t.1) (t := t.2) h.li hm
      have hd : wLoopM b t.1 t.2 = (t.1, t.2) := wl_done (by have := h.all; simp only at this; omega)
      rw [hd] at q1
      simp only [Option.bind_some]
      simp only at q1
      rw [q1, wr_suc (by omega)]
      exact ⟨rfl, hi2, hm⟩) (by
    rintro t ⟨h, hm⟩
    simp only [m_walk_Prune_b0]
    rw [if_neg (by omega)]) (s0 := (0, (([], []), []))) ⟨FI.nil b, fun i => by simp [mget, seenB]⟩ (fuel := big) (by rw [big_eq]; omega)
  have hfst : ∀ (l : List Int) (t : Nat × MS), ((l.foldl (fStepM b) t).1, (l.foldl (fStepM b) t).2.1) = l.foldl (fStep b) (t.1, t.2.1) := by
    intro l
    induction l with
    | nil => intro t; rfl
    | cons x l ih => intro t; rw [List.foldl_cons, List.foldl_cons, ih, fStepM_fst]
  have h2 := hfst fr (0, (([], []), []))
  have h3 : (fr.foldl (fStepM b) (0, (([], []), []))).2.1 = (walkP b fr).2 := by
    unfold walkP
    rw [← h2]
  refine ⟨(fr.foldl (fStepM b) (0, (([], []), []))).2.2, ?_⟩
  have h1 := key.1
  rw [← h3]
  exact h1

end Go.Proofs.Ytnmljicimdhpmaa.AL

/- Models of functions, and that the functions are as their models: written by gen.py. -/
set_option linter.all false
set_option maxRecDepth 100000
namespace Go.Proofs.Ytnmljicimdhpmaa.AL
open Go Go.Proofs
def m_ref13_In_b0 (a0 : List Ar2_Int) (a1 : Ar2_Int) : Int → Option (St (Int) ((Unit) ⊕ (Bool)))
 | v2 => if v2 < (a0.length : Int) then (ix a0 v2).bind fun v6 => if (decide (v6 = a1)) = true then some (.out (.inr true))
 else some (.nx (wr (v2 + 1)))
 else some (.out (.inl ()))
def m_ref13_In (a0 : List Ar2_Int) (a1 : Ar2_Int) : Option (Bool) := (iter (m_ref13_In_b0 a0 a1) big 0).bind fun o => (match o with
 | (.inl _) => some false
 | (.inr r) => some r)
def Y_ref13_In := And.intro (And.intro ((@EV)) (And.intro ((@R3)) ((@R67)))) (And.intro (And.intro ((@R68)) ((@DAr2_Int))) (And.intro ((@eq68)) ((@mixed))))
set_option maxHeartbeats 2000000 in
theorem ok_ref13_In (a0 : List Ar2_Int) (a1 : Ar2_Int) (r : Bool) (hm0 : m_ref13_In a0 a1 = some r) : Ok Try.prog 82 [.sl 2 (a0.map encAr2_Int), encAr2_Int a1] (bool r) := by
 unfold m_ref13_In at hm0
 refine okG fc_ref13_In ?_
 unfold c_ref13_In
 obtain ⟨o0, ho0, hm0⟩ := bsE hm0
 simp only [Y_ref13_In, ↓EVd, isCall, sevalprocAttr]
 refine cwp_cx 0 (fun s => (.inl ()) = o0) ?_ fun J0_0 hJ0_0 => ?_
 · rintro T0 H0 x3 rfl
   try dsimp only at hm0
   obtain rfl := Option.some.inj hm0
   simp only [Y_ref13_In, ↓EVd, isCall, sevalprocAttr]
   all_goals first | done | rfl
 refine cwp_lp ho0 (fun v2 s => s.T 0 = .sl 2 (a0.map encAr2_Int) ∧ s.T 3 = .loc 0 2 0 0 ∧ s.T 5 = int v2 ∧ s.H 0 = some (.row 68 2 [encAr2_Int a1]) ∧ Lq 0 s.nx) ?_ ?_
 · refine TI.here ⟨?_, ?_, ?_, ?_, ?_⟩
   all_goals try simp only [Y_ref13_In, ↓EVd, isCall, sevalprocAttr]
   all_goals first | omega | exact lq (by omega) | exact nq (by omega) | rfl | (congr 1; omega)
 rintro I0 v2 T0 H0 x1 st0 kk0 hm1 hI0 hO0
 dsimp only [Lq, Nq] at kk0
 simp only [m_ref13_In_b0] at hm1
 rcases iteE hm1 with ⟨e5, hm1⟩ | ⟨e5, hm1⟩
 · obtain ⟨v6, e8, hm1⟩ := ixE encAr2_Int hm1
   rcases itbE hm1 with ⟨e10, hm1⟩ | ⟨e10, hm1⟩
   · obtain rfl := Option.some.inj hm1
     obtain rfl := hO0 _ rfl
     try dsimp only at hm0
     obtain rfl := Option.some.inj hm0
     simp only [kk0, e5, e8, e10, Y_ref13_In, ↓EVd, isCall, sevalprocAttr]
     all_goals first | done | rfl
   obtain rfl := Option.some.inj hm1
   simp only [kk0, e5, e8, e10, Y_ref13_In, ↓EVd, isCall, sevalprocAttr]
   refine TI.here (hI0 _ rfl _ ⟨?_, ?_, ?_, ?_, ?_⟩)
   all_goals try simp only [kk0, e5, e8, e10, Y_ref13_In, ↓EVd, isCall, sevalprocAttr]
   all_goals first | omega | exact lq (by omega) | exact nq (by omega) | rfl | (congr 1; omega)
 obtain rfl := Option.some.inj hm1
 simp only [kk0, e5, Y_ref13_In, ↓EVd, isCall, sevalprocAttr]
 refine TI.here (hJ0_0 _ (hO0 _ rfl))
def m_ref13_Prune_b1 (v3 : List Ar2_Int) (v6 : Int) (v14 : Node) : (List Entry × Int) → Option (St (List Entry × Int) (List Entry))
 | (v28, v29) => if v29 < (v14.entries.length : Int) then (ix v14.entries v29).bind fun v35 => (m_ref13_In v3 (⟨(wr (v6 + 1)), v35.slot⟩ : Ar2_Int)).bind fun v39 => if (!v39) = true then (ap 32 v28 ([v35] : List Entry)).bind fun _ => some (.nx ((v28 ++ ([v35] : List Entry)), (wr (v29 + 1))))
 else some (.nx (v28, (wr (v29 + 1))))
 else some (.out v28)
def m_ref13_Prune_b0 (a0 : Branch) (v1 : List Bool) (v3 : List Ar2_Int) : (Int × List Node) → Option (St (Int × List Node) (List Node))
 | (v6, v8) => if v6 < (a0.nodes.length : Int) then (ix a0.nodes v6).bind fun v14 => (ix v1 v6).bind fun v17 => if (!v17) = true then (ap 144 v8 ([(⟨0, 0, 0, 0, [], [], (⟨0, 0, noBytes, (⟨0, 0, 0⟩ : Origin), 0⟩ : Attr)⟩ : Node)] : List Node)).bind fun _ => some (.nx ((wr (v6 + 1)), (v8 ++ ([(⟨0, 0, 0, 0, [], [], (⟨0, 0, noBytes, (⟨0, 0, 0⟩ : Origin), 0⟩ : Attr)⟩ : Node)] : List Node))))
 else (iter (m_ref13_Prune_b1 v3 v6 v14) big ([], 0)).bind fun o => (match o with
 | v32 => (ap 144 v8 ([(⟨v14.kind, v14.impure, v14.nlink, v14.gen, v14.data, v32, (⟨v14.attr.has, v14.attr.opaque0, v14.attr.redirect, (⟨v14.attr.origin.layer, v14.attr.origin.ino, v14.attr.origin.gen⟩ : Origin), v14.attr.shown⟩ : Attr)⟩ : Node)] : List Node)).bind fun _ => some (.nx ((wr (v6 + 1)), (v8 ++ ([(⟨v14.kind, v14.impure, v14.nlink, v14.gen, v14.data, v32, (⟨v14.attr.has, v14.attr.opaque0, v14.attr.redirect, (⟨v14.attr.origin.layer, v14.attr.origin.ino, v14.attr.origin.gen⟩ : Origin), v14.attr.shown⟩ : Attr)⟩ : Node)] : List Node)))))
 else some (.out v8)
def m_ref13_Prune (a0 : Branch) (a1 : List Int) : Option (Branch) := (m_ref13_Reach a0 a1).bind fun v1 => (m_ref13_Twice a0 a1).bind fun v3 => (iter (m_ref13_Prune_b0 a0 v1 v3) big (0, [])).bind fun o => (match o with
 | v11 => some (⟨v11⟩ : Branch))
def Y_ref13_Prune := And.intro (And.intro (And.intro (And.intro ((@EV)) ((@R3))) (And.intro ((@R4)) ((@R24)))) (And.intro (And.intro ((@R26)) ((@R40))) (And.intro ((@R46)) (And.intro ((@R54)) ((@R63)))))) (And.intro (And.intro (And.intro ((@R67)) ((@R68))) (And.intro ((@R72)) (And.intro ((@DBranch)) ((@DOrigin))))) (And.intro (And.intro ((@DAttr)) ((@DNode))) (And.intro ((@DEntry)) (And.intro ((@DAr2_Int)) ((@mixed))))))
set_option maxHeartbeats 2000000 in
theorem ok_ref13_Prune (a0 : Branch) (a1 : List Int) (r : Branch) (hm0 : m_ref13_Prune a0 a1 = some r) : Ok Try.prog 48 [encBranch a0, .sl 1 (a1.map int)] (encBranch r) := by
 unfold m_ref13_Prune at hm0
 refine okG fc_ref13_Prune ?_
 unfold c_ref13_Prune
 obtain ⟨v1, h2, hm0⟩ := bsE hm0
 simp only [Y_ref13_Prune, ↓EVd, isCall, sevalprocAttr]
 refine qd (ok_ref13_Reach _ _ _ h2) rfl ?_
 obtain ⟨v3, h4, hm0⟩ := bsE hm0
 simp only [Y_ref13_Prune, ↓EVd, isCall, sevalprocAttr]
 refine qd (ok_ref13_Twice _ _ _ h4) rfl ?_
 obtain ⟨o0, ho0, hm0⟩ := bsE hm0
 simp only [Y_ref13_Prune, ↓EVd, isCall, sevalprocAttr]
 refine cwp_cx 0 (fun s => ∃ v11 : List Node, ∃ l10 : Nat, (s.T 4 = .loc 1 1 0 0 ∧ s.T 7 = .loc 10 1 0 0 ∧ s.H 1 = some (.row 26 1 [.agg [nilS]]) ∧ s.H 10 = some (.row 26 1 [.agg [.msl l10 v11.length]]) ∧ s.H l10 = some (.row 46 13 (v11.map encNode)) ∧ Lq 1 s.nx ∧ Lq 10 s.nx ∧ Lq l10 s.nx ∧ Nq 1 l10 ∧ Nq 10 l10) ∧ v11 = o0) ?_ fun J0_0 hJ0_0 => ?_
 · rintro T0 H0 x9 ⟨v11, l10, kk0_0, rfl⟩
   dsimp only [Lq, Nq] at kk0_0
   try dsimp only at hm0
   obtain rfl := Option.some.inj hm0
   simp only [kk0_0, Y_ref13_Prune, ↓EVd, isCall, sevalprocAttr]
   all_goals first | done | rfl | exact frzR_of 9 (by simp only [kk0_0, FZ, CLO, Y_ref13_Prune, ↓EVd, isCall, sevalprocAttr]) (Sub.agg (Subs.cons (Sub.refl _) (Subs.nil)))
 refine cwp_lp ho0 (fun (v6, v8) s => ∃ l7 : Nat, s.T 2 = .loc 0 1 0 0 ∧ s.T 4 = .loc 1 1 0 0 ∧ s.T 5 = .sl 1 (v1.map bool) ∧ s.T 6 = .sl 2 (v3.map encAr2_Int) ∧ s.T 7 = .loc 10 1 0 0 ∧ s.T 8 = int v6 ∧ s.H 0 = some (.row 26 1 [encBranch a0]) ∧ s.H 1 = some (.row 26 1 [.agg [nilS]]) ∧ s.H 10 = some (.row 26 1 [.agg [.msl l7 v8.length]]) ∧ s.H l7 = some (.row 46 13 (v8.map encNode)) ∧ Lq 0 s.nx ∧ Lq 1 s.nx ∧ Lq 10 s.nx ∧ Lq l7 s.nx ∧ Nq 0 l7 ∧ Nq 1 l7 ∧ Nq 10 l7) ?_ ?_
 · refine TI.by (Tn.adoptC 10 0 26 1 46 13 [nilS] (by simp only [Y_ref13_Prune, ↓EVd, isCall, sevalprocAttr]) rfl) ?_
   refine TI.here ⟨12, ?_, ?_, ?_, ?_, ?_, ?_, ?_, ?_, ?_, ?_, ?_, ?_, ?_, ?_, ?_, ?_, ?_⟩
   all_goals try simp only [Y_ref13_Prune, ↓EVd, isCall, sevalprocAttr]
   all_goals first | omega | exact lq (by omega) | exact nq (by omega) | rfl | (congr 1; omega)
 rintro I0 ⟨v6, v8⟩ T0 H0 x5 st0 ⟨l7, kk0⟩ hm1 hI0 hO0
 dsimp only [Lq, Nq] at kk0
 simp only [m_ref13_Prune_b0] at hm1
 rcases iteE hm1 with ⟨e13, hm1⟩ | ⟨e13, hm1⟩
 · obtain ⟨v14, e16, hm1⟩ := ixE encNode hm1
   obtain ⟨v17, e19, hm1⟩ := ixE bool hm1
   rcases itbE hm1 with ⟨e21, hm1⟩ | ⟨e21, hm1⟩
   · obtain ⟨e24, hm1⟩ := apE hm1
     try simp only [ZL] at e24
     obtain rfl := Option.some.inj hm1
     simp only [kk0, e13, e16, e19, e21, e24, Y_ref13_Prune, ↓EVd, isCall, sevalprocAttr]
     refine TI.by (Tn.row (x5 + 21) 46 13 ((v8 : List Node).map encNode ++ [.agg [int 0, int 0, int 0, int 0, nilS, nilS, int 0, int 0, str noBytes, int 0, int 0, int 0, int 0]]) (((v8 : List Node) ++ [(⟨0, 0, 0, 0, [], [], (⟨0, 0, noBytes, (⟨0, 0, 0⟩ : Origin), 0⟩ : Attr)⟩ : Node)]).map encNode) (by simp only [kk0, e13, e16, e19, e21, e24, Y_ref13_Prune, ↓EVd, isCall, sevalprocAttr]) (Subs.app1 encNode (v8 : List Node) (Sub.agg (.cons (.refl _) (.cons (.refl _) (.cons (.refl _) (.cons (.refl _) (.cons (.nilS _) (.cons (.nilS _) (.refl _)))))))))) ?_
     refine TI.here (hI0 _ rfl _ ⟨(x5 + 21), ?_, ?_, ?_, ?_, ?_, ?_, ?_, ?_, ?_, ?_, ?_, ?_, ?_, ?_, ?_, ?_, ?_⟩)
     all_goals try simp only [kk0, e13, e16, e19, e21, e24, Y_ref13_Prune, ↓EVd, isCall, sevalprocAttr]
     all_goals first | omega | exact lq (by omega) | exact nq (by omega) | rfl | (congr 1; omega)
   obtain ⟨o1, ho1, hm1⟩ := bsE hm1
   simp only [kk0, e13, e16, e19, e21, Y_ref13_Prune, ↓EVd, isCall, sevalprocAttr]
   refine cwp_cx 2 (fun s => ∃ v32 : List Entry, ∃ l31 : Nat, (s.T 2 = .loc 0 1 0 0 ∧ s.T 4 = .loc 1 1 0 0 ∧ s.T 5 = .sl 1 (v1.map bool) ∧ s.T 6 = .sl 2 (v3.map encAr2_Int) ∧ s.T 7 = .loc 10 1 0 0 ∧ s.T 8 = int v6 ∧ s.T 9 = .loc (x5 + 10) 13 0 0 ∧ s.T 10 = .msl l31 v32.length ∧ s.H 0 = some (.row 26 1 [encBranch a0]) ∧ s.H 1 = some (.row 26 1 [.agg [nilS]]) ∧ s.H 10 = some (.row 26 1 [.agg [.msl l7 v8.length]]) ∧ s.H l7 = some (.row 46 13 (v8.map encNode)) ∧ s.H (x5 + 10) = some (.row 46 13 [encNode v14]) ∧ s.H l31 = some (.row 54 3 (v32.map encEntry)) ∧ Lq 0 s.nx ∧ Lq 1 s.nx ∧ Lq 10 s.nx ∧ Lq l7 s.nx ∧ Lq (x5 + 10) s.nx ∧ Lq l31 s.nx ∧ Nq 0 l7 ∧ Nq 0 (x5 + 10) ∧ Nq 0 l31 ∧ Nq 1 l7 ∧ Nq 1 (x5 + 10) ∧ Nq 1 l31 ∧ Nq 10 l7 ∧ Nq 10 (x5 + 10) ∧ Nq 10 l31 ∧ Nq l7 (x5 + 10) ∧ Nq l7 l31 ∧ Nq (x5 + 10) l31) ∧ v32 = o1) ?_ fun J1_0 hJ1_0 => ?_
   · rintro T1 H1 x30 ⟨v32, l31, kk1_0, rfl⟩
     dsimp only [Lq, Nq] at kk1_0
     try dsimp only at hm1
     obtain ⟨e49, hm1⟩ := apE hm1
     try simp only [ZL] at e49
     obtain rfl := Option.some.inj hm1
     simp only [kk1_0, e13, e16, e19, e21, e49, Y_ref13_Prune, ↓EVd, isCall, sevalprocAttr]
     refine TI.by (Tn.rowq (x30 + 7) 46 13 ((v8 : List Node).map encNode) [int v14.kind, int v14.impure, int v14.nlink, int v14.gen, .sl 1 (v14.data.map u8), .msl l31 v32.length, int v14.attr.has, int v14.attr.opaque0, str v14.attr.redirect, int v14.attr.origin.layer, int v14.attr.origin.ino, int v14.attr.origin.gen, int v14.attr.shown] 5 l31 v32.length 54 3 (v32.map encEntry) (by simp only [kk1_0, e13, e16, e19, e21, e49, Y_ref13_Prune, ↓EVd, isCall, sevalprocAttr]) (by simp only [kk1_0, e13, e16, e19, e21, e49, Y_ref13_Prune, ↓EVd, isCall, sevalprocAttr]) rfl (by simp only [kk1_0, e13, e16, e19, e21, e49, Y_ref13_Prune, ↓EVd, isCall, sevalprocAttr]) (by simp only [CLO]) (by simp only [kk1_0, e13, e16, e19, e21, e49, Y_ref13_Prune, ↓EVd, isCall, sevalprocAttr])) ?_
     refine TI.by (Tn.row (x30 + 7) 46 13 ((v8 : List Node).map encNode ++ [.agg [int v14.kind, int v14.impure, int v14.nlink, int v14.gen, .sl 1 (v14.data.map u8), .sl 3 (v32.map encEntry), int v14.attr.has, int v14.attr.opaque0, str v14.attr.redirect, int v14.attr.origin.layer, int v14.attr.origin.ino, int v14.attr.origin.gen, int v14.attr.shown]]) (((v8 : List Node) ++ [(⟨v14.kind, v14.impure, v14.nlink, v14.gen, v14.data, v32, (⟨v14.attr.has, v14.attr.opaque0, v14.attr.redirect, (⟨v14.attr.origin.layer, v14.attr.origin.ino, v14.attr.origin.gen⟩ : Origin), v14.attr.shown⟩ : Attr)⟩ : Node)]).map encNode) (by simp only [kk1_0, e13, e16, e19, e21, e49, Y_ref13_Prune, ↓EVd, isCall, sevalprocAttr]) (Subs.app1 encNode (v8 : List Node) (Sub.agg (.refl _)))) ?_
     refine TI.here (hI0 _ rfl _ ⟨(x30 + 7), ?_, ?_, ?_, ?_, ?_, ?_, ?_, ?_, ?_, ?_, ?_, ?_, ?_, ?_, ?_, ?_, ?_⟩)
     all_goals try simp only [kk1_0, e13, e16, e19, e21, e49, Y_ref13_Prune, ↓EVd, isCall, sevalprocAttr]
     all_goals first | omega | exact lq (by omega) | exact nq (by omega) | rfl | (congr 1; omega)
   refine cwp_lp ho1 (fun (v28, v29) s => ∃ l27 : Nat, s.T 2 = .loc 0 1 0 0 ∧ s.T 4 = .loc 1 1 0 0 ∧ s.T 5 = .sl 1 (v1.map bool) ∧ s.T 6 = .sl 2 (v3.map encAr2_Int) ∧ s.T 7 = .loc 10 1 0 0 ∧ s.T 8 = int v6 ∧ s.T 9 = .loc (x5 + 10) 13 0 0 ∧ s.T 10 = .msl l27 v28.length ∧ s.T 11 = int v29 ∧ s.H 0 = some (.row 26 1 [encBranch a0]) ∧ s.H 1 = some (.row 26 1 [.agg [nilS]]) ∧ s.H 10 = some (.row 26 1 [.agg [.msl l7 v8.length]]) ∧ s.H l7 = some (.row 46 13 (v8.map encNode)) ∧ s.H (x5 + 10) = some (.row 46 13 [encNode v14]) ∧ s.H l27 = some (.row 54 3 (v28.map encEntry)) ∧ Lq 0 s.nx ∧ Lq 1 s.nx ∧ Lq 10 s.nx ∧ Lq l7 s.nx ∧ Lq (x5 + 10) s.nx ∧ Lq l27 s.nx ∧ Nq 0 l7 ∧ Nq 0 (x5 + 10) ∧ Nq 0 l27 ∧ Nq 1 l7 ∧ Nq 1 (x5 + 10) ∧ Nq 1 l27 ∧ Nq 10 l7 ∧ Nq 10 (x5 + 10) ∧ Nq 10 l27 ∧ Nq l7 (x5 + 10) ∧ Nq l7 l27 ∧ Nq (x5 + 10) l27) ?_ ?_
   · refine TI.by (Tn.adopt 10 54 3 (by simp only [kk0, e13, e16, e19, e21, Y_ref13_Prune, ↓EVd, isCall, sevalprocAttr])) ?_
     refine TI.here ⟨(x5 + 19), ?_, ?_, ?_, ?_, ?_, ?_, ?_, ?_, ?_, ?_, ?_, ?_, ?_, ?_, ?_, ?_, ?_, ?_, ?_, ?_, ?_, ?_, ?_, ?_, ?_, ?_, ?_, ?_, ?_, ?_, ?_, ?_, ?_⟩
     all_goals try simp only [kk0, e13, e16, e19, e21, Y_ref13_Prune, ↓EVd, isCall, sevalprocAttr]
     all_goals first | omega | exact lq (by omega) | exact nq (by omega) | rfl | (congr 1; omega)
   rintro I1 ⟨v28, v29⟩ T1 H1 x26 st1 ⟨l27, kk1⟩ hm2 hI1 hO1
   dsimp only [Lq, Nq] at kk1
   simp only [m_ref13_Prune_b1] at hm2
   rcases iteE hm2 with ⟨e34, hm2⟩ | ⟨e34, hm2⟩
   · obtain ⟨v35, e37, hm2⟩ := ixE encEntry hm2
     have e38 : (.agg [int (wr (v6 + 1)), int v35.slot] : AV) = encAr2_Int (⟨(wr (v6 + 1)), v35.slot⟩ : Ar2_Int) := _root_.id rfl
     obtain ⟨v39, h40, hm2⟩ := bsE hm2
     simp only [kk1, e13, e16, e19, e21, e34, e37, e38, Y_ref13_Prune, ↓EVd, isCall, sevalprocAttr]
     refine qc (ok_ref13_In _ _ _ h40) rfl ?_
     rcases itbE hm2 with ⟨e42, hm2⟩ | ⟨e42, hm2⟩
     · obtain ⟨e45, hm2⟩ := apE hm2
       try simp only [ZL] at e45
       obtain rfl := Option.some.inj hm2
       simp only [kk1, e13, e16, e19, e21, e34, e37, e38, e42, e45, Y_ref13_Prune, ↓EVd, isCall, sevalprocAttr]
       refine TI.here (hI1 _ rfl _ ⟨(x26 + 24), ?_, ?_, ?_, ?_, ?_, ?_, ?_, ?_, ?_, ?_, ?_, ?_, ?_, ?_, ?_, ?_, ?_, ?_, ?_, ?_, ?_, ?_, ?_, ?_, ?_, ?_, ?_, ?_, ?_, ?_, ?_, ?_, ?_⟩)
       all_goals try simp only [kk1, e13, e16, e19, e21, e34, e37, e38, e42, e45, Y_ref13_Prune, ↓EVd, isCall, sevalprocAttr]
       all_goals first | omega | exact lq (by omega) | exact nq (by omega) | rfl | (congr 1; omega)
     obtain rfl := Option.some.inj hm2
     simp only [kk1, e13, e16, e19, e21, e34, e37, e38, e42, Y_ref13_Prune, ↓EVd, isCall, sevalprocAttr]
     refine TI.here (hI1 _ rfl _ ⟨l27, ?_, ?_, ?_, ?_, ?_, ?_, ?_, ?_, ?_, ?_, ?_, ?_, ?_, ?_, ?_, ?_, ?_, ?_, ?_, ?_, ?_, ?_, ?_, ?_, ?_, ?_, ?_, ?_, ?_, ?_, ?_, ?_, ?_⟩)
     all_goals try simp only [kk1, e13, e16, e19, e21, e34, e37, e38, e42, Y_ref13_Prune, ↓EVd, isCall, sevalprocAttr]
     all_goals first | omega | exact lq (by omega) | exact nq (by omega) | rfl | (congr 1; omega)
   obtain rfl := Option.some.inj hm2
   simp only [kk1, e13, e16, e19, e21, e34, Y_ref13_Prune, ↓EVd, isCall, sevalprocAttr]
   refine TI.here (hJ1_0 _ ⟨v28, l27, ⟨?_, ?_, ?_, ?_, ?_, ?_, ?_, ?_, ?_, ?_, ?_, ?_, ?_, ?_, ?_, ?_, ?_, ?_, ?_, ?_, ?_, ?_, ?_, ?_, ?_, ?_, ?_, ?_, ?_, ?_, ?_, ?_⟩, hO1 _ rfl⟩)
   all_goals try simp only [kk1, e13, e16, e19, e21, e34, Y_ref13_Prune, ↓EVd, isCall, sevalprocAttr]
   all_goals first | omega | exact lq (by omega) | exact nq (by omega) | rfl | (congr 1; omega)
 obtain rfl := Option.some.inj hm1
 simp only [kk0, e13, Y_ref13_Prune, ↓EVd, isCall, sevalprocAttr]
 refine TI.here (hJ0_0 _ ⟨v8, l7, ⟨?_, ?_, ?_, ?_, ?_, ?_, ?_, ?_, ?_, ?_⟩, hO0 _ rfl⟩)
 all_goals try simp only [kk0, e13, Y_ref13_Prune, ↓EVd, isCall, sevalprocAttr]
 all_goals first | omega | exact lq (by omega) | exact nq (by omega) | rfl | (congr 1; omega)
def m_ref01_Same_b0 (a0 : List UInt8) (a1 : List UInt8) : Int → Option (St (Int) ((Unit) ⊕ (Bool)))
 | v4 => if v4 < (a0.length : Int) then (ix a0 v4).bind fun v8 => (ix a1 v4).bind fun v11 => if (v8.toNat : Int) = (v11.toNat : Int) then some (.nx (wr (v4 + 1)))
 else some (.out (.inr false))
 else some (.out (.inl ()))
def m_ref01_Same (a0 : List UInt8) (a1 : List UInt8) : Option (Bool) := if (a0.length : Int) = (a1.length : Int) then (iter (m_ref01_Same_b0 a0 a1) big 0).bind fun o => (match o with
 | (.inl _) => some true
 | (.inr r) => some r)
 else some false
def Y_ref01_Same := And.intro (And.intro ((@EV)) ((@R3))) (And.intro ((@R5)) (And.intro ((@R39)) ((@mixed))))
set_option maxHeartbeats 2000000 in
theorem ok_ref01_Same (a0 : List UInt8) (a1 : List UInt8) (r : Bool) (hm0 : m_ref01_Same a0 a1 = some r) : Ok Try.prog 103 [.sl 1 (a0.map u8), .sl 1 (a1.map u8)] (bool r) := by
 unfold m_ref01_Same at hm0
 refine okG fc_ref01_Same ?_
 unfold c_ref01_Same
 rcases iteE hm0 with ⟨e2, hm0⟩ | ⟨e2, hm0⟩
 · obtain ⟨o0, ho0, hm0⟩ := bsE hm0
   simp only [e2, Y_ref01_Same, ↓EVd, isCall, sevalprocAttr]
   refine cwp_cx 0 (fun s => (.inl ()) = o0) ?_ fun J0_0 hJ0_0 => ?_
   · rintro T0 H0 x5 rfl
     try dsimp only at hm0
     obtain rfl := Option.some.inj hm0
     simp only [e2, Y_ref01_Same, ↓EVd, isCall, sevalprocAttr]
     all_goals first | done | rfl
   refine cwp_lp ho0 (fun v4 s => s.T 0 = .sl 1 (a0.map u8) ∧ s.T 1 = .sl 1 (a1.map u8) ∧ s.T 5 = int v4) ?_ ?_
   · refine TI.here ⟨?_, ?_, ?_⟩
     all_goals try simp only [e2, Y_ref01_Same, ↓EVd, isCall, sevalprocAttr]
     all_goals first | omega | exact lq (by omega) | exact nq (by omega) | rfl | (congr 1; omega)
   rintro I0 v4 T0 H0 x3 st0 kk0 hm1 hI0 hO0
   dsimp only [Lq, Nq] at kk0
   simp only [m_ref01_Same_b0] at hm1
   rcases iteE hm1 with ⟨e7, hm1⟩ | ⟨e7, hm1⟩
   · obtain ⟨v8, e10, hm1⟩ := ixE u8 hm1
     obtain ⟨v11, e13, hm1⟩ := ixE u8 hm1
     rcases iteE hm1 with ⟨e15, hm1⟩ | ⟨e15, hm1⟩
     · obtain rfl := Option.some.inj hm1
       simp only [kk0, e2, e7, e10, e13, e15, Y_ref01_Same, ↓EVd, isCall, sevalprocAttr]
       refine TI.here (hI0 _ rfl _ ⟨?_, ?_, ?_⟩)
       all_goals try simp only [kk0, e2, e7, e10, e13, e15, Y_ref01_Same, ↓EVd, isCall, sevalprocAttr]
       all_goals first | omega | exact lq (by omega) | exact nq (by omega) | rfl | (congr 1; omega)
     obtain rfl := Option.some.inj hm1
     obtain rfl := hO0 _ rfl
     try dsimp only at hm0
     obtain rfl := Option.some.inj hm0
     simp only [kk0, e2, e7, e10, e13, e15, Y_ref01_Same, ↓EVd, isCall, sevalprocAttr]
     all_goals first | done | rfl
   obtain rfl := Option.some.inj hm1
   simp only [kk0, e2, e7, Y_ref01_Same, ↓EVd, isCall, sevalprocAttr]
   refine TI.here (hJ0_0 _ (hO0 _ rfl))
 obtain rfl := Option.some.inj hm0
 simp only [e2, Y_ref01_Same, ↓EVd, isCall, sevalprocAttr]
 all_goals first | done | rfl
def m_ref08_Same_b0 (a0 : List Entry) (a1 : List Entry) : Int → Option (St (Int) ((Unit) ⊕ (Bool)))
 | v4 => if v4 < (a0.length : Int) then (ix a0 v4).bind fun v8 => (ix a1 v4).bind fun v11 => if (decide (v8 = v11)) = true then some (.nx (wr (v4 + 1)))
 else some (.out (.inr false))
 else some (.out (.inl ()))
def m_ref08_Same (a0 : List Entry) (a1 : List Entry) : Option (Bool) := if (a0.length : Int) = (a1.length : Int) then (iter (m_ref08_Same_b0 a0 a1) big 0).bind fun o => (match o with
 | (.inl _) => some true
 | (.inr r) => some r)
 else some false
def Y_ref08_Same := And.intro (And.intro ((@EV)) (And.intro ((@R3)) ((@R40)))) (And.intro (And.intro ((@R54)) ((@DEntry))) (And.intro ((@eq54)) ((@mixed))))
set_option maxHeartbeats 2000000 in
theorem ok_ref08_Same (a0 : List Entry) (a1 : List Entry) (r : Bool) (hm0 : m_ref08_Same a0 a1 = some r) : Ok Try.prog 104 [.sl 3 (a0.map encEntry), .sl 3 (a1.map encEntry)] (bool r) := by
 unfold m_ref08_Same at hm0
 refine okG fc_ref08_Same ?_
 unfold c_ref08_Same
 rcases iteE hm0 with ⟨e2, hm0⟩ | ⟨e2, hm0⟩
 · obtain ⟨o0, ho0, hm0⟩ := bsE hm0
   simp only [e2, Y_ref08_Same, ↓EVd, isCall, sevalprocAttr]
   refine cwp_cx 0 (fun s => (.inl ()) = o0) ?_ fun J0_0 hJ0_0 => ?_
   · rintro T0 H0 x5 rfl
     try dsimp only at hm0
     obtain rfl := Option.some.inj hm0
     simp only [e2, Y_ref08_Same, ↓EVd, isCall, sevalprocAttr]
     all_goals first | done | rfl
   refine cwp_lp ho0 (fun v4 s => s.T 0 = .sl 3 (a0.map encEntry) ∧ s.T 1 = .sl 3 (a1.map encEntry) ∧ s.T 5 = int v4) ?_ ?_
   · refine TI.here ⟨?_, ?_, ?_⟩
     all_goals try simp only [e2, Y_ref08_Same, ↓EVd, isCall, sevalprocAttr]
     all_goals first | omega | exact lq (by omega) | exact nq (by omega) | rfl | (congr 1; omega)
   rintro I0 v4 T0 H0 x3 st0 kk0 hm1 hI0 hO0
   dsimp only [Lq, Nq] at kk0
   simp only [m_ref08_Same_b0] at hm1
   rcases iteE hm1 with ⟨e7, hm1⟩ | ⟨e7, hm1⟩
   · obtain ⟨v8, e10, hm1⟩ := ixE encEntry hm1
     obtain ⟨v11, e13, hm1⟩ := ixE encEntry hm1
     rcases itbE hm1 with ⟨e15, hm1⟩ | ⟨e15, hm1⟩
     · obtain rfl := Option.some.inj hm1
       simp only [kk0, e2, e7, e10, e13, e15, Y_ref08_Same, ↓EVd, isCall, sevalprocAttr]
       refine TI.here (hI0 _ rfl _ ⟨?_, ?_, ?_⟩)
       all_goals try simp only [kk0, e2, e7, e10, e13, e15, Y_ref08_Same, ↓EVd, isCall, sevalprocAttr]
       all_goals first | omega | exact lq (by omega) | exact nq (by omega) | rfl | (congr 1; omega)
     obtain rfl := Option.some.inj hm1
     obtain rfl := hO0 _ rfl
     try dsimp only at hm0
     obtain rfl := Option.some.inj hm0
     simp only [kk0, e2, e7, e10, e13, e15, Y_ref08_Same, ↓EVd, isCall, sevalprocAttr]
     all_goals first | done | rfl
   obtain rfl := Option.some.inj hm1
   simp only [kk0, e2, e7, Y_ref08_Same, ↓EVd, isCall, sevalprocAttr]
   refine TI.here (hJ0_0 _ (hO0 _ rfl))
 obtain rfl := Option.some.inj hm0
 simp only [e2, Y_ref08_Same, ↓EVd, isCall, sevalprocAttr]
 all_goals first | done | rfl
def m_ref12_SameNode (a0 : Node) (a1 : Node) : Option (Bool) := if a0.kind = a1.kind then if a0.impure = a1.impure then if a0.nlink = a1.nlink then if a0.gen = a1.gen then if (decide (a0.attr = a1.attr)) = true then (m_ref01_Same a0.data a1.data).bind fun v11 => if v11 = true then (m_ref08_Same a0.entries a1.entries).bind fun v15 => some v15
 else some false
 else some false
 else some false
 else some false
 else some false
 else some false
def Y_ref12_SameNode := And.intro (And.intro (And.intro ((@EV)) (And.intro ((@R3)) ((@R5)))) (And.intro ((@R39)) (And.intro ((@R40)) ((@R44))))) (And.intro (And.intro ((@R46)) (And.intro ((@R54)) ((@DOrigin)))) (And.intro (And.intro ((@DAttr)) ((@DNode))) (And.intro ((@DEntry)) ((@eq44)))))
set_option maxHeartbeats 2000000 in
theorem ok_ref12_SameNode (a0 : Node) (a1 : Node) (r : Bool) (hm0 : m_ref12_SameNode a0 a1 = some r) : Ok Try.prog 81 [encNode a0, encNode a1] (bool r) := by
 unfold m_ref12_SameNode at hm0
 refine okG fc_ref12_SameNode ?_
 unfold c_ref12_SameNode
 rcases iteE hm0 with ⟨e2, hm0⟩ | ⟨e2, hm0⟩
 · rcases iteE hm0 with ⟨e4, hm0⟩ | ⟨e4, hm0⟩
   · rcases iteE hm0 with ⟨e6, hm0⟩ | ⟨e6, hm0⟩
     · rcases iteE hm0 with ⟨e8, hm0⟩ | ⟨e8, hm0⟩
       · rcases itbE hm0 with ⟨e10, hm0⟩ | ⟨e10, hm0⟩
         · obtain ⟨v11, h12, hm0⟩ := bsE hm0
           simp only [e2, e4, e6, e8, e10, Y_ref12_SameNode, ↓EVd, isCall, sevalprocAttr]
           refine qc (ok_ref01_Same _ _ _ h12) rfl ?_
           rcases itbE hm0 with ⟨e14, hm0⟩ | ⟨e14, hm0⟩
           · obtain ⟨v15, h16, hm0⟩ := bsE hm0
             simp only [e2, e4, e6, e8, e10, e14, Y_ref12_SameNode, ↓EVd, isCall, sevalprocAttr]
             refine qc (ok_ref08_Same _ _ _ h16) rfl ?_
             obtain rfl := Option.some.inj hm0
             simp only [e2, e4, e6, e8, e10, e14, Y_ref12_SameNode, ↓EVd, isCall, sevalprocAttr]
             all_goals first | done | rfl
           obtain rfl := Option.some.inj hm0
           simp only [e2, e4, e6, e8, e10, e14, Y_ref12_SameNode, ↓EVd, isCall, sevalprocAttr]
           all_goals first | done | rfl
         obtain rfl := Option.some.inj hm0
         simp only [e2, e4, e6, e8, e10, Y_ref12_SameNode, ↓EVd, isCall, sevalprocAttr]
         all_goals first | done | rfl
       obtain rfl := Option.some.inj hm0
       simp only [e2, e4, e6, e8, Y_ref12_SameNode, ↓EVd, isCall, sevalprocAttr]
       all_goals first | done | rfl
     obtain rfl := Option.some.inj hm0
     simp only [e2, e4, e6, Y_ref12_SameNode, ↓EVd, isCall, sevalprocAttr]
     all_goals first | done | rfl
   obtain rfl := Option.some.inj hm0
   simp only [e2, e4, Y_ref12_SameNode, ↓EVd, isCall, sevalprocAttr]
   all_goals first | done | rfl
 obtain rfl := Option.some.inj hm0
 simp only [e2, Y_ref12_SameNode, ↓EVd, isCall, sevalprocAttr]
 all_goals first | done | rfl
def m_ref12_Same_b0 (a0 : Branch) (a1 : Branch) : Int → Option (St (Int) ((Unit) ⊕ (Bool)))
 | v4 => if v4 < (a0.nodes.length : Int) then (ix a0.nodes v4).bind fun v8 => (ix a1.nodes v4).bind fun v11 => (m_ref12_SameNode v8 v11).bind fun v14 => if (!v14) = true then some (.out (.inr false))
 else some (.nx (wr (v4 + 1)))
 else some (.out (.inl ()))
def m_ref12_Same (a0 : Branch) (a1 : Branch) : Option (Bool) := if (a0.nodes.length : Int) = (a1.nodes.length : Int) then (iter (m_ref12_Same_b0 a0 a1) big 0).bind fun o => (match o with
 | (.inl _) => some true
 | (.inr r) => some r)
 else some false
def Y_ref12_Same := And.intro (And.intro (And.intro ((@EV)) ((@R3))) (And.intro ((@R24)) (And.intro ((@R26)) ((@R46))))) (And.intro (And.intro ((@DBranch)) (And.intro ((@DOrigin)) ((@DAttr)))) (And.intro ((@DNode)) (And.intro ((@DEntry)) ((@mixed)))))
set_option maxHeartbeats 2000000 in
theorem ok_ref12_Same (a0 : Branch) (a1 : Branch) (r : Bool) (hm0 : m_ref12_Same a0 a1 = some r) : Ok Try.prog 47 [encBranch a0, encBranch a1] (bool r) := by
 unfold m_ref12_Same at hm0
 refine okG fc_ref12_Same ?_
 unfold c_ref12_Same
 rcases iteE hm0 with ⟨e2, hm0⟩ | ⟨e2, hm0⟩
 · obtain ⟨o0, ho0, hm0⟩ := bsE hm0
   simp only [e2, Y_ref12_Same, ↓EVd, isCall, sevalprocAttr]
   refine cwp_cx 0 (fun s => (.inl ()) = o0) ?_ fun J0_0 hJ0_0 => ?_
   · rintro T0 H0 x5 rfl
     try dsimp only at hm0
     obtain rfl := Option.some.inj hm0
     simp only [e2, Y_ref12_Same, ↓EVd, isCall, sevalprocAttr]
     all_goals first | done | rfl
   refine cwp_lp ho0 (fun v4 s => s.T 2 = .loc 0 1 0 0 ∧ s.T 3 = .loc 1 1 0 0 ∧ s.T 5 = int v4 ∧ s.H 0 = some (.row 26 1 [encBranch a0]) ∧ s.H 1 = some (.row 26 1 [encBranch a1]) ∧ Lq 0 s.nx ∧ Lq 1 s.nx) ?_ ?_
   · refine TI.here ⟨?_, ?_, ?_, ?_, ?_, ?_, ?_⟩
     all_goals try simp only [e2, Y_ref12_Same, ↓EVd, isCall, sevalprocAttr]
     all_goals first | omega | exact lq (by omega) | exact nq (by omega) | rfl | (congr 1; omega)
   rintro I0 v4 T0 H0 x3 st0 kk0 hm1 hI0 hO0
   dsimp only [Lq, Nq] at kk0
   simp only [m_ref12_Same_b0] at hm1
   rcases iteE hm1 with ⟨e7, hm1⟩ | ⟨e7, hm1⟩
   · obtain ⟨v8, e10, hm1⟩ := ixE encNode hm1
     obtain ⟨v11, e13, hm1⟩ := ixE encNode hm1
     obtain ⟨v14, h15, hm1⟩ := bsE hm1
     simp only [kk0, e2, e7, e10, e13, Y_ref12_Same, ↓EVd, isCall, sevalprocAttr]
     refine qd (ok_ref12_SameNode _ _ _ h15) rfl ?_
     rcases itbE hm1 with ⟨e17, hm1⟩ | ⟨e17, hm1⟩
     · obtain rfl := Option.some.inj hm1
       obtain rfl := hO0 _ rfl
       try dsimp only at hm0
       obtain rfl := Option.some.inj hm0
       simp only [kk0, e2, e7, e10, e13, e17, Y_ref12_Same, ↓EVd, isCall, sevalprocAttr]
       all_goals first | done | rfl
     obtain rfl := Option.some.inj hm1
     simp only [kk0, e2, e7, e10, e13, e17, Y_ref12_Same, ↓EVd, isCall, sevalprocAttr]
     refine TI.here (hI0 _ rfl _ ⟨?_, ?_, ?_, ?_, ?_, ?_, ?_⟩)
     all_goals try simp only [kk0, e2, e7, e10, e13, e17, Y_ref12_Same, ↓EVd, isCall, sevalprocAttr]
     all_goals first | omega | exact lq (by omega) | exact nq (by omega) | rfl | (congr 1; omega)
   obtain rfl := Option.some.inj hm1
   simp only [kk0, e2, e7, Y_ref12_Same, ↓EVd, isCall, sevalprocAttr]
   refine TI.here (hJ0_0 _ (hO0 _ rfl))
 obtain rfl := Option.some.inj hm0
 simp only [e2, Y_ref12_Same, ↓EVd, isCall, sevalprocAttr]
 all_goals first | done | rfl
end Go.Proofs.Ytnmljicimdhpmaa.AL

/- Models of functions, and that the functions are as their models: written by gen.py. -/
set_option linter.all false
set_option maxRecDepth 100000
namespace Go.Proofs.Ytnmljicimdhpmaa.AL
open Go Go.Proofs
def m_law13_WalkPrunes (a0 : Branch) (a1 : List Int) : Option (Bool) := (m_plain_Branch a0 24).bind fun v1 => if (!v1) = true then (m_law13_awake ).bind fun v5 => some v5
 else if 10 < (a1.length : Int) then (m_law13_awake ).bind fun v9 => some v9
 else (m_walk_Prune a0 a1).bind fun v11 => (m_ref13_Prune a0 a1).bind fun v13 => (m_ref12_Same v11 v13).bind fun v15 => if v15 = true then (m_walk_Prune v11 a1).bind fun v19 => (m_ref12_Same v19 v11).bind fun v21 => if v21 = true then (m_walk_Twice v11 a1).bind fun v25 => if (v25.length : Int) = 0 then (m_law13_awake ).bind fun v29 => some v29
 else some false
 else some false
 else some false
def Y_law13_WalkPrunes := And.intro (And.intro (And.intro ((@EV)) (And.intro ((@R3)) ((@R26)))) (And.intro ((@R63)) (And.intro ((@R67)) ((@R68))))) (And.intro (And.intro ((@DBranch)) (And.intro ((@DOrigin)) ((@DAttr)))) (And.intro (And.intro ((@DNode)) ((@DEntry))) (And.intro ((@DAr2_Int)) ((@mixed)))))
set_option maxHeartbeats 2000000 in
theorem ok_law13_WalkPrunes (a0 : Branch) (a1 : List Int) (r : Bool) (hm0 : m_law13_WalkPrunes a0 a1 = some r) : Ok Try.prog 10 [encBranch a0, .sl 1 (a1.map int)] (bool r) := by
 unfold m_law13_WalkPrunes at hm0
 refine okG fc_law13_WalkPrunes ?_
 unfold c_law13_WalkPrunes
 obtain ⟨v1, h2, hm0⟩ := bsE hm0
 simp only [Y_law13_WalkPrunes, ↓EVd, isCall, sevalprocAttr]
 refine qc (ok_plain_Branch _ _ _ h2) rfl ?_
 rcases itbE hm0 with ⟨e4, hm0⟩ | ⟨e4, hm0⟩
 · obtain ⟨v5, h6, hm0⟩ := bsE hm0
   simp only [e4, Y_law13_WalkPrunes, ↓EVd, isCall, sevalprocAttr]
   refine qc (ok_law13_awake  _ h6) rfl ?_
   obtain rfl := Option.some.inj hm0
   simp only [e4, Y_law13_WalkPrunes, ↓EVd, isCall, sevalprocAttr]
   all_goals first | done | rfl
 rcases iteE hm0 with ⟨e8, hm0⟩ | ⟨e8, hm0⟩
 · obtain ⟨v9, h10, hm0⟩ := bsE hm0
   simp only [e4, e8, Y_law13_WalkPrunes, ↓EVd, isCall, sevalprocAttr]
   refine qc (ok_law13_awake  _ h10) rfl ?_
   obtain rfl := Option.some.inj hm0
   simp only [e4, e8, Y_law13_WalkPrunes, ↓EVd, isCall, sevalprocAttr]
   all_goals first | done | rfl
 obtain ⟨v11, h12, hm0⟩ := bsE hm0
 simp only [e4, e8, Y_law13_WalkPrunes, ↓EVd, isCall, sevalprocAttr]
 refine qc (ok_walk_Prune _ _ _ h12) rfl ?_
 obtain ⟨v13, h14, hm0⟩ := bsE hm0
 simp only [e4, e8, Y_law13_WalkPrunes, ↓EVd, isCall, sevalprocAttr]
 refine qd (ok_ref13_Prune _ _ _ h14) rfl ?_
 obtain ⟨v15, h16, hm0⟩ := bsE hm0
 simp only [e4, e8, Y_law13_WalkPrunes, ↓EVd, isCall, sevalprocAttr]
 refine qd (ok_ref12_Same _ _ _ h16) rfl ?_
 rcases itbE hm0 with ⟨e18, hm0⟩ | ⟨e18, hm0⟩
 · obtain ⟨v19, h20, hm0⟩ := bsE hm0
   simp only [e4, e8, e18, Y_law13_WalkPrunes, ↓EVd, isCall, sevalprocAttr]
   refine qd (ok_walk_Prune _ _ _ h20) rfl ?_
   obtain ⟨v21, h22, hm0⟩ := bsE hm0
   simp only [e4, e8, e18, Y_law13_WalkPrunes, ↓EVd, isCall, sevalprocAttr]
   refine qd (ok_ref12_Same _ _ _ h22) rfl ?_
   rcases itbE hm0 with ⟨e24, hm0⟩ | ⟨e24, hm0⟩
   · obtain ⟨v25, h26, hm0⟩ := bsE hm0
     simp only [e4, e8, e18, e24, Y_law13_WalkPrunes, ↓EVd, isCall, sevalprocAttr]
     refine qd (ok_walk_Twice _ _ _ h26) rfl ?_
     rcases iteE hm0 with ⟨e28, hm0⟩ | ⟨e28, hm0⟩
     · obtain ⟨v29, h30, hm0⟩ := bsE hm0
       simp only [e4, e8, e18, e24, e28, Y_law13_WalkPrunes, ↓EVd, isCall, sevalprocAttr]
       refine qd (ok_law13_awake  _ h30) rfl ?_
       obtain rfl := Option.some.inj hm0
       simp only [e4, e8, e18, e24, e28, Y_law13_WalkPrunes, ↓EVd, isCall, sevalprocAttr]
       all_goals first | done | rfl
     obtain rfl := Option.some.inj hm0
     simp only [e4, e8, e18, e24, e28, Y_law13_WalkPrunes, ↓EVd, isCall, sevalprocAttr]
     all_goals first | done | rfl
   obtain rfl := Option.some.inj hm0
   simp only [e4, e8, e18, e24, Y_law13_WalkPrunes, ↓EVd, isCall, sevalprocAttr]
   all_goals first | done | rfl
 obtain rfl := Option.some.inj hm0
 simp only [e4, e8, e18, Y_law13_WalkPrunes, ↓EVd, isCall, sevalprocAttr]
 all_goals first | done | rfl
end Go.Proofs.Ytnmljicimdhpmaa.AL

/- Plain laws: WalkPrunes. -/
set_option linter.all false
namespace Go.Proofs.Ytnmljicimdhpmaa.AL
open Go Go.Proofs

/-! ### Nodes that are plain -/
structure ND (x : Node) : Prop where
  data : x.data.length ≤ 300
  up : ∀ j (h : j + 1 < x.entries.length), x.entries[j].slot < x.entries[j + 1].slot
theorem node_full (x : Node) (h : m_plain_Node x = some true) : ND x := by
  unfold m_plain_Node at h
  obtain ⟨r, h3, h4⟩ := iter_term (B := m_plain_Node_b0 x) (R := fun r => match r with | .inl _ => ∀ j (h : j + 1 < x.entries.length), x.entries[j].slot < x.entries[j + 1].slot | .inr r => r = false) (fun i t => t = (i : Int) ∧ i ≤ x.entries.length ∧ (∀ (h : 0 < i) (h' : i - 1 < x.entries.length), (i : Int) - 1 ≤ x.entries[i - 1].slot ∧ x.entries[i - 1].slot < 16) ∧ ∀ j (h : j + 1 < x.entries.length), j + 1 < i → x.entries[j].slot < x.entries[j + 1].slot) 16 (by
    rintro i t ⟨rfl, hi, hp, hu⟩
    refine ⟨?_, ?_⟩
    · by_cases h0 : 0 < i
      · have := hp h0 (by omega); omega
      · omega
    simp only [m_plain_Node_b0]
    by_cases hlt : i < x.entries.length
    · have hi16 : i ≤ 16 := by
        by_cases h0 : 0 < i
        · have := hp h0 (by omega); omega
        · omega
      rw [if_pos (by omega), ix_at hlt]
      simp only [Option.bind_some]
      by_cases c1 : x.entries[i].slot < 0
      · rw [if_pos c1]; exact .inr ⟨_, rfl, rfl⟩
      rw [if_neg c1]
      by_cases c2 : 16 ≤ x.entries[i].slot
      · rw [if_pos c2]; exact .inr ⟨_, rfl, rfl⟩
      rw [if_neg c2]
      by_cases c3 : 0 < i
      · have hw : wr ((i : Int) - 1) = ((i - 1 : Nat) : Int) := by rw [wr_in (by omega) (by omega)]; omega
        have hlt' : i - 1 < x.entries.length := by omega
        rw [if_pos (by omega), hw, ix_at hlt']
        simp only [Option.bind_some]
        by_cases c4 : x.entries[i].slot ≤ x.entries[i - 1].slot
        · rw [if_pos c4]; exact .inr ⟨_, rfl, rfl⟩
        · rw [if_neg c4, wr_suc (by omega)]
          refine .inl ⟨_, rfl, rfl, by omega, fun h h' => ?_, fun j hj hji => ?_⟩
          · have := hp c3 hlt'
            simp only [Nat.add_sub_cancel]
            omega
          · by_cases e : j + 1 = i
            · subst e
              simp only [Nat.add_sub_cancel] at c4
              omega
            · exact hu j hj (by omega)
      · rw [if_neg (by omega), wr_suc (by omega)]
        refine .inl ⟨_, rfl, rfl, by omega, fun h h' => ?_, fun j hj hji => by omega⟩
        simp only [Nat.add_sub_cancel]
        omega
    · rw [if_neg (by omega)]
      exact .inr ⟨_, rfl, fun j hj => hu j hj (by omega)⟩) big 0 0 ⟨rfl, by omega, fun h => by omega, fun j _ h => by omega⟩ (by rw [big_eq]; omega)
  rw [h3] at h
  cases r with
  | inr r => simp only at h4; subst h4; cases h
  | inl u =>
    simp only at h4
    simp only [Option.bind_some] at h
    refine ⟨?_, h4⟩
    by_cases hd : (x.data.length : Int) ≤ 300
    · omega
    · rw [if_neg hd] at h
      repeat' split at h
      all_goals cases h
theorem branch_full (b : Branch) (h : m_plain_Branch b 24 = some true) : ∀ x ∈ b.nodes, ND x := by
  intro x hx
  unfold m_plain_Branch at h
  by_cases hl : (b.nodes.length : Int) ≤ 24
  · rw [if_pos hl] at h
    have ht : ∀ x, ∃ r, m_plain_Branch_1 x = some r := fun x => by
      obtain ⟨r, h1, _⟩ := node_tot x
      unfold m_plain_Branch_1
      rw [h1]
      exact ⟨_, rfl⟩
    obtain ⟨f, hf⟩ := tot_fun ht
    rw [contains_tot (f := f) b.nodes (fun y _ => hf y) (by omega)] at h
    simp only [Option.bind_some, Option.some.injEq, Bool.not_eq_true', List.any_eq_false] at h
    have hx' : f x = false := by simpa using h x hx
    obtain ⟨r, h1, _⟩ := node_tot x
    have h2 := hf x
    unfold m_plain_Branch_1 at h2
    rw [h1, hx'] at h2
    simp only [Option.bind_some, Option.some.injEq, Bool.not_eq_false'] at h2
    subst h2
    exact node_full x h1
  · rw [if_neg hl] at h; cases h
theorem slots_nd {x : Node} (h : ND x) : (x.entries.map (·.slot)).Nodup := by
  have key : ∀ (d j : Nat) (h1 : j < x.entries.length) (h2 : j + d + 1 < x.entries.length), x.entries[j].slot < x.entries[j + d + 1].slot := by
    intro d
    induction d with
    | zero => intro j h1 h2; exact h.up j h2
    | succ d ih =>
      intro j h1 h2
      have a := ih j h1 (by omega)
      have b := h.up (j + d + 1) h2
      have e : x.entries[j + (d + 1) + 1].slot = x.entries[j + d + 1 + 1].slot := rfl
      rw [e]
      omega
  refine List.pairwise_iff_getElem.2 fun i j hi hj hij => ?_
  simp only [List.getElem_map]
  simp only [List.length_map] at hi hj
  have := key (j - i - 1) i hi (by omega)
  have e : i + (j - i - 1) + 1 = j := by omega
  simp only [e] at this
  omega
structure PF (b : Branch) : Prop where
  pb : PB b
  data : ∀ x ∈ b.nodes, x.data.length ≤ 300
/-! ### Whether a pair is in a row -/
def cB (T : List Ar2_Int) (p : Ar2_Int) : Bool := T.any fun q => decide (q = p)
theorem keepE_eq (T : List Ar2_Int) (ino : Int) (e : Entry) : keepE T ino e = !(cB T ⟨ino, e.slot⟩) := rfl
theorem cB_iff {T : List Ar2_Int} {p : Ar2_Int} : cB T p = true ↔ ∃ i, ∃ h : i < T.length, T[i] = p := by
  unfold cB
  rw [List.any_eq_true]
  constructor
  · rintro ⟨q, hq, e⟩
    obtain ⟨i, h, rfl⟩ := List.getElem_of_mem hq
    exact ⟨i, h, of_decide_eq_true e⟩
  · rintro ⟨i, h, e⟩
    exact ⟨_, List.getElem_mem h, decide_eq_true e⟩
theorem In_eq {T : List Ar2_Int} (hT : T.length ≤ 1000) (p : Ar2_Int) : m_ref13_In T p = some (cB T p) := by
  unfold m_ref13_In
  obtain ⟨r, h1, h2⟩ := iter_term (B := m_ref13_In_b0 T p) (R := fun r => match r with | .inl _ => cB T p = false | .inr r => r = true ∧ cB T p = true)
    (fun i s => s = (i : Int) ∧ i ≤ T.length ∧ ∀ j (h : j < T.length), j < i → T[j] ≠ p) T.length (by
    rintro i s ⟨rfl, hi, hj⟩
    refine ⟨hi, ?_⟩
    simp only [m_ref13_In_b0]
    by_cases hlt : i < T.length
    · rw [if_pos (by omega), ix_at hlt]
      simp only [Option.bind_some]
      by_cases he : T[i] = p
      · rw [if_pos (decide_eq_true he)]
        exact .inr ⟨_, rfl, rfl, cB_iff.2 ⟨i, hlt, he⟩⟩
      · rw [if_neg (by simpa using he), wr_suc (by omega)]
        refine .inl ⟨_, rfl, rfl, by omega, fun j h hj' => ?_⟩
        by_cases e : j = i
        · subst e; exact he
        · exact hj j h (by omega)
    · rw [if_neg (by omega)]
      refine .inr ⟨_, rfl, ?_⟩
      simp only
      cases hs : cB T p with
      | false => rfl
      | true =>
        obtain ⟨j, h, e⟩ := cB_iff.1 hs
        exact absurd e (hj j h (by omega))) big 0 0 ⟨rfl, by omega, fun j _ h => by omega⟩ (by rw [big_eq]; omega)
  rw [h1]
  cases r with
  | inl u => simp only at h2; rw [h2]; rfl
  | inr r => simp only at h2; rw [h2.1, h2.2]; rfl
theorem Contains_eq {T : List Ar2_Int} (hT : T.length ≤ 1000) (p : Ar2_Int) : m_slices_Contains_2_int_2_int T p = some (cB T p) := by
  unfold m_slices_Contains_2_int_2_int m_slices_Index_2_int_2_int
  obtain ⟨r, h1, h2⟩ := iter_term (B := m_slices_Index_2_int_2_int_b0 T p) (R := fun r => match r with | .inl _ => cB T p = false | .inr r => 0 ≤ r ∧ cB T p = true)
    (fun i s => s = (i : Int) ∧ i ≤ T.length ∧ ∀ j (h : j < T.length), j < i → T[j] ≠ p) T.length (by
    rintro i s ⟨rfl, hi, hj⟩
    refine ⟨hi, ?_⟩
    simp only [m_slices_Index_2_int_2_int_b0]
    by_cases hlt : i < T.length
    · rw [if_pos (by omega), ix_at hlt]
      simp only [Option.bind_some]
      by_cases he : T[i] = p
      · rw [if_pos (decide_eq_true he.symm)]
        exact .inr ⟨_, rfl, by omega, cB_iff.2 ⟨i, hlt, he⟩⟩
      · rw [if_neg (by simpa using fun h => he h.symm), wr_suc (by omega)]
        refine .inl ⟨_, rfl, rfl, by omega, fun j h hj' => ?_⟩
        by_cases e : j = i
        · subst e; exact he
        · exact hj j h (by omega)
    · rw [if_neg (by omega)]
      refine .inr ⟨_, rfl, ?_⟩
      simp only
      cases hs : cB T p with
      | false => rfl
      | true =>
        obtain ⟨j, h, e⟩ := cB_iff.1 hs
        exact absurd e (hj j h (by omega))) big 0 0 ⟨rfl, by omega, fun j _ h => by omega⟩ (by rw [big_eq]; omega)
  rw [h1]
  cases r with
  | inl u => simp only at h2; rw [h2]; rfl
  | inr r => simp only at h2; rw [h2.2]; simp [h2.1]
/-! ### The pruned layer -/
def prN (b : Branch) (fr : List Int) (j : Nat) (x : Node) : Node := if ((reachP b fr)[j]?).getD false = true then { x with entries := x.entries.filter (keepE (walkP b fr).2.2 ((j : Int) + 1)) } else zeroNode
def pruneP (b : Branch) (fr : List Int) : Branch := ⟨b.nodes.mapIdx (prN b fr)⟩
theorem pruneP_len (b : Branch) (fr : List Int) : (pruneP b fr).nodes.length = b.nodes.length := by simp [pruneP]
theorem pruneP_at (b : Branch) (fr : List Int) (j : Nat) : (pruneP b fr).nodes[j]? = (b.nodes[j]?).map (prN b fr j) := by unfold pruneP; exact List.getElem?_mapIdx
theorem delM_tot {α : Type} {p : α → Option Bool} {f : α → Bool} : ∀ (l : List α), (∀ x ∈ l, p x = some (f x)) → delM p l = some (l.filter fun x => !f x)
  | [], _ => rfl
  | x :: l, h => by
    unfold delM
    rw [h x (by simp), delM_tot l (fun y hy => h y (by simp [hy]))]
    simp only [Option.bind_some]
    cases hx : f x <;> simp [hx]
theorem deleteM_tot {α : Type} {p : α → Option Bool} {f : α → Bool} {l : List α} (h : ∀ x ∈ l, p x = some (f x)) (hl : l.length ≤ 1000) : deleteM p l = some (l.filter fun x => !f x) := by
  unfold deleteM ck
  rw [if_pos (by omega)]
  exact delM_tot l h
theorem clone_of {α : Type} {k : Nat} {l : List α} (h : l.length * k ≤ 1000000) (hk : 0 < k) : cloneM k l = some l := by
  unfold cloneM
  rw [ap_of (by simp; omega) hk]
  rfl
theorem myPrune_eq {b : Branch} (hb : PF b) {fr : List Int} (hf : fr.length ≤ 1000) : m_walk_Prune b fr = some (pruneP b fr) := by
  have hn := hb.pb.len
  have hT := twice_len hb.pb hf
  obtain ⟨M, hM⟩ := my_walk_walk_Prune hb.pb hf
  unfold m_walk_Prune
  rw [hM]
  simp only [Option.bind_some]
  rw [my_reach hb.pb (ref_walk hb.pb hf).2.li.wi]
  simp only [Option.bind_some]
  have hck : ck (0 ≤ (b.nodes.length : Int) ∧ (b.nodes.length : Int) ≤ (b.nodes.length : Int) ∧ (144 : Int) * (b.nodes.length : Int) ≤ 281474976710656 ∧ (b.nodes.length : Int) ≤ 9223372036854775807) = some () := by
    unfold ck
    rw [if_pos (by omega)]
  rw [hck]
  simp only [Option.bind_some, Int.toNat_natCast]
  have hr : reachW b (walkP b fr).2.1 = reachP b fr := rfl
  rw [hr]
  have hrl := reachP_len b fr
  obtain ⟨v, e1, e2, e3⟩ := iter_term (B := m_walk_Prune_b6 b (walkP b fr).2.1 (walkP b fr).2.2 (reachP b fr)) (R := fun v => v.length = b.nodes.length ∧ ∀ j x, b.nodes[j]? = some x → v[j]? = some (prN b fr j x))
    (fun i t => t.1 = (i : Int) ∧ i ≤ b.nodes.length ∧ t.2.length = b.nodes.length ∧ ∀ j x, b.nodes[j]? = some x → t.2[j]? = some (if j < i then prN b fr j x else zeroNode)) b.nodes.length (by
    rintro i ⟨q, v⟩ ⟨h1, h2, h3, h4⟩
    simp only at h1 h3 h4
    subst h1
    refine ⟨h2, ?_⟩
    simp only [m_walk_Prune_b6]
    by_cases hi : i < b.nodes.length
    · have hx := List.getElem?_eq_getElem hi
      have hent := hb.pb.ents _ (List.getElem_mem hi)
      have hdat := hb.data _ (List.getElem_mem hi)
      have hv := h4 i _ hx
      rw [if_neg (by omega)] at hv
      have hrg : (reachP b fr)[i]? = some ((reachP b fr)[i]'(by omega)) := List.getElem?_eq_getElem (by omega)
      rw [if_pos (by omega), ix_at hi]
      simp only [Option.bind_some]
      rw [ix_at (show i < (reachP b fr).length by omega), wr_suc (by omega)]
      simp only [Option.bind_some]
      by_cases hre : (reachP b fr)[i]'(by omega) = true
      · rw [if_neg (by rw [hre]; simp), clone_of (by omega) (by omega)]
        simp only [Option.bind_some]
        rw [clone_of (by omega) (by omega)]
        simp only [Option.bind_some]
        rw [deleteM_tot (f := fun z => cB (walkP b fr).2.2 ⟨(i : Int) + 1, z.slot⟩) (fun z _ => by
          unfold m_walk_Prune_1
          rw [wr_in (by omega) (by omega), Contains_eq (by omega)]
          rfl) (by omega)]
        simp only [Option.bind_some]
        rw [ix_at (show i < v.length by omega)]
        simp only [Option.bind_some, Int.toNat_natCast]
        refine .inl ⟨_, rfl, rfl, by omega, by simpa using h3, ?_⟩
        intro j x hj
        simp only [List.getElem?_set]
        by_cases e : i = j
        · subst e
          rw [if_pos rfl, if_pos (by omega), if_pos (by omega)]
          rw [hx] at hj
          obtain rfl := Option.some.inj hj
          unfold prN
          rw [hrg, Option.getD_some, if_pos hre]
          rfl
        · rw [if_neg e, h4 j x hj]
          by_cases c : j < i
          · rw [if_pos c, if_pos (by omega)]
          · rw [if_neg c, if_neg (by omega)]
      · rw [if_pos (by simpa using hre)]
        refine .inl ⟨_, rfl, rfl, by omega, h3, ?_⟩
        intro j x hj
        simp only
        rw [h4 j x hj]
        by_cases e : j = i
        · subst e
          rw [if_neg (by omega), if_pos (by omega)]
          unfold prN
          rw [hrg, Option.getD_some, if_neg hre]
        · by_cases c : j < i
          · rw [if_pos c, if_pos (by omega)]
          · rw [if_neg c, if_neg (by omega)]
    · rw [if_neg (by omega)]
      refine .inr ⟨_, rfl, h3, fun j x hj => ?_⟩
      have := (List.getElem?_eq_some_iff.1 hj).1
      rw [h4 j x hj, if_pos (by omega)]) big 0 (0, List.replicate b.nodes.length zeroNode) ⟨rfl, by omega, by simp, fun j x hx => by
        have := (List.getElem?_eq_some_iff.1 hx).1
        simp [this]⟩ (by rw [big_eq]; omega)
  have e0 : iter (m_walk_Prune_b6 b (walkP b fr).2.1 (walkP b fr).2.2 (reachP b fr)) big (0, List.replicate b.nodes.length (⟨0, 0, 0, 0, [], [], (⟨0, 0, noBytes, (⟨0, 0, 0⟩ : Origin), 0⟩ : Attr)⟩ : Node)) = some v := e1
  rw [e0]
  simp only [Option.bind_some]
  have : v = (pruneP b fr).nodes := List.ext_getElem? fun j => by
    rw [pruneP_at]
    cases hj : b.nodes[j]? with
    | some x => exact e3 j x hj
    | none =>
      rw [List.getElem?_eq_none_iff] at hj
      rw [List.getElem?_eq_none (by omega)]
      rfl
  rw [this]
theorem foldl_keep {α : Type} (p : α → Bool) : ∀ (es acc : List α), es.foldl (fun s e => if p e = true then s ++ [e] else s) acc = acc ++ es.filter p
  | [], acc => by simp
  | e :: es, acc => by
    rw [List.foldl_cons, foldl_keep p es]
    cases h : p e <;> simp [h]
theorem refPrune_in {T : List Ar2_Int} (hT : T.length ≤ 1000) {x : Node} (hx : x.entries.length ≤ 16) {i : Nat} (hi : i ≤ 24) : iter (m_ref13_Prune_b1 T (i : Int) x) big ([], 0) = some (x.entries.filter (keepE T ((i : Int) + 1))) := by
  have key := (iter_fold (B := m_ref13_Prune_b1 T (i : Int) x) (fun (j : Nat) (s : List Entry) => (s, (j : Int))) x.entries (fun s e => if keepE T ((i : Int) + 1) e = true then s ++ [e] else s) (fun s => s) (fun j s => s.length ≤ j) (by
    intro j s hj hs
    simp only [m_ref13_Prune_b1]
    rw [if_pos (by omega), ix_at hj]
    simp only [Option.bind_some]
    rw [wr_in (n := (i : Int) + 1) (by omega) (by omega), In_eq hT, wr_suc (by omega), keepE_eq]
    simp only [Option.bind_some]
    cases hc : cB T ⟨(i : Int) + 1, x.entries[j].slot⟩ with
    | true =>
      simp only [Bool.not_true, Bool.false_eq_true, if_false]
      exact ⟨trivial, by omega⟩
    | false =>
      simp only [Bool.not_false, if_true]
      rw [ap_of (by simp; omega) (by omega)]
      exact ⟨rfl, by simp; omega⟩) (by
    intro s hs
    simp only [m_ref13_Prune_b1]
    rw [if_neg (by omega)]) (s0 := []) (by simp) (fuel := big) (by rw [big_eq]; omega)).1
  rw [foldl_keep] at key
  exact key
theorem refPrune_eq {b : Branch} (hb : PF b) {fr : List Int} (hf : fr.length ≤ 1000) : m_ref13_Prune b fr = some (pruneP b fr) := by
  have hn := hb.pb.len
  have hT := twice_len hb.pb hf
  have hrl := reachP_len b fr
  have hpl := pruneP_len b fr
  unfold m_ref13_Prune
  rw [refReach_eq hb.pb hf, refTwice_eq hb.pb hf]
  simp only [Option.bind_some]
  obtain ⟨v, e1, rfl⟩ := iter_term (B := m_ref13_Prune_b0 b (reachP b fr) (walkP b fr).2.2) (R := fun v => v = (pruneP b fr).nodes)
    (fun i t => t = ((i : Int), (pruneP b fr).nodes.take i) ∧ i ≤ b.nodes.length) b.nodes.length (by
    rintro i t ⟨rfl, hi⟩
    refine ⟨hi, ?_⟩
    simp only [m_ref13_Prune_b0]
    by_cases hlt : i < b.nodes.length
    · have hx := List.getElem?_eq_getElem hlt
      have hent := hb.pb.ents _ (List.getElem_mem hlt)
      have hrg : (reachP b fr)[i]? = some ((reachP b fr)[i]'(by omega)) := List.getElem?_eq_getElem (by omega)
      have hpi : (pruneP b fr).nodes[i]'(by omega) = prN b fr i b.nodes[i] := by
        have := pruneP_at b fr i
        rw [hx, List.getElem?_eq_getElem (by omega)] at this
        exact Option.some.inj this
      have htk : (pruneP b fr).nodes.take (i + 1) = (pruneP b fr).nodes.take i ++ [prN b fr i b.nodes[i]] := by
        rw [List.take_succ_eq_append_getElem (by omega), hpi]
      have htl : ((pruneP b fr).nodes.take i).length = i := by simp; omega
      rw [if_pos (by omega), ix_at hlt]
      simp only [Option.bind_some]
      rw [ix_at (show i < (reachP b fr).length by omega), wr_suc (by omega)]
      simp only [Option.bind_some]
      refine .inl ⟨(((i + 1 : Nat) : Int), (pruneP b fr).nodes.take (i + 1)), ?_, rfl, by omega⟩
      by_cases hre : (reachP b fr)[i]'(by omega) = true
      · rw [if_neg (by rw [hre]; simp), refPrune_in (by omega) hent (by omega)]
        simp only [Option.bind_some]
        rw [ap_of (by simp; omega) (by omega), htk]
        unfold prN
        rw [hrg, Option.getD_some, if_pos hre]
        rfl
      · rw [if_pos (by simpa using hre), ap_of (by simp; omega) (by omega), htk]
        unfold prN
        rw [hrg, Option.getD_some, if_neg hre]
        rfl
    · rw [if_neg (by omega)]
      exact .inr ⟨_, rfl, List.take_of_length_le (by omega)⟩) big 0 (0, []) ⟨rfl, by omega⟩ (by rw [big_eq]; omega)
  rw [e1]
  rfl
/-! ### It is the same layer -/
theorem same_data {l : List UInt8} (h : l.length ≤ 1000) : m_ref01_Same l l = some true := by
  unfold m_ref01_Same
  rw [if_pos rfl, eqLoop (a := l) (b := l) rfl (by omega)]
  · rw [if_pos rfl]; rfl
  · intro i h1 h2
    simp only [m_ref01_Same_b0]
    rw [if_pos (by omega), ix_at h1]
    simp only [Option.bind_some]
    simp only [decide_true, if_true]
    rw [wr_suc (by omega)]
  · simp only [m_ref01_Same_b0]
    rw [if_neg (by omega)]
theorem same_ents {l : List Entry} (h : l.length ≤ 1000) : m_ref08_Same l l = some true := by
  unfold m_ref08_Same
  rw [if_pos rfl, eqLoop (a := l) (b := l) rfl (by omega)]
  · rw [if_pos rfl]; rfl
  · intro i h1 h2
    simp only [m_ref08_Same_b0]
    rw [if_pos (by omega), ix_at h1]
    simp only [Option.bind_some]
    simp only [decide_true, if_true]
    rw [wr_suc (by omega)]
  · simp only [m_ref08_Same_b0]
    rw [if_neg (by omega)]
theorem same_branch {b : Branch} (hb : PF b) : m_ref12_Same b b = some true := by
  have hn := hb.pb.len
  unfold m_ref12_Same
  rw [if_pos rfl]
  obtain ⟨r, h1, h2⟩ := iter_term (B := m_ref12_Same_b0 b b) (R := fun r => ∃ u, r = .inl u) (fun i t => t = (i : Int) ∧ i ≤ b.nodes.length) b.nodes.length (by
    rintro i t ⟨rfl, hi⟩
    refine ⟨hi, ?_⟩
    simp only [m_ref12_Same_b0]
    by_cases hlt : i < b.nodes.length
    · have hent := hb.pb.ents _ (List.getElem_mem hlt)
      have hdat := hb.data _ (List.getElem_mem hlt)
      rw [if_pos (by omega), ix_at hlt]
      simp only [Option.bind_some]
      have : m_ref12_SameNode b.nodes[i] b.nodes[i] = some true := by
        unfold m_ref12_SameNode
        rw [if_pos rfl, if_pos rfl, if_pos rfl, if_pos rfl, if_pos (decide_eq_true rfl), same_data (by omega)]
        simp only [Option.bind_some, if_true]
        rw [same_ents (by omega)]
        rfl
      rw [this, wr_suc (by omega)]
      exact .inl ⟨_, rfl, rfl, by omega⟩
    · rw [if_neg (by omega)]
      exact .inr ⟨_, rfl, _, rfl⟩) big 0 0 ⟨rfl, by omega⟩ (by rw [big_eq]; omega)
  obtain ⟨u, rfl⟩ := h2
  rw [h1]
  rfl
/-! ### Pruned once more -/
theorem reach_at {b : Branch} {fr : List Int} {j : Nat} (h : j < b.nodes.length) : ((reachP b fr)[j]?).getD false = true ↔ j ∈ reachL b (walkP b fr).2.1 := by
  unfold reachP reachW
  rw [setT_get]
  by_cases hj : j ∈ reachL b (walkP b fr).2.1
  · rw [if_pos hj]; simp [h, hj]
  · rw [if_neg hj]; simp [h, hj]
theorem prune_node {b : Branch} {fr : List Int} (ino : Int) : ((1 ≤ ino ∧ ino ≤ (b.nodes.length : Int) ∧ (ino - 1).toNat ∈ reachL b (walkP b fr).2.1) ∧ nodeP (pruneP b fr) ino = { nodeP b ino with entries := (nodeP b ino).entries.filter (keepE (walkP b fr).2.2 ino) }) ∨ (¬ (1 ≤ ino ∧ ino ≤ (b.nodes.length : Int) ∧ (ino - 1).toNat ∈ reachL b (walkP b fr).2.1) ∧ nodeP (pruneP b fr) ino = zeroNode) := by
  rcases nodeP_of (b := b) (c := pruneP b fr) (pruneP_len b fr) (f := prN b fr) (fun j x hj => by rw [pruneP_at, hj]; rfl) ino with ⟨j, rfl, h2, h3⟩ | ⟨h1, h2, h3⟩
  · have ej : ((j : Int) + 1 - 1).toNat = j := by omega
    rw [ej, h3]
    unfold prN
    by_cases hr : ((reachP b fr)[j]?).getD false = true
    · rw [if_pos hr]
      exact .inl ⟨⟨by omega, by omega, (reach_at h2).1 hr⟩, rfl⟩
    · rw [if_neg hr]
      exact .inr ⟨fun h => hr ((reach_at h2).2 h.2.2), rfl⟩
  · exact .inr ⟨fun h => by omega, h2⟩
theorem way_in {b : Branch} {fr : List Int} {w : Way} (h : w ∈ (walkP b fr).2.1) : (w.ino - 1).toNat ∈ reachL b (walkP b fr).2.1 := by
  unfold reachL
  exact List.mem_flatMap.2 ⟨w, h, by simp⟩
theorem ent_in {b : Branch} {fr : List Int} {w : Way} (h : w ∈ (walkP b fr).2.1) {e : Entry} (he : e ∈ (nodeP b w.ino).entries) (h1 : 1 ≤ e.ino) (h2 : e.ino ≤ (b.nodes.length : Int)) : (e.ino - 1).toNat ∈ reachL b (walkP b fr).2.1 := by
  unfold reachL
  refine List.mem_flatMap.2 ⟨w, h, List.mem_cons_of_mem _ (List.mem_flatMap.2 ⟨e, he, ?_⟩)⟩
  unfold idxE
  rw [if_pos ⟨h1, h2⟩]
  simp
theorem prune_cut {b : Branch} (hb : PB b) {fr : List Int} (hf : fr.length ≤ 1000) : Cut b (pruneP b fr) (walkP b fr).2 := by
  have hwi := (ref_walk hb hf).2.li.wi
  have hin : ∀ w ∈ (walkP b fr).2.1, nodeP (pruneP b fr) w.ino = { nodeP b w.ino with entries := (nodeP b w.ino).entries.filter (keepE (walkP b fr).2.2 w.ino) } := by
    intro w hw
    obtain ⟨r1, r2⟩ := nodeP_kind (hwi.dir w hw)
    rcases prune_node (b := b) (fr := fr) w.ino with ⟨_, h⟩ | ⟨h, _⟩
    · exact h
    · exact absurd ⟨r1, r2, way_in hw⟩ h
  refine ⟨?_, ?_, ?_, ?_⟩
  · intro i hi
    rcases prune_node (b := b) (fr := fr) i with ⟨_, h⟩ | ⟨_, h⟩
    · rw [h] at hi; exact hi
    · rw [h] at hi; exact absurd hi kind_zero
  · intro w hw; rw [hin w hw]
  · intro w hw; rw [hin w hw]
  · intro w hw e he
    rcases prune_node (b := b) (fr := fr) e.ino with ⟨_, h⟩ | ⟨h1, h⟩
    · rw [h]
    · rw [h]
      by_cases c1 : e.ino < 1
      · rw [nodeP_out (.inl c1)]
      · by_cases c2 : (b.nodes.length : Int) < e.ino
        · rw [nodeP_out (.inr c2)]
        · exact absurd ⟨by omega, by omega, ent_in hw he (by omega) (by omega)⟩ h1
theorem slot_inj : ∀ {l : List Entry}, (l.map (·.slot)).Nodup → ∀ {e e' : Entry}, e ∈ l → e' ∈ l → e.slot = e'.slot → e = e'
  | [], _, _, _, h, _, _ => by simp at h
  | x :: l, hn, e, e', h, h', hs => by
    obtain ⟨n1, n2⟩ := List.nodup_cons.1 (show (x.slot :: l.map (·.slot)).Nodup from hn)
    rcases List.mem_cons.1 h with rfl | g
    · rcases List.mem_cons.1 h' with rfl | g'
      · rfl
      · exact absurd (show e.slot ∈ l.map (·.slot) from List.mem_map.2 ⟨e', g', hs.symm⟩) n1
    · rcases List.mem_cons.1 h' with rfl | g'
      · exact absurd (show e'.slot ∈ l.map (·.slot) from List.mem_map.2 ⟨e, g, hs⟩) n1
      · exact slot_inj n2 g g' hs
theorem prune_reach {b : Branch} (hb : PB b) (hsl : SlotsUp b) {fr : List Int} (hf : fr.length ≤ 1000) : reachP (pruneP b fr) fr = reachP b fr := by
  have hcut := prune_cut hb hf
  have hw := cut_walk hb hsl hf hcut
  unfold reachP reachW
  rw [pruneP_len, hw]
  refine setT_ext fun j => ?_
  unfold reachL
  simp only [List.mem_flatMap, List.mem_cons, pruneP_len]
  constructor
  · rintro ⟨w, hwm, rfl | ⟨e, he, hj⟩⟩
    · exact ⟨w, hwm, .inl rfl⟩
    · rw [hcut.w w hwm] at he
      exact ⟨w, hwm, .inr ⟨e, (List.mem_filter.1 he).1, hj⟩⟩
  · rintro ⟨w, hwm, rfl | ⟨e, he, hj⟩⟩
    · exact ⟨w, hwm, .inl rfl⟩
    · by_cases hk : keepE (walkP b fr).2.2 w.ino e = true
      · exact ⟨w, hwm, .inr ⟨e, by rw [hcut.w w hwm]; exact List.mem_filter.2 ⟨he, hk⟩, hj⟩⟩
      · have hk' : keepE (walkP b fr).2.2 w.ino e = false := by simpa using hk
        obtain ⟨_, _, w', hw', h3, e', h4, h5, h6⟩ := past_walk fr _ (keepE_no.1 hk')
        simp only at h3 h5
        rw [h3] at h4
        obtain rfl := slot_inj (hsl _) h4 he h5
        obtain ⟨w2, hw2, h7⟩ := seenB_iff.1 h6
        refine ⟨w2, hw2, .inl ?_⟩
        unfold idxE at hj
        split at hj
        · simp only [List.mem_singleton] at hj
          rw [hj, h7]
        · simp at hj
theorem prune_pf {b : Branch} (hb : PF b) (fr : List Int) : PF (pruneP b fr) := by
  have key : ∀ x ∈ (pruneP b fr).nodes, x.entries.length ≤ 16 ∧ x.data.length ≤ 300 := by
    intro x hx
    obtain ⟨j, hj, rfl⟩ := List.getElem_of_mem hx
    have hl := pruneP_len b fr
    have hj' : j < b.nodes.length := by omega
    have e := pruneP_at b fr j
    rw [List.getElem?_eq_getElem hj, List.getElem?_eq_getElem hj'] at e
    rw [Option.some.inj e]
    have h1 := hb.pb.ents _ (List.getElem_mem hj')
    have h2 := hb.data _ (List.getElem_mem hj')
    unfold prN
    split
    · exact ⟨Nat.le_trans (List.length_filter_le _ _) h1, h2⟩
    · simp [zeroNode]
  exact ⟨⟨by rw [pruneP_len]; exact hb.pb.len, fun x hx => (key x hx).1⟩, fun x hx => (key x hx).2⟩
theorem prune_again {b : Branch} (hb : PB b) (hsl : SlotsUp b) {fr : List Int} (hf : fr.length ≤ 1000) : pruneP (pruneP b fr) fr = pruneP b fr := by
  have hw := cut_walk hb hsl hf (prune_cut hb hf)
  have hr := prune_reach hb hsl hf
  have : (pruneP (pruneP b fr) fr).nodes = (pruneP b fr).nodes := List.ext_getElem? fun j => by
    rw [pruneP_at, pruneP_at]
    cases b.nodes[j]? with
    | none => rfl
    | some x =>
      simp only [Option.map_some]
      congr 1
      unfold prN
      rw [hr, hw]
      by_cases hre : ((reachP b fr)[j]?).getD false = true
      · simp only [if_pos hre]
        have hk : ∀ e : Entry, keepE [] ((j : Int) + 1) e = true := fun e => rfl
        rw [List.filter_eq_self.2 (fun e _ => hk e)]
      · simp only [if_neg hre]
  show (⟨(pruneP (pruneP b fr) fr).nodes⟩ : Branch) = ⟨(pruneP b fr).nodes⟩
  rw [this]
theorem law_walkPrunes (b : Branch) (fr : List Int) : m_law13_WalkPrunes b fr = some true := by
  unfold m_law13_WalkPrunes
  obtain ⟨r, h1, h2⟩ := branch_tot b
  rw [h1]
  simp only [Option.bind_some]
  cases r with
  | false => rfl
  | true =>
    have hb := branch_pb (h2 rfl)
    have hnd := branch_full b h1
    have hpf : PF b := ⟨hb, fun x hx => (hnd x hx).data⟩
    have hsl : SlotsUp b := fun i => by
      unfold nodeP
      split
      · simp [zeroNode]
      · split
        · simp [zeroNode]
        · have hlt : (i - 1).toNat < b.nodes.length := by omega
          simp only [List.getElem?_eq_getElem hlt, Option.getD_some]
          exact slots_nd (hnd _ (List.getElem_mem hlt))
    rw [if_neg (by simp)]
    by_cases hf : 10 < (fr.length : Int)
    · rw [if_pos hf]; rfl
    · have hc := prune_pf hpf fr
      have hw := cut_walk hb hsl (fr := fr) (by omega) (prune_cut hb (by omega))
      rw [if_neg hf, myPrune_eq hpf (by omega), refPrune_eq hpf (by omega)]
      simp only [Option.bind_some]
      rw [same_branch hc]
      simp only [Option.bind_some, if_true]
      rw [myPrune_eq hc (by omega), prune_again hb hsl (by omega)]
      simp only [Option.bind_some]
      rw [same_branch hc]
      simp only [Option.bind_some, if_true]
      rw [myTwice_eq hc.pb (by omega), hw]
      rfl
theorem ok_walkPrunes (b : Branch) (fr : List Int) : Ok Try.prog 10 [encBranch b, .sl 1 (fr.map int)] (bool true) := ok_law13_WalkPrunes b fr true (law_walkPrunes b fr)
end Go.Proofs.Ytnmljicimdhpmaa.AL

/- A pruned layer is what the document says; pruned again it stays, and nothing in it is told twice: for every layer and every list of inodes. -/
namespace Go.Proofs.Ytnmljicimdhpmaa
theorem walkPrunes_holds : Rows.WalkPrunesSaid := holds_walkPrunes_of fun b fr _ _ => AL.ok_walkPrunes b fr
#print axioms walkPrunes_holds
end Go.Proofs.Ytnmljicimdhpmaa

