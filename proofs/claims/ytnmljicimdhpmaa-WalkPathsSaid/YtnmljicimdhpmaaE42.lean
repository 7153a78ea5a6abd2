/- A law of the given program is proved: part 42 of 49. -/
import Derived.Test.YtnmljicimdhpmaaE41
set_option linter.all false
/- Plain laws, part 1: loops; the walk. -/
set_option linter.all false
namespace Go.Proofs.Ytnmljicimdhpmaa.AL
open Go Go.Proofs

/-! ### Loops -/
theorem iter_term {S ρ : Type} {B : S → Option (St S ρ)} {R : ρ → Prop} (I : Nat → S → Prop) (N : Nat) (hs : ∀ i s, I i s → i ≤ N ∧ ((∃ s', B s = some (.nx s') ∧ I (i + 1) s') ∨ ∃ r, B s = some (.out r) ∧ R r)) :
    ∀ (fuel i : Nat) (s : S), I i s → N < fuel + i → ∃ r, iter B fuel s = some r ∧ R r
  | 0, i, s, h, hf => by have := (hs i s h).1; omega
  | fuel + 1, i, s, h, hf => by
    rw [iter_succ]
    rcases (hs i s h).2 with ⟨s', h1, h2⟩ | ⟨r, h1, h2⟩
    · rw [h1]
      exact iter_term I N hs fuel (i + 1) s' h2 (by omega)
    · rw [h1]
      exact ⟨r, rfl, h2⟩
theorem big_eq : big = 1000000000000000000 := rfl
theorem ix_at {α : Type} {xs : List α} {i : Nat} (h : i < xs.length) : ix xs (i : Int) = some xs[i] := by
  unfold ix
  rw [if_pos (by omega)]
  simp [h]
theorem ix_of {α : Type} {xs : List α} {n : Int} (h0 : 0 ≤ n) (h : n < xs.length) : ix xs n = some (xs[n.toNat]'(by omega)) := by
  unfold ix
  rw [if_pos h0]
  simp
theorem wr_suc {i : Nat} (h : i < 4611686018427387904) : wr ((i : Int) + 1) = ((i + 1 : Nat) : Int) := by rw [wr_in (by omega) (by omega)]; omega
theorem ap_of {α : Type} {k : Nat} {xs ys : List α} (h : (xs.length + ys.length) * k ≤ 140737488355328) (hk : 0 < k) : ap k xs ys = some (xs ++ ys) := by
  unfold ap
  have : xs.length + ys.length ≤ (xs.length + ys.length) * k := Nat.le_mul_of_pos_right _ hk
  have h2 : xs.length + ys.length ≤ 9223372036854775807 := by omega
  rw [if_pos ⟨h, h2⟩]
/-! ### Nodes -/
def zeroNode : Node := ⟨0, 0, 0, 0, [], [], ⟨0, 0, noBytes, ⟨0, 0, 0⟩, 0⟩⟩
def nodeP (b : Branch) (ino : Int) : Node := if ino < 1 then zeroNode else if (b.nodes.length : Int) < ino then zeroNode else (b.nodes[(ino - 1).toNat]?).getD zeroNode
structure PB (b : Branch) : Prop where
  len : b.nodes.length ≤ 24
  ents : ∀ x ∈ b.nodes, x.entries.length ≤ 16
theorem nodeP_kind {b : Branch} {ino : Int} (h : (nodeP b ino).kind = 1) : 1 ≤ ino ∧ ino ≤ (b.nodes.length : Int) := by
  unfold nodeP at h
  split at h
  · simp [zeroNode] at h
  · split at h
    · simp [zeroNode] at h
    · omega
/-! ### The walk -/
def seenB (ways : List Way) (ino : Int) : Bool := ways.any fun w => decide (w.ino = ino)
abbrev WS := List Way × List Ar2_Int
/-- Each directory once. -/
structure WI (b : Branch) (ways : List Way) : Prop where
  nd : (ways.map (·.ino)).Nodup
  dir : ∀ w ∈ ways, (nodeP b w.ino).kind = 1
theorem nat_nodup_le : ∀ (n : Nat) (l : List Nat), l.Nodup → (∀ x ∈ l, x < n) → l.length ≤ n
  | 0, l, _, h => by
    cases l with
    | nil => simp
    | cons x l => have := h x (by simp); omega
  | n + 1, l, hd, h => by
    have h1 := nat_nodup_le n (l.erase n) (hd.erase n) (fun x hx => by
      have := (List.Nodup.mem_erase_iff hd).1 hx
      have := h x this.2
      omega)
    have := List.length_erase (a := n) (l := l)
    split at this <;> omega
theorem WI.len {b : Branch} {ways : List Way} (h : WI b ways) : ways.length ≤ b.nodes.length := by
  have h1 : (ways.map fun w => (w.ino - 1).toNat).Nodup := by
    refine List.pairwise_map.2 (List.Pairwise.imp_of_mem ?_ (List.pairwise_map.1 h.nd))
    intro x y hx hy hne e
    have := nodeP_kind (h.dir x hx)
    have := nodeP_kind (h.dir y hy)
    omega
  have := nat_nodup_le b.nodes.length _ h1 (fun x hx => by
    obtain ⟨w, hw, rfl⟩ := List.mem_map.1 hx
    have := nodeP_kind (h.dir w hw)
    omega)
  simpa using this
theorem seenB_iff {ways : List Way} {ino : Int} : seenB ways ino = true ↔ ∃ w ∈ ways, w.ino = ino := by simp [seenB]
theorem WI.push {b : Branch} {ways : List Way} (h : WI b ways) {w : Way} (hk : (nodeP b w.ino).kind = 1) (hs : seenB ways w.ino = false) : WI b (ways ++ [w]) := by
  refine ⟨?_, ?_⟩
  · rw [List.map_append, List.map_cons, List.map_nil]
    refine List.nodup_append.2 ⟨h.nd, by simp, ?_⟩
    intro x hx y hy e
    simp only [List.mem_singleton] at hy
    subst hy; subst e
    obtain ⟨w', hw', e⟩ := List.mem_map.1 hx
    have : seenB ways w.ino = true := seenB_iff.2 ⟨w', hw', e⟩
    rw [hs] at this; cases this
  · intro x hx
    rcases List.mem_append.1 hx with hx | hx
    · exact h.dir x hx
    · simp only [List.mem_singleton] at hx; subst hx; exact hk
/-- The state of the great loop. -/
structure LI (b : Branch) (k : Nat) (s : WS) : Prop where
  wi : WI b s.1
  at' : k ≤ s.1.length
  tw : s.2.length ≤ 16 * k
/-! ### The document's walk -/
structure FI (b : Branch) (t : Nat × WS) : Prop where
  li : LI b t.1 t.2
  all : t.1 = t.2.1.length
theorem LI.push {b : Branch} {k : Nat} {s : WS} (h : LI b k s) {w : Way} (hk : (nodeP b w.ino).kind = 1) (hs : seenB s.1 w.ino = false) : LI b k (s.1 ++ [w], s.2) :=
  ⟨h.wi.push hk hs, by have := h.at'; simp; omega, h.tw⟩
theorem FI.nil (b : Branch) : FI b (0, [], []) := ⟨⟨⟨by simp, by simp⟩, by simp, by simp⟩, rfl⟩
end Go.Proofs.Ytnmljicimdhpmaa.AL

/- slices.Reverse, in place. -/
set_option linter.all false
namespace Go.Proofs.Ytnmljicimdhpmaa.AL
open Go Go.Proofs Go.RowKit
def revAC (S E : TypeId) : AC := (.seq (.region [⟨.move (.tmp 0), some 4, none⟩,
  ⟨.call (Go.Call.mk (.builtin .len) #[.tmp 4] #[S]), some 5, none⟩,
  ⟨.binOp .sub 3 (.tmp 5) (.const (Value.int .i64 1)) 3, some 6, none⟩,
  ⟨.assign (.const (Value.int .i64 0)), some 2, none⟩,
  ⟨.assign (.tmp 6), some 3, none⟩])
 (.block 0 (.loop (.seq (.seq (.region [⟨.move (.tmp 2), some 7, none⟩,
  ⟨.move (.tmp 3), some 8, none⟩,
  ⟨.binOp .lss 3 (.tmp 7) (.tmp 8) 3, some 9, none⟩])
 (.cond (.tmp 9) .skip
 (.exit 0)))
 (.seq (.block 1 (.draw [⟨.move (.tmp 0), some 14, none⟩,
  ⟨.move (.tmp 2), some 15, none⟩,
  ⟨.move (.tmp 0), some 16, none⟩,
  ⟨.move (.tmp 3), some 17, none⟩,
  ⟨.move (.tmp 0), some 18, none⟩,
  ⟨.move (.tmp 3), some 19, none⟩,
  ⟨.indexAddr S (.tmp 18) (.tmp 19), some 20, none⟩,
  ⟨.load E (.tmp 20), some 21, none⟩,
  ⟨.move (.tmp 0), some 22, none⟩,
  ⟨.move (.tmp 2), some 23, none⟩,
  ⟨.indexAddr S (.tmp 22) (.tmp 23), some 24, none⟩,
  ⟨.load E (.tmp 24), some 25, none⟩,
  ⟨.indexAddr S (.tmp 14) (.tmp 15), some 26, none⟩,
  ⟨.store E (.tmp 26) (.tmp 21), none, none⟩,
  ⟨.indexAddr S (.tmp 16) (.tmp 17), some 27, none⟩,
  ⟨.store E (.tmp 27) (.tmp 25), none, none⟩] [0, 0, 0, 0, 0, 0, 48, 112, 0, 0, 768, 1792, 4083, 8179, 16383, 32767] [false, false, false, false, false, false, false, true, false, false, false, true, false, true, false, true]))
 (.region [⟨.move (.tmp 2), some 10, none⟩,
  ⟨.binOp .add 3 (.tmp 10) (.const (Value.int .i64 1)) 3, some 11, none⟩,
  ⟨.move (.tmp 3), some 12, none⟩,
  ⟨.binOp .sub 3 (.tmp 12) (.const (Value.int .i64 1)) 3, some 13, none⟩,
  ⟨.assign (.tmp 11), some 2, none⟩,
  ⟨.assign (.tmp 13), some 3, none⟩]))))))
def revM {α : Type} (l : List α) : Option (List α) := (ck (l.length < 4611686018427387904)).bind fun _ => some l.reverse
theorem revM_len {α : Type} {l r : List α} (h : revM l = some r) : r.length = l.length := by
  obtain ⟨_, h⟩ := ckE h
  obtain rfl := Option.some.inj h
  simp
theorem rev_ok {α : Type} {P : Program} {g : FuncId} {S E n : Nat} {b : Bool} (hf : FnC P g 28 [] (revAC S E)) (hS : elemOfT P S = some E) (hE : aggN P E = some (b, n)) (hmix : P.follows .mixedOrders = true) (enc : α → AV) (l r : List α) (hr : revM l = some r) (hx : ∀ x, closed (enc x) = true)
    (hld : ∀ x, evalLd P E (enc x) 0 = some (enc x)) (hst : ∀ x y, stAV (enc x) 0 (enc y) = some (enc y)) (hsz : ∀ x, hasSize (enc x) n = true) (q : Nat) : OkI P g q [.msl q l.length] (.tup []) E n (l.map enc) (r.map enc) := by
  unfold revM at hr
  obtain ⟨hlen, hr⟩ := ckE hr
  obtain rfl := Option.some.inj hr
  have i1 : ∀ (l len : Nat) (k : IntKind) (n' : Int), evalIndexAddr P S (.msl l len) (.val (.int k n')) = if 0 ≤ n' ∧ n' < len then some (.loc l n n'.toNat 0) else none := fun l len k n' => indexAddr_msl _ hS hE l len k n'
  have s1 : ∀ (V : Nat → Option AO) (l sz i off : Nat) (v : AV), evalStore P E V (.loc l sz i off) v = if hasSize v n = true then (rowT (V l) sz i).bind fun p => (stAV p.2.2 off v).map fun x' => [(l, some (.row p.1 sz (p.2.1.set i x')))] else none := fun V l sz i off v => store_loc _ hE V l sz i off v
  have l1 : ∀ (l m : Nat), evalLen P S (.msl l m) = some (int m) := fun l m => len_msl _ hS l m
  refine ⟨closeds_map enc hx _, fun H nx hq hH => acallF hf (by simp) ?_⟩
  unfold revAC
  simp only [l1, EV, ↓EVd, isCall, sevalprocAttr]
  refine cwp_loop (fun s => s.T 0 = .msl q l.length ∧ (∃ i : Nat, ∃ z : List α, s.T 2 = int i ∧ s.T 3 = int ((l.length : Int) - 1 - i) ∧ 2 * i ≤ l.length + 1 ∧ z.length = l.length ∧ s.H q = some (.row E n (z.map enc)) ∧ ∀ k, k < l.length → z[k]? = if k < i ∨ l.length - i ≤ k then l[l.length - 1 - k]? else l[k]?) ∧ nx ≤ s.nx ∧ ∀ j, j < nx → j ≠ q → s.H j = H j) (fun s => (iv (s.T 3) + 1).toNat) ?_ ?_
  · have w1 : IntKind.i64.wrap ((l.length : Int) - 1) = (l.length : Int) - 1 := Go.IntWalk.i64_in _ (by omega)
    simp only [w1, EV, ↓EVd, isCall, sevalprocAttr]
    refine ⟨⟨0, l, by simp, by simp, by omega, rfl, hH, fun k hk => by rw [if_neg (by omega)]⟩, by omega, fun j h1 h2 => trivial⟩
  · rintro ⟨T, H', nx'⟩ ⟨k0, ⟨i, z, k2, k3, k4, k5, k6, k7⟩, k8, k9⟩
    simp only at k0 k2 k3 k6 k8 k9
    apply cw_cwp
    have w1 : IntKind.i64.wrap ((i : Int) + 1) = ((i + 1 : Nat) : Int) := Go.IntWalk.i64_in _ (by omega)
    have w2 : IntKind.i64.wrap ((l.length : Int) - 1 - i - 1) = (l.length : Int) - 1 - ((i + 1 : Nat) : Int) := by rw [Go.IntWalk.i64_in _ (by omega)]; omega
    by_cases hc : (i : Int) < (l.length : Int) - 1 - i
    · have e1 : ((i : Int) < (l.length : Int) - 1 - i) = True := eq_true hc
      have e2 : ((0 : Int) ≤ (i : Int)) = True := eq_true (by omega)
      have e3 : ((i : Int) < (l.length : Int)) = True := eq_true (by omega)
      have e4 : ((0 : Int) ≤ (l.length : Int) - 1 - i) = True := eq_true (by omega)
      have e5 : ((l.length : Int) - 1 - i < (l.length : Int)) = True := eq_true (by omega)
      obtain ⟨j, hj⟩ : ∃ j : Nat, ((l.length : Int) - 1 - i).toNat = j := ⟨_, rfl⟩
      have hi0 : ((i : Int)).toNat = i := by omega
      have hjl : j < z.length := by omega
      have hil : i < z.length := by omega
      have hij : i ≠ j := by omega
      have z1 : (z.map enc)[j]? = some (enc z[j]) := by simp [hjl]
      have z2 : (z.map enc)[i]? = some (enc z[i]) := by simp [hil]
      have z3 : ((z.set i z[j]).map enc)[j]? = some (enc z[j]) := by rw [List.getElem?_map, List.getElem?_set_ne hij]; simp [hjl]
      have kq := lq (show q < nx' by omega)
      dsimp only [Lq] at kq
      have d1 := hld z[j]
      have d2 := hld z[i]
      have d3 := hst z[i] z[j]
      have d4 := hst z[j] z[i]
      have d5 := hsz z[j]
      have d6 := hsz z[i]
      simp only [i1, s1, kq, k0, k2, k3, k6, e1, e2, e3, e4, e5, hj, hi0, z1, z2, z3, d1, d2, d3, d4, d5, d6, w1, w2, hmix, EV, ↓EVd, isCall, sevalprocAttr]
      refine ⟨⟨⟨i + 1, (z.set i z[j]).set j z[i], by simp, by simp, by omega, by simp [k5], by simp, ?_⟩, by omega, ?_⟩, by omega⟩
      · intro k hk
        have hz1 : z[j]? = l[j]? := by rw [k7 j (by omega), if_neg (by omega)]
        have hz2 : z[i]? = l[i]? := by rw [k7 i (by omega), if_neg (by omega)]
        by_cases a1 : k = j
        · subst a1
          rw [List.getElem?_set_self (by simpa using hjl), if_pos (by omega), show l.length - 1 - k = i by omega, ← hz2, List.getElem?_eq_getElem hil]
        · rw [List.getElem?_set_ne (Ne.symm a1)]
          by_cases a2 : k = i
          · subst a2
            rw [List.getElem?_set_self hil, if_pos (by omega), show l.length - 1 - k = j by omega, ← hz1, List.getElem?_eq_getElem hjl]
          · rw [List.getElem?_set_ne (Ne.symm a2), k7 k hk]
            by_cases a3 : k < i ∨ l.length - i ≤ k
            · rw [if_pos a3, if_pos (by omega)]
            · rw [if_neg a3, if_neg (by omega)]
      · intro j' h1 h2
        simp only [upd_at, if_neg h2]
        exact k9 j' h1 h2
    · have e1 : ((i : Int) < (l.length : Int) - 1 - i) = False := eq_false hc
      simp only [k0, k2, k3, e1, EV, ↓EVd, isCall, sevalprocAttr]
      refine ⟨?_, k9⟩
      rw [k6]
      congr 2
      congr 1
      refine List.ext_getElem? fun k => ?_
      by_cases hk : k < l.length
      · rw [k7 k hk, List.getElem?_reverse hk]
        by_cases a3 : k < i ∨ l.length - i ≤ k
        · rw [if_pos a3]
        · rw [if_neg a3, show l.length - 1 - k = k by omega]
      · rw [List.getElem?_eq_none (by omega), List.getElem?_eq_none (by simp; omega)]
end Go.Proofs.Ytnmljicimdhpmaa.AL

