/- A law of the given program is proved: part 37 of 49. -/
import Derived.Test.YtnmljicimdhpmaaH36
set_option linter.all false
/- (*walk.trail).reach: the range over a function, and what is handed back. -/
set_option linter.all false
namespace Go.Proofs.Ytnmljicimdhpmaa.AL
open Go Go.Proofs Go.RowKit

def kp (l : Nat) : Bool := l == 7 || l == 8
def Hk (n : Nat) (bs : List Bool) : Nat → Option AO := fun l => if l = 7 then some (.row 4 1 (bs.map bool)) else if l = 8 then some (.row 72 1 [.msl 7 n]) else none
/-- The two objects that live through the range, and nothing else. -/
def Er (Es : Env) (Z : Nat → Prop) (W : World) : Env := { Z := Z, w := W, L := fun l => if kp l = true then Es.L l else none, K := Es.K }
theorem VReps.bools {E E' : Env} : ∀ (bs : List Bool) (us : List Value), VReps E (bs.map bool) us → VReps E' (bs.map bool) us
  | [], us, h => by simpa only [List.map_nil, VReps] using h
  | x :: bs, us, h => by
    simp only [List.map_cons, VReps] at h ⊢
    obtain ⟨u, us', h1, h2, h3⟩ := h
    exact ⟨u, us', by simpa only [bool, VRep] using h1, VReps.bools bs us' h2, h3⟩
theorem kp7 : kp 7 = true := rfl
theorem kp8 : kp 8 = true := rfl
/-- All but the two objects is forgotten. -/
theorem HR.shrink {C : Ctx} {Es E : Env} {Z : Nat → Prop} {H : Nat → Option AO} {n : Nat} {bs : List Bool} (hR : HR C E H) (h7 : H 7 = some (.row 4 1 (bs.map bool))) (h8 : H 8 = some (.row 72 1 [.msl 7 n]))
    (hL : ∀ l, kp l = true → E.L l = Es.L l) (hK : Es.K 7 ∧ Es.K 8) (hZ : ∀ b, Z b → E.Z b) : HR C (Er Es Z E.w) (Hk n bs) := by
  have e7 := hR.dom 7
  have e8 := hR.dom 8
  rw [h7, hL 7 rfl] at e7
  rw [h8, hL 8 rfl] at e8
  simp only [Option.isSome_some] at e7 e8
  refine ⟨hR.below, hR.base, fun b hb => hR.zlt b (hZ b hb), ?_, fun b hb => hR.zsrc b (hZ b hb), ?_, ?_, ?_, ?_, ?_⟩
  · intro b hb l c e
    simp only [Er] at e
    split at e
    · rename_i hk; rw [← hL l hk] at e; exact hR.zlive b (hZ b hb) l c e
    · cases e
  · intro l
    simp only [Hk, Er, kp]
    by_cases h : l = 7
    · subst h; simpa using e7
    · by_cases h' : l = 8
      · subst h'; simpa using e8
      · simp [h, h']
  · intro l x e
    simp only [Er, kp] at e
    by_cases h : l = 7
    · subst h; exact hK.1
    · by_cases h' : l = 8
      · subst h'; exact hK.2
      · simp [h, h'] at e
  · intro l l' b c c' e e'
    simp only [Er] at e e'
    split at e
    · split at e'
      · rename_i g g'
        rw [← hL l g] at e
        rw [← hL l' g'] at e'
        exact hR.inj l l' b c c' e e'
      · cases e'
    · cases e
  · intro l o p ho hp
    simp only [Er] at hp
    split at hp
    · rename_i hk
      rw [← hL l hk] at hp
      simp only [Hk] at ho
      by_cases h : l = 7
      · subst h
        simp only [if_true] at ho
        injection ho with ho
        subst ho
        have := hR.obj 7 _ p h7 hp
        cases p with
        | none => simpa only [ORep] using this
        | some q =>
          obtain ⟨b, c⟩ := q
          simp only [ORep] at this ⊢
          obtain ⟨cur, us, g1, g2, g3⟩ := this
          exact ⟨cur, us, g1, VReps.bools _ _ g2, g3⟩
      · by_cases h' : l = 8
        · subst h'
          simp only [if_neg h, if_true] at ho
          injection ho with ho
          subst ho
          have := hR.obj 8 _ p h8 hp
          cases p with
          | none => simpa only [ORep] using this
          | some q =>
            obtain ⟨b, c⟩ := q
            simp only [ORep] at this ⊢
            obtain ⟨cur, us, g1, g2, g3⟩ := this
            refine ⟨cur, us, g1, ?_, g3⟩
            simp only [VReps, VRep] at g2 ⊢
            obtain ⟨u, us', ⟨A, c0, q1, q2, q3, q4, q5, q6⟩, r1, r2⟩ := g2
            refine ⟨u, us', ⟨A, c0, hK.1, q2, q3, q4, ?_, ?_⟩, r1, r2⟩
            · intro b c e; simp only [Er, kp7, if_true] at e; rw [← hL 7 rfl] at e; exact q5 b c e
            · intro e; simp only [Er, kp7, if_true] at e; rw [← hL 7 rfl] at e; exact q6 e
        · simp [h, h'] at ho
    · cases hp
  · intro l b c e
    simp only [Er] at e
    split at e
    · rename_i hk; rw [← hL l hk] at e; exact hR.old l b c e
    · cases e
/-- Over a world that has grown, or turned where there are no cells, it lies as it lay. -/
theorem HR.grown {C : Ctx} {Es : Env} {Z : Nat → Prop} {W W' : World} {n B : Nat} {bs : List Bool} {row : Option Nat} (hR : HR C (Er Es Z W) (Hk n bs)) (hg : W.grownBy W' row) (hrow : ∀ r, row = some r → B ≤ r ∧ ∃ o : Obj, W.heap[r]? = some o ∧ o.isCells = false)
    (hB : C.base ≤ B) (hZ : ∀ b, Z b → b < B) : HR C (Er Es Z W') (Hk n bs) := by
  have hblock : ∀ b, b < W.heap.size → (∀ r, row = some r → b ≠ r) → W'.heap[b]? = W.heap[b]? := fun b hb hr => hg.block b hb (fun e => hr b e.symm rfl)
  refine ⟨?_, Nat.le_trans hR.base hg.size, fun b hb => Nat.lt_of_lt_of_le (hR.zlt b hb) hg.size, hR.zlive, hR.zsrc, hR.dom, hR.known, hR.inj, ?_, fun l b c e => ⟨(hR.old l b c e).1, Nat.lt_of_lt_of_le (hR.old l b c e).2 hg.size⟩⟩
  · refine ⟨hg.os.trans hR.below.os, hg.tape.trans hR.below.tape, hg.output.trans hR.below.output, Nat.le_trans hR.below.size hg.size, fun k hk => ?_⟩
    refine (hblock k (Nat.lt_of_lt_of_le hk hR.base) fun r e => ?_).trans (hR.below.block k hk)
    have := (hrow r e).1
    omega
  · intro l o p ho hp
    have hst : Stab (Er Es Z W) (Er Es Z W') := ⟨fun _ h => h, fun _ _ _ h => h, fun b hb => ⟨hb, hblock b (hR.zlt b hb) fun r e => by have := (hrow r e).1; have := hZ b hb; omega⟩⟩
    have h0 := hR.obj l o p ho hp
    refine ORep.stab hst ?_ h0
    rintro b c rfl
    refine hblock b (hR.old l b c hp).2 fun r e => ?_
    rintro rfl
    obtain ⟨_, ob, g1, g2⟩ := hrow b e
    have : ∃ T sz xs, o = .row T sz xs := by
      simp only [Hk] at ho
      split at ho
      · injection ho with ho; exact ⟨_, _, _, ho.symm⟩
      · split at ho
        · injection ho with ho; exact ⟨_, _, _, ho.symm⟩
        · cases ho
    obtain ⟨T, sz, xs, rfl⟩ := this
    simp only [ORep] at h0
    obtain ⟨cur, us, q1, _⟩ := h0
    have e1 : (Er Es Z W).w.heap[b]? = W.heap[b]? := rfl
    rw [e1, g1] at q1
    injection q1 with q1
    subst q1
    cases g2

section
variable {T : Nat → AV} {H : Nat → Option AO} {nx n : Nat} {x : Entry} {bs : List Bool}
theorem asg_walk (h3 : T 3 = .loc 8 1 0 0) (h31 : T 31 = encEntry x) (g7 : H 7 = some (.row 4 1 (bs.map bool))) (g8 : H 8 = some (.row 72 1 [.msl 7 n])) (hnx : 8 < nx) :
    cw Try.prog 48 c_reach_asg (fun e s => e = .normal ∧ s.T 3 = .loc 8 1 0 0 ∧ (∃ lb, s.T 6 = .loc lb 3 0 0 ∧ lb ≠ 7 ∧ lb ≠ 8 ∧ s.H lb = some (.row 54 3 [encEntry x])) ∧ s.H 7 = some (.row 4 1 (bs.map bool)) ∧ s.H 8 = some (.row 72 1 [.msl 7 n])) ⟨T, H, nx⟩ := by
  have q7 : 7 < nx := by omega
  have kk := And.intro (And.intro (ne2 hnx) (And.intro (ne2' hnx) (lt2 hnx))) (And.intro (ne2 q7) (And.intro (ne2' q7) (lt2 q7)))
  unfold c_reach_asg
  simp only [h3, h31, g7, g8, kk, Int.toNat_natCast, R3, R4, R54, R72, DEntry, EV, ↓EVd, isCall, Nat.reduceAdd, Nat.reduceSub, Nat.reduceMul, Nat.reduceEqDiff, Nat.reduceBEq, Nat.reduceLT, Nat.reduceLeDiff, ↓reduceIte, reduceCtorEq]
  have n7 : (7 = nx) = False := by simp; omega
  have n8 : (8 = nx) = False := by simp; omega
  simp only [n7, n8, if_false, and_true]
  exact ⟨nx, rfl, by omega, by omega, by simp⟩
set_option maxHeartbeats 1000000 in
theorem body_walk (h3 : T 3 = .loc 8 1 0 0) (h6 : T 6 = .ptr (encEntry x) 0) (g7 : H 7 = some (.row 4 1 (bs.map bool))) (g8 : H 8 = some (.row 72 1 [.msl 7 n])) (hnx : 8 < nx) (hn : bs.length = n) (hN : n ≤ 281474976710656) :
    cw Try.prog 48 c_reach_body (fun e s => e = .normal ∧ s.H 7 = some (.row 4 1 ((stepE bs x).map bool)) ∧ s.H 8 = some (.row 72 1 [.msl 7 n])) ⟨T, H, nx⟩ := by
  have q7 : 7 < nx := by omega
  have kk := And.intro (And.intro (ne2 hnx) (And.intro (ne2' hnx) (lt2 hnx))) (And.intro (ne2 q7) (And.intro (ne2' q7) (lt2 q7)))
  unfold c_reach_body
  unfold stepE
  by_cases h1 : 1 ≤ x.ino
  · have e1 := eq_true h1
    by_cases h2 : x.ino ≤ (n : Int)
    · have e2 := eq_true h2
      obtain ⟨x0, hx0⟩ : ∃ x0, bs[(x.ino - 1).toNat]? = some x0 := ⟨bs[(x.ino - 1).toNat]'(by omega), List.getElem?_eq_getElem _⟩
      have e13 : (bs.map bool)[(x.ino - 1).toNat]? = some (bool x0) := by rw [List.getElem?_map, hx0]; rfl
      have e10 : wr (x.ino - 1) = x.ino - 1 := wr_in (by omega) (by omega)
      have e11 : ((0 : Int) ≤ x.ino - 1) = True := eq_true (by omega)
      have e12 : (x.ino - 1 < (n : Int)) = True := eq_true (by omega)
      simp only [e1, e2, e10, e11, e12, e13, h3, h6, g7, g8, kk, hn, and_self, true_and, and_true, if_true, Int.toNat_natCast, R3, R4, R54, R72, DEntry, EV, ↓EVd, isCall, Nat.reduceAdd, Nat.reduceSub, Nat.reduceMul, Nat.reduceEqDiff, Nat.reduceBEq, Nat.reduceLT, Nat.reduceLeDiff, ↓reduceIte, reduceCtorEq]
    · have e2 := eq_false h2
      simp only [e1, e2, h3, h6, g7, g8, kk, hn, and_false, if_false, and_self, true_and, and_true, Int.toNat_natCast, R3, R4, R54, R72, DEntry, EV, ↓EVd, isCall, Nat.reduceAdd, Nat.reduceSub, Nat.reduceMul, Nat.reduceEqDiff, Nat.reduceBEq, Nat.reduceLT, Nat.reduceLeDiff, ↓reduceIte, reduceCtorEq]
  · have e1 := eq_false h1
    simp only [e1, h3, h6, g7, g8, kk, false_and, if_false, and_self, true_and, and_true, Int.toNat_natCast, R3, R4, R54, R72, DEntry, EV, ↓EVd, isCall, Nat.reduceAdd, Nat.reduceSub, Nat.reduceMul, Nat.reduceEqDiff, Nat.reduceBEq, Nat.reduceLT, Nat.reduceLeDiff, ↓reduceIte, reduceCtorEq]
theorem tail_walk (h3 : T 3 = .loc 8 1 0 0) (g7 : H 7 = some (.row 4 1 (bs.map bool))) (g8 : H 8 = some (.row 72 1 [.msl 7 n])) :
    cw Try.prog 48 c_reach_tail (fun e s => e = .ret ∧ s.T 2 = .msl 7 n ∧ s.H 7 = some (.row 4 1 (bs.map bool)) ∧ s.H 8 = some (.row 72 1 [.msl 7 n])) ⟨T, H, nx⟩ := by
  unfold c_reach_tail
  simp only [h3, g7, g8, Int.toNat_natCast, R3, R4, R54, R72, DEntry, EV, ↓EVd, isCall, Nat.reduceAdd, Nat.reduceSub, Nat.reduceMul, Nat.reduceEqDiff, Nat.reduceBEq, Nat.reduceLT, Nat.reduceLeDiff, ↓reduceIte, reduceCtorEq]
end

/-! ### What a round leaves -/
def Xb (Es : Env) (b : Nat) : Prop := ∃ l c, kp l = true ∧ Es.L l = some (some (b, c))
def Z1 (C : Ctx) (Es : Env) (Z : Nat → Prop) (W : World) (b : Nat) : Prop := Z b ∨ (C.base ≤ b ∧ b < W.heap.size ∧ ¬ Xb Es b)
theorem HR.wide {C : Ctx} {Es : Env} {Z : Nat → Prop} {W : World} {H : Nat → Option AO} (hR : HR C (Er Es Z W) H) : HR C (Er Es (Z1 C Es Z W) W) H ∧ Stab (Er Es Z W) (Er Es (Z1 C Es Z W) W) := by
  have hst : Stab (Er Es Z W) (Er Es (Z1 C Es Z W) W) := ⟨fun _ h => h, fun _ _ _ h => h, fun b hb => ⟨.inl hb, rfl⟩⟩
  refine ⟨⟨hR.below, hR.base, ?_, ?_, ?_, hR.dom, hR.known, hR.inj, fun l o p ho hp => ORep.stab hst (fun _ _ _ => rfl) (hR.obj l o p ho hp), hR.old⟩, hst⟩
  · rintro b (hb | hb)
    · exact hR.zlt b hb
    · exact hb.2.1
  · rintro b (hb | hb) l c e
    · exact hR.zlive b hb l c e
    · simp only [Er] at e
      split at e
      · exact hb.2.2 ⟨l, c, ‹_›, e⟩
      · cases e
  · rintro b (hb | hb)
    · exact hR.zsrc b hb
    · exact .inr hb.1
theorem after {C : Ctx} {Es : Env} {Z : Nat → Prop} {W : World} {n k0 : Nat} {bs bs' : List Bool} {s2 : AS} {a2 : Act} {E2 : Env} (hR : HR C (Er Es Z W) (Hk n bs)) (hK : Es.K 7 ∧ Es.K 8)
    (hS : SR C (Er Es (Z1 C Es Z W) W) k0 48 s2 a2 E2) (g7 : s2.H 7 = some (.row 4 1 (bs'.map bool))) (g8 : s2.H 8 = some (.row 72 1 [.msl 7 n])) :
    HR C (Er Es Z E2.w) (Hk n bs') ∧ W.heap.size ≤ E2.w.heap.size ∧ (∀ b o, ¬ Xb Es b → W.heap[b]? = some o → E2.w.heap[b]? = some o) := by
  have hL : ∀ l, kp l = true → E2.L l = Es.L l := by
    intro l hl
    have hk : (Er Es (Z1 C Es Z W) W).K l := by
      simp only [kp, Bool.or_eq_true, beq_iff_eq] at hl
      rcases hl with rfl | rfl
      · exact hK.1
      · exact hK.2
    have hd := hS.heap.dom l
    have : (s2.H l).isSome = true := by
      simp only [kp, Bool.or_eq_true, beq_iff_eq] at hl
      rcases hl with rfl | rfl
      · rw [g7]; rfl
      · rw [g8]; rfl
    rw [this] at hd
    obtain ⟨p, hp⟩ := Option.isSome_iff_exists.1 hd.symm
    have := hS.stab.L l hk p hp
    simp only [Er, hl, if_true] at this
    rw [hp, this]
  have hZ : ∀ b, Z b → E2.Z b := fun b hb => (hS.stab.Z b (.inl hb)).1
  have hkeep : ∀ b o, ¬ Xb Es b → W.heap[b]? = some o → E2.w.heap[b]? = some o := by
    intro b o hx ho
    by_cases hb : b < C.base
    · rw [hS.heap.below.block b hb, ← hR.below.block b hb]; exact ho
    · have hlt : b < W.heap.size := (Array.getElem?_eq_some_iff.1 ho).1
      rw [(hS.stab.Z b (.inr ⟨by omega, hlt, hx⟩)).2]; exact ho
  refine ⟨HR.shrink hS.heap g7 g8 hL hK hZ, ?_, hkeep⟩
  by_cases h0 : W.heap.size ≤ C.base
  · exact Nat.le_trans h0 hS.heap.base
  · have hlt : W.heap.size - 1 < W.heap.size := by omega
    by_cases hx : Xb Es (W.heap.size - 1)
    · obtain ⟨l, c, hl, e⟩ := hx
      rw [← hL l hl] at e
      have := (hS.heap.old l _ c e).2
      omega
    · have := hkeep (W.heap.size - 1) W.heap[W.heap.size - 1] hx (Array.getElem?_eq_getElem hlt)
      have := (Array.getElem?_eq_some_iff.1 this).1
      omega
def nK (K : AS → Prop) : Exit → AS → Prop := fun e s => e = .normal ∧ K s
theorem peel {P : Program} {n m k0 : Nat} {K : AS → Prop} {C : Ctx} {E0 E : Env} {a : Act} {s : AS} {Q : Exit → Act → World → Prop} {c1 c2 : Code} {x y : AC} (hc : comp n c1 = some x) (h : cw P n (.seq x y) (nK K) s) (hk : k0 ≤ s.nx) (hS : SR C E0 k0 n s a E)
    (k : ∀ s' a' E', cw P n y (nK K) s' → k0 ≤ s'.nx → SR C E0 k0 n s' a' E' → c2.wpIn Fence.wide m P Q a' E'.w) : (Code.seq c1 c2).wpIn Fence.wide m P Q a E.w := by
  refine wpIn_seq (wpIn_mono (wpIn_wide.2 (cw_cwp x h c1 hc C E0 k0 E a hk hS)) ?_)
  rintro e a' w' ⟨s', E', h1, h2, h3, rfl⟩
  cases e with
  | normal => exact k s' a' E' h1 h2 h3
  | exit id => exact absurd h1.1 (by simp)
  | goto l => exact absurd h1.1 (by simp)
  | ret => exact absurd h1.1 (by simp)
  | panic ch => exact absurd h1.1 (by simp)
  | outgrown => exact absurd h1.1 (by simp)
end Go.Proofs.Ytnmljicimdhpmaa.AL

/- AL: the rules of the generated walks, in short forms. -/
set_option linter.all false
namespace Go.Proofs.Ytnmljicimdhpmaa.AL
open Go Go.Proofs Go.RowKit
section
variable {α β : Type} {r : β}
theorem iteE {p : Prop} [Decidable p] {a b : Option β} (h : (if p then a else b) = some r) : (p = True ∧ a = some r) ∨ (p = False ∧ b = some r) := by
  by_cases hp : p
  · rw [if_pos hp] at h; exact .inl ⟨eq_true hp, h⟩
  · rw [if_neg hp] at h; exact .inr ⟨eq_false hp, h⟩
theorem itbE {c : Bool} {a b : Option β} (h : (if c = true then a else b) = some r) : (c = true ∧ a = some r) ∨ (c = false ∧ b = some r) := by
  cases c
  · exact .inr ⟨rfl, h⟩
  · exact .inl ⟨rfl, h⟩
theorem bsE {x : Option α} {f : α → Option β} (h : x.bind f = some r) : ∃ v, x = some v ∧ f v = some r := by
  cases x with
  | none => cases h
  | some v => exact ⟨v, rfl, h⟩
theorem ixE (g : α → AV) {xs : List α} {n : Int} {f : α → Option β} (h : (ix xs n).bind f = some r) : ∃ v, ((0 ≤ n) = True ∧ (n < xs.length) = True ∧ (xs.map g)[n.toNat]? = some (g v)) ∧ f v = some r := by
  obtain ⟨v, h1, h2⟩ := bsE h
  exact ⟨v, ⟨eq_true (ix_nonneg h1), eq_true (ix_lt h1), ix_enc g h1⟩, h2⟩
theorem ixBE {s : ByteArray} {n : Int} {f : UInt8 → Option β} (h : (ixB s n).bind f = some r) : ∃ v, ((0 ≤ n) = True ∧ s[n.toNat]? = some v) ∧ f v = some r := by
  obtain ⟨v, h1, h2⟩ := bsE h
  exact ⟨v, ⟨ixB_nonneg h1, (ixB_some h1).2⟩, h2⟩
theorem ckE {p : Prop} [Decidable p] {f : Unit → Option β} (h : (ck p).bind f = some r) : p ∧ f () = some r := by
  obtain ⟨v, h1, h2⟩ := bsE h
  exact ⟨ck_some h1, h2⟩
theorem apE {k : Nat} {xs ys : List α} {f : List α → Option β} (h : (ap k xs ys).bind f = some r) : ((xs.length + ys.length) * k ≤ 140737488355328 ∧ xs.length + ys.length ≤ 9223372036854775807) ∧ f (xs ++ ys) = some r := by
  obtain ⟨v, h1, h2⟩ := bsE h
  obtain ⟨rfl, h3⟩ := ap_some h1
  exact ⟨h3, h2⟩
end
/-- An older name, and the names to come. -/
def Lq (l nx : Nat) : Prop := l < nx ∧ (∀ a, (l = nx + a) = False) ∧ (∀ a, (nx + a = l) = False) ∧ (∀ a, (l < nx + a) = True) ∧ (l = nx) = False ∧ (nx = l) = False
theorem lq {l nx : Nat} (h : l < nx) : Lq l nx := ⟨h, ne2 h, ne2' h, lt2 h, eq_false (by omega), eq_false (by omega)⟩
def Nq (a b : Nat) : Prop := a ≠ b ∧ (a = b) = False ∧ (b = a) = False
theorem nq {a b : Nat} (h : a ≠ b) : Nq a b := ⟨h, eq_false h, eq_false h.symm⟩
section
variable {P : Program} {n : Nat} {Q : Exit → AS → Prop} {s : AS}
theorem cwp_lp {σ ρ : Type} {x : AC} {B : σ → Option (St σ ρ)} {o : ρ} {k0 : Nat} {x0 : σ} (ho : iter B k0 x0 = some o) (R : σ → AS → Prop) (h0 : TI n (R x0) s)
    (round : ∀ (I : AS → Prop) (z : σ) (T : Nat → AV) (H : Nat → Option AO) (nx : Nat) (st : St σ ρ), R z ⟨T, H, nx⟩ → B z = some st → (∀ z', st = .nx z' → ∀ s', R z' s' → I s') → (∀ r, st = .out r → r = o) → cw P n x (seqQ (TI n I) Q) ⟨T, H, nx⟩) : cwp P n (.loop x) Q s := by
  refine cwp_iter (fun k s => ∃ z, R z s ∧ iter B k z = some o) k0 ?_ ?_ ?_
  · obtain ⟨s', h1, h2⟩ := h0
    exact ⟨s', h1, x0, h2, ho⟩
  · rintro s ⟨z, _, h⟩
    simp [iter_zero] at h
  · rintro k ⟨T, H, nx⟩ ⟨z, hz, hi⟩
    rw [iter_succ] at hi
    obtain ⟨st, h1, h2⟩ := bsE hi
    refine cw_cwp _ (round (fun s => ∃ z, R z s ∧ iter B k z = some o) z T H nx st hz h1 ?_ ?_)
    · rintro z' rfl s' hs
      exact ⟨z', hs, h2⟩
    · rintro r rfl
      exact Option.some.inj h2
theorem cwp_sl {σ ρ : Type} {a b : AC} (l : Nat) {B : σ → Option (St σ ρ)} {o : ρ} {k0 : Nat} {x0 : σ} (ho : iter B (k0 + 1) x0 = some o) (R : σ → AS → Prop) (hf : findA (.seq a (.seq (.label l) b)) l = some (.seq .skip b))
    (pre : ∀ K : AS → Prop, (∀ s', TI n (R x0) s' → K s') → cw P n a (seqQ K (jumpQ l (fun _ => False) Q)) s)
    (round : ∀ (I : AS → Prop) (z : σ) (T : Nat → AV) (H : Nat → Option AO) (nx : Nat) (st : St σ ρ), R z ⟨T, H, nx⟩ → B z = some st → (∀ z', st = .nx z' → ∀ s', R z' s' → I s') → (∀ r, st = .out r → r = o) → cw P n b (jumpQ l (TI n I) Q) ⟨T, H, nx⟩) : cwp P n (.scope (.seq a (.seq (.label l) b))) Q s := by
  refine cwp_scopeL l (fun k s => ∃ z, R z s ∧ iter B k z = some o) k0 hf ?_ ?_ ?_
  · rintro s ⟨z, _, h⟩
    simp [iter_zero] at h
  · intro K hK
    refine cw_cwp _ (pre K fun s' hs => hK s' ?_)
    obtain ⟨s2, h1, h2⟩ := hs
    exact ⟨s2, h1, x0, h2, ho⟩
  · rintro k ⟨T, H, nx⟩ ⟨z, hz, hi⟩
    rw [iter_succ] at hi
    obtain ⟨st, h1, h2⟩ := bsE hi
    refine cw_cwp _ (round (fun s => ∃ z, R z s ∧ iter B k z = some o) z T H nx st hz h1 ?_ ?_)
    · rintro z' rfl s' hs
      exact ⟨z', hs, h2⟩
    · rintro r rfl
      exact Option.some.inj h2
theorem cwp_cx {x : AC} (id : Nat) (J0 : AS → Prop) (k : ∀ T H nx, J0 ⟨T, H, nx⟩ → Q (.exit id) ⟨T, H, nx⟩) (h : ∀ J : AS → Prop, (∀ s, J0 s → J s) → cwp P n x (exQ id (TI n J) Q) s) : cwp P n x Q s :=
  cwp_cut id J0 (h J0 fun _ h => h) fun ⟨T, H, nx⟩ hs => k T H nx hs
theorem cwp_cn {x : AC} (J0 : AS → Prop) (k : ∀ T H nx, J0 ⟨T, H, nx⟩ → Q .normal ⟨T, H, nx⟩) (h : ∀ J : AS → Prop, (∀ s, J0 s → J s) → cwp P n x (nmQ (TI n J) Q) s) : cwp P n x Q s :=
  cwp_cutN J0 (h J0 fun _ h => h) fun ⟨T, H, nx⟩ hs => k T H nx hs
end
/-! ### What is read off, by equations -/
def fzC : Option AV → Option (List AV) → Option (List AV)
  | some y, some ys => some (y :: ys)
  | _, _ => none
def fzF (f : Fn) : Option (List AV) → Option (List AV) → Option AV
  | some a, some b => some (.fn f a b)
  | _, _ => none
def fzM (H : Nat → Option AO) (k n : Nat) : Option AO → Option AV
  | some (.row _ s xs) => if n = xs.length then (frzs H k xs).map (.sl s) else none
  | _ => none
def fzP (H : Nat → Option AO) (k off : Nat) : Option AV → Option AV
  | some y => (frz H k y).map fun z => .ptr z off
  | _ => none
def fzL (H : Nat → Option AO) (k sz i off : Nat) : Option AO → Option AV
  | some (.row _ sz' xs) => if sz = sz' then fzP H k off (xs[i]?) else none
  | _ => none
section
variable (H : Nat → Option AO) (k : Nat)
theorem fz_clo (x : AV) (h : closed x = true) : frz H k x = some x := frz_closed h H k
theorem fz_clos (xs : List AV) (h : closeds xs = true) : frzs H k xs = some xs := frzs_closed h H k
theorem fz_cons (x : AV) (xs : List AV) : frzs H (k + 1) (x :: xs) = fzC (frz H k x) (frzs H k xs) := by
  by_cases hc : closeds (x :: xs) = true
  · rw [frzs_closed hc]
    simp only [closeds, Bool.and_eq_true] at hc
    rw [frz_closed hc.1, frzs_closed hc.2]; rfl
  · conv => lhs; unfold frzs
    rw [if_neg hc]
    dsimp only
    cases frz H k x <;> cases frzs H k xs <;> rfl
theorem fz_agg (cs : List AV) : frz H (k + 1) (.agg cs) = (frzs H k cs).map .agg := by
  by_cases hc : closed (.agg cs) = true
  · rw [frz_closed hc]; simp only [closed] at hc; rw [frzs_closed hc]; rfl
  · conv => lhs; unfold frz
    rw [if_neg hc]
theorem fz_tup (cs : List AV) : frz H (k + 1) (.tup cs) = (frzs H k cs).map .tup := by
  by_cases hc : closed (.tup cs) = true
  · rw [frz_closed hc]; simp only [closed] at hc; rw [frzs_closed hc]; rfl
  · conv => lhs; unfold frz
    rw [if_neg hc]
theorem fz_ptr (y : AV) (off : Nat) : frz H (k + 1) (.ptr y off) = (frz H k y).map fun z => .ptr z off := by
  by_cases hc : closed (.ptr y off) = true
  · rw [frz_closed hc]; simp only [closed] at hc; rw [frz_closed hc]; rfl
  · conv => lhs; unfold frz
    rw [if_neg hc]
theorem fz_fn (f : Fn) (a b : List AV) : frz H (k + 1) (.fn f a b) = fzF f (frzs H k a) (frzs H k b) := by
  by_cases hc : closed (.fn f a b) = true
  · rw [frz_closed hc]; simp only [closed, Bool.and_eq_true] at hc; rw [frzs_closed hc.1, frzs_closed hc.2]; rfl
  · conv => lhs; unfold frz
    rw [if_neg hc]
    dsimp only
    cases frzs H k a <;> cases frzs H k b <;> rfl
theorem fz_mp (l : Nat) : frz H (k + 1) (.mp l) = some .junk := by simp [frz, closed]
theorem fz_msl (l n : Nat) : frz H (k + 1) (.msl l n) = fzM H k n (H l) := by
  unfold frz fzM
  simp only [closed, Bool.false_eq_true, if_false]
  cases H l with
  | none => rfl
  | some o => cases o <;> rfl
theorem fz_loc (l sz i off : Nat) : frz H (k + 1) (.loc l sz i off) = fzL H k sz i off (H l) := by
  unfold frz fzL fzP
  simp only [closed, Bool.false_eq_true, if_false]
  cases H l with
  | none => rfl
  | some o =>
    cases o <;> try rfl
    rename_i T s xs
    simp only
    split
    · cases xs[i]? <;> rfl
    · rfl
theorem fzM_row (n T s : Nat) (xs : List AV) : fzM H k n (some (.row T s xs)) = if n = xs.length then (frzs H k xs).map (.sl s) else none := _root_.id rfl
theorem fzL_row (sz i off T s : Nat) (xs : List AV) : fzL H k sz i off (some (.row T s xs)) = if sz = s then fzP H k off (xs[i]?) else none := _root_.id rfl
theorem fzP_some (off : Nat) (y : AV) : fzP H k off (some y) = (frz H k y).map fun z => .ptr z off := _root_.id rfl
theorem fzC_some (y : AV) (ys : List AV) : fzC (some y) (some ys) = some (y :: ys) := _root_.id rfl
theorem fzF_some (f : Fn) (a b : List AV) : fzF f (some a) (some b) = some (.fn f a b) := _root_.id rfl
end
def FZ := And.intro (And.intro (And.intro (And.intro (@fz_clo) (@fz_clos)) (And.intro (@fz_cons) (@fz_agg))) (And.intro (And.intro (@fz_tup) (@fz_ptr)) (And.intro (@fz_fn) (@fz_mp)))) (And.intro (And.intro (And.intro (@fz_msl) (@fz_loc)) (And.intro (@fzM_row) (@fzL_row))) (And.intro (And.intro (@fzP_some) (@fzC_some)) (And.intro (@fzF_some) (@z_omap_some AV AV))))
def FK := And.intro (And.intro (@fk_nil) (@fk_clo)) (And.intro (@fkK_row) (And.intro (@fk_msl) (@fkO_some)))
theorem frzR_e {r x : AV} {H : Nat → Option AO} {nx : Nat} (h : frz H 9 x = some r) : frzR r x H nx := ⟨9, r, h, Sub.refl _⟩
/-! ### Calls -/
/-- A call that reads what it is given and hands back what is new. -/
def OkN (P : Program) (f : FuncId) (args : List AV) (r : AV) : Prop :=
  callable P f = true ∧ ∀ (Z : Nat → Prop) (w : World) (vals : List Value), ZG Z w → VReps (Ec Z w) args vals →
    Calls P f vals.toArray w fun e w' => ∃ v, e = .returned v ∧ Below w.heap.size w w' ∧ VRep (Ec (fun b => w.heap.size ≤ b ∧ b < w'.heap.size) w') r v
theorem OkN.sub {P : Program} {f : FuncId} {ag ag' : List AV} {r : AV} (h : OkN P f ag' r) (hs : Subs ag ag') : OkN P f ag r := ⟨h.1, fun Z w vals hZ hv => h.2 Z w vals hZ (hs _ _ hv)⟩
theorem S1_okn {P : Program} {H : Nat → Option AO} {nx new : Nat} {ρ : Operand → AV} {k : AV → (Nat → Option AO) → Nat → Prop} {c : Call} {f : FuncId} {ag ag' : List AV} {r : AV} (m : Nat) (h : OkN P f ag' r) (hc : callArgs ρ c = some (f, ag)) (hm : frzs H m ag = some ag') (hk : k r H nx) :
    Sem1 P (.call c) H nx new ρ k := by
  intro o ho C E a hR hρ hn hb hnx next Q hnext
  obtain ⟨vals, h1, h2⟩ := callArgs_run (P := P) ho hρ hc h.1
  unfold Oper.wp
  rw [h2, Oper.upon_enter]
  refine (h.2 (Zall E) E.w vals ⟨?_, hR.gw⟩ ((frz_sound hR m).2 _ _ _ hm h1)).mono ?_
  · intro b hz
    rcases hz with hz | ⟨l, c, hz⟩
    · exact hR.zlt b hz
    · exact (hR.old l b c hz).2
  rintro e w' ⟨v, rfl, hb, hv⟩
  obtain ⟨k1, k2⟩ := after_ok hR hb
  refine hnext r v H nx _ hk ?_ k1 k2 (Nat.le_refl _) fun l kl => .inl kl
  exact hv.stab (Ec.stab (E := { E with w := w', Z := fun b => E.Z b ∨ (E.w.heap.size ≤ b ∧ b < w'.heap.size) }) fun b hz => .inr hz)
section
variable {P : Program} {H H' : Nat → Option AO} {nx new : Nat} {ρ : Operand → AV} {k : AV → (Nat → Option AO) → Nat → Prop} {c : Call} {f : FuncId} {ag ag' ag2 : List AV} {r : AV}
theorem qc (h : Ok P f ag r) (hc : callArgs ρ c = some (f, ag)) (hk : k r H nx) (hcl : closeds ag = true := by simp only [CLO]) : Sem1 P (.call c) H nx new ρ k := S1_ok h hc hcl hk
theorem qcb (h : Ok P f ag' r) (hc : callArgs ρ c = some (f, ag)) (hm : frzs H 9 ag = some ag') (hk : k r H nx) (hfl : flat r = true := by rfl) : Sem1 P (.call c) H nx new ρ k := S1_okb 9 h hc hm hfl hk
theorem qcn (h : OkN P f ag' r) (hc : callArgs ρ c = some (f, ag)) (hm : frzs H 9 ag = some ag') (hk : k r H nx) : Sem1 P (.call c) H nx new ρ k := S1_okn 9 h hc hm hk
end
/-! ### Calls in draws of the finer kind -/
def MT := And.intro (And.intro (And.intro (And.intro (@meetA_nil) (@meetA_cons)) (And.intro (@meetR_nil) (@meetR_cons))) (And.intro (And.intro (@dis_nil) (@dis_cons)) (And.intro (@ne1_nil) (@ne1_cons)))) (And.intro (And.intro (And.intro (@vw_app) (@vw_app0)) (And.intro (@tbK_t) (@tbK_f))) (And.intro (And.intro (@z_tb) (And.intro (@true_and) (@and_true))) (And.intro (@z_bne) (And.intro Nat.zero_add Nat.add_zero))))
def fkU : List AV → Upds
  | [] => []
  | x :: xs => match x with
    | .msl l _ => (l, none) :: fkU xs
    | _ => fkU xs
theorem fkU_nil : fkU [] = [] := _root_.id rfl
theorem fkU_msl (l m : Nat) (xs : List AV) : fkU (.msl l m :: xs) = (l, none) :: fkU xs := _root_.id rfl
theorem fkU_clo (x : AV) (xs : List AV) (h : closed x = true) : fkU (x :: xs) = fkU xs := by
  cases x <;> first
    | rfl
    | (simp [closed] at h; done)
def FU := And.intro (@fkU_nil) (And.intro (@fkU_msl) (@fkU_clo))
theorem SubH.kill {V H : Nat → Option AO} (h : SubH V H) (l : Nat) : SubH (upd V l none) (upd H l none) := by
  intro j o e
  simp only [upd_at] at e ⊢
  split
  · rename_i e'; rw [if_pos e'] at e; cases e
  · rename_i e'; rw [if_neg e'] at e; exact h j o e
theorem fk_mono : ∀ (xs ys : List AV) (V V' H : Nat → Option AO), SubH V H → fk V xs = some (ys, V') → fk H xs = some (ys, applyU H (fkU xs))
  | [], ys, V, V', H, hs, h => by
    simp only [fk, Option.some.injEq, Prod.mk.injEq] at h
    obtain ⟨rfl, rfl⟩ := h
    rfl
  | x :: xs, ys, V, V', H, hs, h => by
    have plain : closed x = true → fkO (some x) (fk V xs) = some (ys, V') → fkO (some x) (fk H xs) = some (ys, applyU H (fkU (x :: xs))) := by
      intro hc h
      rw [fkU_clo _ _ hc]
      cases hx : fk V xs with
      | none => rw [hx] at h; cases h
      | some q =>
        obtain ⟨zs, V2⟩ := q
        rw [hx] at h
        simp only [fkO, Option.some.injEq, Prod.mk.injEq] at h
        obtain ⟨rfl, rfl⟩ := h
        rw [fk_mono xs zs V V2 H hs hx]
        rfl
    unfold fk at h ⊢
    split at h
    · rename_i l m
      cases hx : fk (upd V l none) xs with
      | none => rw [hx] at h; unfold fkO at h; split at h <;> first | (cases h; done) | (simp_all; done)
      | some q =>
        obtain ⟨zs, V2⟩ := q
        cases hk : fkK m (V l) with
        | none => rw [hk] at h; simp [fkO] at h
        | some y =>
          rw [hk, hx] at h
          simp only [fkO, Option.some.injEq, Prod.mk.injEq] at h
          obtain ⟨rfl, rfl⟩ := h
          have hH : fkK m (H l) = some y := by
            cases hv : V l with
            | none => rw [hv] at hk; simp [fkK] at hk
            | some ob => rw [hs l ob hv, ← hv]; exact hk
          simp only [hH]
          rw [fk_mono xs zs _ V2 (upd H l none) (hs.kill l) hx]
          rfl
    · split at h
      · rename_i hc
        rw [if_pos hc]
        exact plain hc h
      · cases h
theorem OpSL_okk {P : Program} {V V' : Nat → Option AO} {new : Nat} {ρ : Operand → AV} {c : Call} {f : FuncId} {ag ag' : List AV} {r : AV} (h : Ok P f ag' r) (hc : callArgs ρ c = some (f, ag)) (hf : fk V ag = some (ag', V')) : OpSL P (.call c) V ρ new r (fkU ag) := by
  intro o ho C E H a hR hV hρ hn next Q hnext
  obtain ⟨vals, h1, h2⟩ := callArgs_run (P := P) ho hρ hc h.1
  obtain ⟨E', g1, g2, g3, g4, g5, g6⟩ := fk_sound ag E H vals ag' _ hR h1 (fk_mono _ _ _ _ _ hV hf)
  unfold Oper.wp
  rw [h2, Oper.upon_enter]
  have h3 := h.2 E'.Z E'.w vals ⟨g1.zlt, g1.gw⟩ (VReps.close (fun b hz => hz) _ _ g6 g5)
  rw [g4] at h3
  refine h3.mono ?_
  rintro e w' ⟨v, rfl, hb', hv⟩
  rw [← g4] at hb'
  obtain ⟨k1, k2⟩ := after_ok g1 hb'
  refine hnext v _ ?_ k1 (g2.trans k2) fun l kl => .inl (g3 l kl)
  refine hv.stab (Ec.stab (E := { E' with w := w', Z := fun b => E'.Z b ∨ (E'.w.heap.size ≤ b ∧ b < w'.heap.size) }) fun b hz => ?_)
  rw [g4]
  exact hz
section
variable {P : Program} {V V' : Nat → Option AO} {W : List Nat} {new : Nat} {ρ : Operand → AV} {c : Call} {f : FuncId} {ag ag' ag2 : List AV} {r : AV} {K : AV → Upds → Prop}
theorem OpSL_of1 (h : OpS1 P (.call c) V ρ new r) : OpSL P (.call c) V ρ new r [] := h
theorem qv (h : Ok P f ag r) (hc : callArgs ρ c = some (f, ag)) (hk : K r []) (hcl : closeds ag = true := by simp only [CLO]) : ∃ v us, OpSL P (.call c) V ρ new v us ∧ okL W new us ∧ K v us := ⟨_, [], OpSL_of1 (OpS1_ok h hc hcl), trivial, hk⟩
theorem qvk (h : Ok P f ag' r) (hc : callArgs ρ c = some (f, ag)) (hf : fk V ag = some (ag', V')) (hw : okL W new (fkU ag)) (hk : K r (fkU ag)) : ∃ v us, OpSL P (.call c) V ρ new v us ∧ okL W new us ∧ K v us := ⟨_, _, OpSL_okk h hc hf, hw, hk⟩
end
theorem okG {P : Program} {f : FuncId} {n : Nat} {rs : List ResultVar} {ac : AC} (hf : FnC P f n rs ac) {args : List AV} {r : AV} (h : cw P n ac (finQ P rs (frzR r)) ⟨argT args, fun _ => none, 0⟩) (hn : args.length ≤ n := by simp) : Ok P f args r := okF hf hn h
end Go.Proofs.Ytnmljicimdhpmaa.AL

