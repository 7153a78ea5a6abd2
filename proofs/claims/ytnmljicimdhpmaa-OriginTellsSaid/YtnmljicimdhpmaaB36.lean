/- What of the attributes of any stack, and of any node, may not be, is what the document says: part 36 of 53. -/
import Derived.Test.YtnmljicimdhpmaaB35
set_option linter.all false
/- (*walk.trail).reach: the range over a function, and what is handed back. -/
set_option linter.all false
namespace Go.Proofs.Ytnmljicimdhpmaa.AL
open Go Go.Proofs Go.RowKit

def kp (l : Nat) : Bool := l == 7 || l == 8
def Hk (n : Nat) (bs : List Bool) : Nat → Option AO := fun l => if l = 7 then some (.row 4 1 (bs.map bool)) else if l = 8 then some (.row 72 1 [.msl 7 n]) else none
/-- The two objects that live through the range, and nothing else. -/
def Er (Es : Env) (Z : Nat → Prop) (W : World) : Env := { Z := Z, w := W, L := fun l => if kp l = true then Es.L l else none, K := Es.K }
theorem VReps.bools {E E' : Env} : ∀ (bs : List Bool) (us : List Value), VReps E (bs.map bool) us → VReps E' (bs.map bool) us
  | [], us, h => by simpa only [List.map_nil, VReps] using h
  | x :: bs, us, h => by
    simp only [List.map_cons, VReps] at h ⊢
    obtain ⟨u, us', h1, h2, h3⟩ := h
    exact ⟨u, us', by simpa only [bool, VRep] using h1, VReps.bools bs us' h2, h3⟩
theorem kp7 : kp 7 = true := rfl
theorem kp8 : kp 8 = true := rfl
/-- All but the two objects is forgotten. -/
theorem HR.shrink {C : Ctx} {Es E : Env} {Z : Nat → Prop} {H : Nat → Option AO} {n : Nat} {bs : List Bool} (hR : HR C E H) (h7 : H 7 = some (.row 4 1 (bs.map bool))) (h8 : H 8 = some (.row 72 1 [.msl 7 n]))
    (hL : ∀ l, kp l = true → E.L l = Es.L l) (hK : Es.K 7 ∧ Es.K 8) (hZ : ∀ b, Z b → E.Z b) : HR C (Er Es Z E.w) (Hk n bs) := by
  have e7 := hR.dom 7
  have e8 := hR.dom 8
  rw [h7, hL 7 rfl] at e7
  rw [h8, hL 8 rfl] at e8
  simp only [Option.isSome_some] at e7 e8
  refine ⟨hR.below, hR.base, fun b hb => hR.zlt b (hZ b hb), ?_, fun b hb => hR.zsrc b (hZ b hb), ?_, ?_, ?_, ?_, ?_⟩
  · intro b hb l c e
    simp only [Er] at e
    split at e
    · rename_i hk; rw [← hL l hk] at e; exact hR.zlive b (hZ b hb) l c e
    · cases e
  · intro l
    simp only [Hk, Er, kp]
    by_cases h : l = 7
    · subst h; simpa using e7
    · by_cases h' : l = 8
      · subst h'; simpa using e8
      · simp [h, h']
  · intro l x e
    simp only [Er, kp] at e
    by_cases h : l = 7
    · subst h; exact hK.1
    · by_cases h' : l = 8
      · subst h'; exact hK.2
      · simp [h, h'] at e
  · intro l l' b c c' e e'
    simp only [Er] at e e'
    split at e
    · split at e'
      · rename_i g g'
        rw [← hL l g] at e
        rw [← hL l' g'] at e'
        exact hR.inj l l' b c c' e e'
      · cases e'
    · cases e
  · intro l o p ho hp
    simp only [Er] at hp
    split at hp
    · rename_i hk
      rw [← hL l hk] at hp
      simp only [Hk] at ho
      by_cases h : l = 7
      · subst h
        simp only [if_true] at ho
        injection ho with ho
        subst ho
        have := hR.obj 7 _ p h7 hp
        cases p with
        | none => simpa only [ORep] using this
        | some q =>
          obtain ⟨b, c⟩ := q
          simp only [ORep] at this ⊢
          obtain ⟨cur, us, g1, g2, g3⟩ := this
          exact ⟨cur, us, g1, VReps.bools _ _ g2, g3⟩
      · by_cases h' : l = 8
        · subst h'
          simp only [if_neg h, if_true] at ho
          injection ho with ho
          subst ho
          have := hR.obj 8 _ p h8 hp
          cases p with
          | none => simpa only [ORep] using this
          | some q =>
            obtain ⟨b, c⟩ := q
            simp only [ORep] at this ⊢
            obtain ⟨cur, us, g1, g2, g3⟩ := this
            refine ⟨cur, us, g1, ?_, g3⟩
            simp only [VReps, VRep] at g2 ⊢
            obtain ⟨u, us', ⟨A, c0, q1, q2, q3, q4, q5, q6⟩, r1, r2⟩ := g2
            refine ⟨u, us', ⟨A, c0, hK.1, q2, q3, q4, ?_, ?_⟩, r1, r2⟩
            · intro b c e; simp only [Er, kp7, if_true] at e; rw [← hL 7 rfl] at e; exact q5 b c e
            · intro e; simp only [Er, kp7, if_true] at e; rw [← hL 7 rfl] at e; exact q6 e
        · simp [h, h'] at ho
    · cases hp
  · intro l b c e
    simp only [Er] at e
    split at e
    · rename_i hk; rw [← hL l hk] at e; exact hR.old l b c e
    · cases e
/-- Over a world that has grown, or turned where there are no cells, it lies as it lay. -/
theorem HR.grown {C : Ctx} {Es : Env} {Z : Nat → Prop} {W W' : World} {n B : Nat} {bs : List Bool} {row : Option Nat} (hR : HR C (Er Es Z W) (Hk n bs)) (hg : W.grownBy W' row) (hrow : ∀ r, row = some r → B ≤ r ∧ ∃ o : Obj, W.heap[r]? = some o ∧ o.isCells = false)
    (hB : C.base ≤ B) (hZ : ∀ b, Z b → b < B) : HR C (Er Es Z W') (Hk n bs) := by
  have hblock : ∀ b, b < W.heap.size → (∀ r, row = some r → b ≠ r) → W'.heap[b]? = W.heap[b]? := fun b hb hr => hg.block b hb (fun e => hr b e.symm rfl)
  refine ⟨?_, Nat.le_trans hR.base hg.size, fun b hb => Nat.lt_of_lt_of_le (hR.zlt b hb) hg.size, hR.zlive, hR.zsrc, hR.dom, hR.known, hR.inj, ?_, fun l b c e => ⟨(hR.old l b c e).1, Nat.lt_of_lt_of_le (hR.old l b c e).2 hg.size⟩⟩
  · refine ⟨hg.os.trans hR.below.os, hg.tape.trans hR.below.tape, hg.output.trans hR.below.output, Nat.le_trans hR.below.size hg.size, fun k hk => ?_⟩
    refine (hblock k (Nat.lt_of_lt_of_le hk hR.base) fun r e => ?_).trans (hR.below.block k hk)
    have := (hrow r e).1
    omega
  · intro l o p ho hp
    have hst : Stab (Er Es Z W) (Er Es Z W') := ⟨fun _ h => h, fun _ _ _ h => h, fun b hb => ⟨hb, hblock b (hR.zlt b hb) fun r e => by have := (hrow r e).1; have := hZ b hb; omega⟩⟩
    have h0 := hR.obj l o p ho hp
    refine ORep.stab hst ?_ h0
    rintro b c rfl
    refine hblock b (hR.old l b c hp).2 fun r e => ?_
    rintro rfl
    obtain ⟨_, ob, g1, g2⟩ := hrow b e
    have : ∃ T sz xs, o = .row T sz xs := by
      simp only [Hk] at ho
      split at ho
      · injection ho with ho; exact ⟨_, _, _, ho.symm⟩
      · split at ho
        · injection ho with ho; exact ⟨_, _, _, ho.symm⟩
        · cases ho
    obtain ⟨T, sz, xs, rfl⟩ := this
    simp only [ORep] at h0
    obtain ⟨cur, us, q1, _⟩ := h0
    have e1 : (Er Es Z W).w.heap[b]? = W.heap[b]? := rfl
    rw [e1, g1] at q1
    injection q1 with q1
    subst q1
    cases g2

section
variable {T : Nat → AV} {H : Nat → Option AO} {nx n : Nat} {x : Entry} {bs : List Bool}
theorem asg_walk (h3 : T 3 = .loc 8 1 0 0) (h31 : T 31 = encEntry x) (g7 : H 7 = some (.row 4 1 (bs.map bool))) (g8 : H 8 = some (.row 72 1 [.msl 7 n])) (hnx : 8 < nx) :
    cw Try.prog 48 c_reach_asg (fun e s => e = .normal ∧ s.T 3 = .loc 8 1 0 0 ∧ (∃ lb, s.T 6 = .loc lb 3 0 0 ∧ lb ≠ 7 ∧ lb ≠ 8 ∧ s.H lb = some (.row 54 3 [encEntry x])) ∧ s.H 7 = some (.row 4 1 (bs.map bool)) ∧ s.H 8 = some (.row 72 1 [.msl 7 n])) ⟨T, H, nx⟩ := by
  have q7 : 7 < nx := by omega
  have kk := And.intro (And.intro (ne2 hnx) (And.intro (ne2' hnx) (lt2 hnx))) (And.intro (ne2 q7) (And.intro (ne2' q7) (lt2 q7)))
  unfold c_reach_asg
  simp only [h3, h31, g7, g8, kk, Int.toNat_natCast, R3, R4, R54, R72, DEntry, EV, ↓EVd, isCall, Nat.reduceAdd, Nat.reduceSub, Nat.reduceMul, Nat.reduceEqDiff, Nat.reduceBEq, Nat.reduceLT, Nat.reduceLeDiff, ↓reduceIte, reduceCtorEq]
  have n7 : (7 = nx) = False := by simp; omega
  have n8 : (8 = nx) = False := by simp; omega
  simp only [n7, n8, if_false, and_true]
  exact ⟨nx, rfl, by omega, by omega, by simp⟩
set_option maxHeartbeats 1000000 in
theorem body_walk (h3 : T 3 = .loc 8 1 0 0) (h6 : T 6 = .ptr (encEntry x) 0) (g7 : H 7 = some (.row 4 1 (bs.map bool))) (g8 : H 8 = some (.row 72 1 [.msl 7 n])) (hnx : 8 < nx) (hn : bs.length = n) (hN : n ≤ 281474976710656) :
    cw Try.prog 48 c_reach_body (fun e s => e = .normal ∧ s.H 7 = some (.row 4 1 ((stepE bs x).map bool)) ∧ s.H 8 = some (.row 72 1 [.msl 7 n])) ⟨T, H, nx⟩ := by
  have q7 : 7 < nx := by omega
  have kk := And.intro (And.intro (ne2 hnx) (And.intro (ne2' hnx) (lt2 hnx))) (And.intro (ne2 q7) (And.intro (ne2' q7) (lt2 q7)))
  unfold c_reach_body
  unfold stepE
  by_cases h1 : 1 ≤ x.ino
  · have e1 := eq_true h1
    by_cases h2 : x.ino ≤ (n : Int)
    · have e2 := eq_true h2
      obtain ⟨x0, hx0⟩ : ∃ x0, bs[(x.ino - 1).toNat]? = some x0 := ⟨bs[(x.ino - 1).toNat]'(by omega), List.getElem?_eq_getElem _⟩
      have e13 : (bs.map bool)[(x.ino - 1).toNat]? = some (bool x0) := by rw [List.getElem?_map, hx0]; rfl
      have e10 : wr (x.ino - 1) = x.ino - 1 := wr_in (by omega) (by omega)
      have e11 : ((0 : Int) ≤ x.ino - 1) = True := eq_true (by omega)
      have e12 : (x.ino - 1 < (n : Int)) = True := eq_true (by omega)
      simp only [e1, e2, e10, e11, e12, e13, h3, h6, g7, g8, kk, hn, and_self, true_and, and_true, if_true, Int.toNat_natCast, R3, R4, R54, R72, DEntry, EV, ↓EVd, isCall, Nat.reduceAdd, Nat.reduceSub, Nat.reduceMul, Nat.reduceEqDiff, Nat.reduceBEq, Nat.reduceLT, Nat.reduceLeDiff, ↓reduceIte, reduceCtorEq]
    · have e2 := eq_false h2
      simp only [e1, e2, h3, h6, g7, g8, kk, hn, and_false, if_false, and_self, true_and, and_true, Int.toNat_natCast, R3, R4, R54, R72, DEntry, EV, ↓EVd, isCall, Nat.reduceAdd, Nat.reduceSub, Nat.reduceMul, Nat.reduceEqDiff, Nat.reduceBEq, Nat.reduceLT, Nat.reduceLeDiff, ↓reduceIte, reduceCtorEq]
  · have e1 := eq_false h1
    simp only [e1, h3, h6, g7, g8, kk, false_and, if_false, and_self, true_and, and_true, Int.toNat_natCast, R3, R4, R54, R72, DEntry, EV, ↓EVd, isCall, Nat.reduceAdd, Nat.reduceSub, Nat.reduceMul, Nat.reduceEqDiff, Nat.reduceBEq, Nat.reduceLT, Nat.reduceLeDiff, ↓reduceIte, reduceCtorEq]
theorem tail_walk (h3 : T 3 = .loc 8 1 0 0) (g7 : H 7 = some (.row 4 1 (bs.map bool))) (g8 : H 8 = some (.row 72 1 [.msl 7 n])) :
    cw Try.prog 48 c_reach_tail (fun e s => e = .ret ∧ s.T 2 = .msl 7 n ∧ s.H 7 = some (.row 4 1 (bs.map bool)) ∧ s.H 8 = some (.row 72 1 [.msl 7 n])) ⟨T, H, nx⟩ := by
  unfold c_reach_tail
  simp only [h3, g7, g8, Int.toNat_natCast, R3, R4, R54, R72, DEntry, EV, ↓EVd, isCall, Nat.reduceAdd, Nat.reduceSub, Nat.reduceMul, Nat.reduceEqDiff, Nat.reduceBEq, Nat.reduceLT, Nat.reduceLeDiff, ↓reduceIte, reduceCtorEq]
end

/-! ### What a round leaves -/
def Xb (Es : Env) (b : Nat) : Prop := ∃ l c, kp l = true ∧ Es.L l = some (some (b, c))
def Z1 (C : Ctx) (Es : Env) (Z : Nat → Prop) (W : World) (b : Nat) : Prop := Z b ∨ (C.base ≤ b ∧ b < W.heap.size ∧ ¬ Xb Es b)
theorem HR.wide {C : Ctx} {Es : Env} {Z : Nat → Prop} {W : World} {H : Nat → Option AO} (hR : HR C (Er Es Z W) H) : HR C (Er Es (Z1 C Es Z W) W) H ∧ Stab (Er Es Z W) (Er Es (Z1 C Es Z W) W) := by
  have hst : Stab (Er Es Z W) (Er Es (Z1 C Es Z W) W) := ⟨fun _ h => h, fun _ _ _ h => h, fun b hb => ⟨.inl hb, rfl⟩⟩
  refine ⟨⟨hR.below, hR.base, ?_, ?_, ?_, hR.dom, hR.known, hR.inj, fun l o p ho hp => ORep.stab hst (fun _ _ _ => rfl) (hR.obj l o p ho hp), hR.old⟩, hst⟩
  · rintro b (hb | hb)
    · exact hR.zlt b hb
    · exact hb.2.1
  · rintro b (hb | hb) l c e
    · exact hR.zlive b hb l c e
    · simp only [Er] at e
      split at e
      · exact hb.2.2 ⟨l, c, ‹_›, e⟩
      · cases e
  · rintro b (hb | hb)
    · exact hR.zsrc b hb
    · exact .inr hb.1
theorem after {C : Ctx} {Es : Env} {Z : Nat → Prop} {W : World} {n k0 : Nat} {bs bs' : List Bool} {s2 : AS} {a2 : Act} {E2 : Env} (hR : HR C (Er Es Z W) (Hk n bs)) (hK : Es.K 7 ∧ Es.K 8)
    (hS : SR C (Er Es (Z1 C Es Z W) W) k0 48 s2 a2 E2) (g7 : s2.H 7 = some (.row 4 1 (bs'.map bool))) (g8 : s2.H 8 = some (.row 72 1 [.msl 7 n])) :
    HR C (Er Es Z E2.w) (Hk n bs') ∧ W.heap.size ≤ E2.w.heap.size ∧ (∀ b o, ¬ Xb Es b → W.heap[b]? = some o → E2.w.heap[b]? = some o) := by
  have hL : ∀ l, kp l = true → E2.L l = Es.L l := by
    intro l hl
    have hk : (Er Es (Z1 C Es Z W) W).K l := by
      simp only [kp, Bool.or_eq_true, beq_iff_eq] at hl
      rcases hl with rfl | rfl
      · exact hK.1
      · exact hK.2
    have hd := hS.heap.dom l
    have : (s2.H l).isSome = true := by
      simp only [kp, Bool.or_eq_true, beq_iff_eq] at hl
      rcases hl with rfl | rfl
      · rw [g7]; rfl
      · rw [g8]; rfl
    rw [this] at hd
    obtain ⟨p, hp⟩ := Option.isSome_iff_exists.1 hd.symm
    have := hS.stab.L l hk p hp
    simp only [Er, hl, if_true] at this
    rw [hp, this]
  have hZ : ∀ b, Z b → E2.Z b := fun b hb => (hS.stab.Z b (.inl hb)).1
  have hkeep : ∀ b o, ¬ Xb Es b → W.heap[b]? = some o → E2.w.heap[b]? = some o := by
    intro b o hx ho
    by_cases hb : b < C.base
    · rw [hS.heap.below.block b hb, ← hR.below.block b hb]; exact ho
    · have hlt : b < W.heap.size := (Array.getElem?_eq_some_iff.1 ho).1
      rw [(hS.stab.Z b (.inr ⟨by omega, hlt, hx⟩)).2]; exact ho
  refine ⟨HR.shrink hS.heap g7 g8 hL hK hZ, ?_, hkeep⟩
  by_cases h0 : W.heap.size ≤ C.base
  · exact Nat.le_trans h0 hS.heap.base
  · have hlt : W.heap.size - 1 < W.heap.size := by omega
    by_cases hx : Xb Es (W.heap.size - 1)
    · obtain ⟨l, c, hl, e⟩ := hx
      rw [← hL l hl] at e
      have := (hS.heap.old l _ c e).2
      omega
    · have := hkeep (W.heap.size - 1) W.heap[W.heap.size - 1] hx (Array.getElem?_eq_getElem hlt)
      have := (Array.getElem?_eq_some_iff.1 this).1
      omega
def nK (K : AS → Prop) : Exit → AS → Prop := fun e s => e = .normal ∧ K s
theorem peel {P : Program} {n m k0 : Nat} {K : AS → Prop} {C : Ctx} {E0 E : Env} {a : Act} {s : AS} {Q : Exit → Act → World → Prop} {c1 c2 : Code} {x y : AC} (hc : comp n c1 = some x) (h : cw P n (.seq x y) (nK K) s) (hk : k0 ≤ s.nx) (hS : SR C E0 k0 n s a E)
    (k : ∀ s' a' E', cw P n y (nK K) s' → k0 ≤ s'.nx → SR C E0 k0 n s' a' E' → c2.wpIn Fence.wide m P Q a' E'.w) : (Code.seq c1 c2).wpIn Fence.wide m P Q a E.w := by
  refine wpIn_seq (wpIn_mono (wpIn_wide.2 (cw_cwp x h c1 hc C E0 k0 E a hk hS)) ?_)
  rintro e a' w' ⟨s', E', h1, h2, h3, rfl⟩
  cases e with
  | normal => exact k s' a' E' h1 h2 h3
  | exit id => exact absurd h1.1 (by simp)
  | goto l => exact absurd h1.1 (by simp)
  | ret => exact absurd h1.1 (by simp)
  | panic ch => exact absurd h1.1 (by simp)
  | outgrown => exact absurd h1.1 (by simp)
end Go.Proofs.Ytnmljicimdhpmaa.AL

