/- A law of the given program is proved: part 6 of 50. -/
import Derived.Test.YtefdlpandfhcgaaGreatDoorA5
set_option linter.all false
/- AL, part 5: strings' bytes, slice expressions, lengths, literals; all operations that touch no memory of the run's own (xpc). -/
set_option linter.unusedSimpArgs false
namespace Go.Proofs.YtefdlpandfhcgaaGreatDoor.AL
open Go.RowKit
theorem xms {P : Program} {E : Env} {T : Nat} {x y v : AV} {u i : Value} (hx : VRep E x u) (hy : VRep E y i) (h : xh P T x y = some v) :
    ∃ z, (Instr.index T u i).run P E.w = .ok z E.w ∧ VRep E v z := by
  unfold xh at h
  split at h
  · rename_i k n
    simp only [VRep] at hy
    subst hy
    split at h
    · rename_i s
      simp only [VRep] at hx
      subst hx
      split at h
      · rename_i hk
        have hu := xri hk
        split at h
        · rename_i hn
          obtain ⟨b, hb, hv⟩ := Option.map_eq_some_iff.1 h
          subst hv
          exact ⟨_, by simp [Instr.index, asIntOf, run_underlying hu, hn, hb]; rfl, by simp only [VRep]⟩
        · cases h
      · cases h
    · rename_i cs
      split at h
      · rename_i len e he
        have hu := xeu he
        split at h
        · rename_i hn
          split at h
          · rename_i g s hs
            obtain ⟨_, hsz, _⟩ := xlc hs E.w
            simp only [VRep] at hx
            obtain ⟨us, hx, rfl⟩ := hx
            obtain ⟨z, hz, hr⟩ := xph hx h
            exact ⟨z, by simp [Instr.index, asIntOf, run_underlying hu, hn, hsz, hz], hr⟩
          · cases h
        · cases h
      · cases h
    · cases h
  · cases h
def OptRep (E : Env) : Option AV → Option Value → Prop
  | none, none => True
  | some x, some u => VRep E x u
  | _, _ => False
theorem xan {E : Env} {x : Option AV} {v : Option Value} {d most n : Nat} (h : OptRep E x v) (e : xhh d most x = some n) :
    (v = none ∧ n = d) ∨ ∃ k q, v = some (.int k q) ∧ 0 ≤ q ∧ q ≤ most ∧ n = q.toNat := by
  cases x with
  | none =>
    cases v with
    | none => simp only [xhh] at e; injection e with e; exact .inl ⟨rfl, e.symm⟩
    | some v => exact h.elim
  | some x =>
    cases v with
    | none => exact h.elim
    | some v =>
      simp only [OptRep] at h
      unfold xhh at e
      split at e
      · rename_i hq; cases hq
      · rename_i k q hq
        injection hq with hq
        subst hq
        simp only [VRep] at h
        subst h
        split at e
        · rename_i hh
          injection e with e
          exact .inr ⟨k, q, rfl, hh.1, hh.2, e.symm⟩
        · cases e
      · cases e
theorem x8g {P : Program} {E : Env} {len cap : Nat} {sl : Bool} {lo hi : Option AV} {l h : Nat} {vlo vhi : Option Value}
    (h1 : OptRep E lo vlo) (h2 : OptRep E hi vhi) (hc : len ≤ cap) (hb : bounds len lo hi = some (l, h)) :
    (Instr.sliceBounds sl len cap vlo vhi none).run P E.w = .ok (l, h, cap) E.w ∧ l ≤ h ∧ h ≤ len := by
  unfold bounds at hb
  split at hb
  · cases hb
  · rename_i h0 e
    split at hb
    · cases hb
    · rename_i l0 e'
      injection hb with hb
      injection hb with hb1 hb2
      subst hb1; subst hb2
      rcases xan h2 e with ⟨rfl, rfl⟩ | ⟨k, q, rfl, q0, q1, rfl⟩ <;> rcases xan h1 e' with ⟨rfl, rfl⟩ | ⟨k', q', rfl, q0', q1', rfl⟩
      · exact ⟨by simp [Instr.sliceBounds], Nat.zero_le _, Nat.le_refl _⟩
      · refine ⟨?_, by omega, Nat.le_refl _⟩
        simp [Instr.sliceBounds, run_sliceBound E.w k' q' h0 _ q0' q1']
      · refine ⟨?_, by omega, by omega⟩
        simp [Instr.sliceBounds, run_sliceBound E.w k q cap _ q0 (by omega)]
      · refine ⟨?_, by omega, by omega⟩
        simp [Instr.sliceBounds, run_sliceBound E.w k q cap _ q0 (by omega), run_sliceBound E.w k' q' q.toNat _ q0' q1']
theorem xgs {P : Program} {E : Env} {T : Nat} {x v : AV} {u : Value} {lo hi mx : Option AV} {vlo vhi vmx : Option Value} (hx : VRep E x u)
    (h1 : OptRep E lo vlo) (h2 : OptRep E hi vhi) (h3 : OptRep E mx vmx)
    (h : x9b P T x lo hi mx = some v) :
    ∃ z, (Instr.sliceAt T u vlo vhi vmx).run P E.w = .ok z E.w ∧ VRep E v z := by
  unfold x9b at h
  split at h
  · -- no third index
    obtain rfl : vmx = none := by cases vmx <;> simp_all [OptRep]
    split at h
    · rename_i s
      simp only [VRep] at hx
      subst hx
      split at h
      · rename_i hk
        have hu := xri hk
        obtain ⟨⟨l, hh⟩, hb, hv⟩ := Option.map_eq_some_iff.1 h
        subst hv
        obtain ⟨hb, _, _⟩ := x8g (P := P) (E := E) (sl := false) h1 h2 (Nat.le_refl _) hb
        exact ⟨_, by rw [run_sliceAt_string E.w _ _ _ _ _ hu]; simp [Instr.slice, run_underlying hu, hb]; rfl, by simp only [VRep]⟩
      · cases h
    · rename_i sz xs
      split at h
      · rename_i e he
        have hu := xzc he
        split at h
        · rename_i g s hs
          obtain ⟨_, hsz, _⟩ := xlc hs E.w
          split at h
          · rename_i hss
            subst hss
            obtain ⟨⟨l, hh⟩, hb, hv⟩ := Option.map_eq_some_iff.1 h
            subst hv
            simp only [VRep] at hx ⊢
            obtain ⟨us, A, cap, g1, rfl, g3, g4⟩ := hx
            obtain ⟨hb, hl, hl2⟩ := x8g (P := P) (E := E) (sl := true) h1 h2 g3 hb
            have hu' : P.underlying T = some (.slice (P.elem T)) := by rw [xwc hu]; exact hu
            have hlen : us.length = xs.length := g1.length
            refine ⟨sliced A l hh cap sz, by rw [run_sliceAt_slice E.w _ _ _ _ _ hu', run_slice_any E.w T A _ _ hu', hb, Result.andThen_ok, xwc hu, hsz]; rfl,
              (us.drop l).take (hh - l), if cap = l then A else A.map (·.add (l * sz)), cap - l, (g1.drop l).take _, ?_, ?_, ?_⟩
            · simp only [sliced]
              congr 1
              simp
              omega
            · simp
              omega
            · rcases g4 with g4 | ⟨b, o, rfl, hZ, g4⟩
              · subst g4; exact .inl (by simp)
              · by_cases hlh : l < hh
                · refine .inr ⟨b, o + l * sz, ?_, hZ, fun i u hi => ?_⟩
                  · rw [if_neg (by omega)]; simp [xuc]
                  · have hi' : us[l + i]? = some u := by
                      rw [List.getElem?_take] at hi
                      split at hi
                      · simpa using hi
                      · cases hi
                    obtain ⟨k1, k1', k2⟩ := g4 _ _ hi'
                    refine ⟨k1, k1', ?_⟩
                    rw [Nat.add_mul] at k2
                    rw [show o + l * sz + i * sz = o + (l * sz + i * sz) by omega]
                    exact k2
                · have : hh - l = 0 := by omega
                  exact .inl (by rw [this]; rfl)
          · cases h
        · cases h
      · cases h
    · split at h
      · rename_i e he
        have hu := xzc he
        split at h
        · rename_i gs hs
          obtain ⟨_, hsz, _⟩ := xlc hs E.w
          obtain ⟨⟨l, hh⟩, hb, hv⟩ := Option.map_eq_some_iff.1 h
          subst hv
          simp only [VRep] at hx
          subst hx
          obtain ⟨hb, hl, hl2⟩ := x8g (P := P) (E := E) (sl := true) h1 h2 (Nat.le_refl 0) hb
          have hu' : P.underlying T = some (.slice (P.elem T)) := by rw [xwc hu]; exact hu
          have e1 : hh = 0 := by omega
          have e2 : l = 0 := by omega
          subst e1; subst e2
          exact ⟨.slice none 0 0, by rw [run_sliceAt_slice E.w _ _ _ _ _ hu', run_slice_any E.w T none _ _ hu', hb, Result.andThen_ok, xwc hu, hsz]; rfl, by simp only [VRep]⟩
        · cases h
      · cases h
    · rename_i l' n
      split at h
      · rename_i e he
        have hu := xzc he
        split at h
        · rename_i g s hs
          obtain ⟨_, hsz, _⟩ := xlc hs E.w
          obtain ⟨⟨l, hh⟩, hb, hv⟩ := Option.map_eq_some_iff.1 h
          subst hv
          simp only [VRep] at hx
          obtain ⟨A, cap, g0, rfl, g1, g3, g4, g5⟩ := hx
          obtain ⟨hb, hl, hl2⟩ := x8g (P := P) (E := E) (sl := true) h1 h2 g3 hb
          have hu' : P.underlying T = some (.slice (P.elem T)) := by rw [xwc hu]; exact hu
          by_cases hl0 : lo.isNone = true ∧ l = 0
          · obtain ⟨hl1, rfl⟩ := hl0
            rw [if_pos ⟨hl1, rfl⟩]
            simp only [VRep]
            have hA : (if cap = 0 then A else A.map (·.add (0 * s))) = A := by
              split
              · rfl
              · cases A with
                | none => rfl
                | some a => simp [Addr.add]
            refine ⟨sliced A 0 hh cap s, by rw [run_sliceAt_slice E.w _ _ _ _ _ hu', run_slice_any E.w T A _ _ hu', hb, Result.andThen_ok, xwc hu, hsz]; rfl, A, cap, g0, ?_, fun hn => g1 (by omega), by omega, g4, fun e => ?_⟩
            · simp only [sliced, hA, Nat.sub_zero]
            · have := g5 e; omega
          rw [if_neg hl0]
          simp only [VRep]
          refine ⟨sliced A l hh cap s, by rw [run_sliceAt_slice E.w _ _ _ _ _ hu', run_slice_any E.w T A _ _ hu', hb, Result.andThen_ok, xwc hu, hsz]; rfl, _, _, g0, rfl, by show hh - l ≤ cap - l; omega, fun hn => ?_⟩
          obtain ⟨b0, rfl⟩ := g1 (by omega)
          refine ⟨b0, by simp only [show ¬ cap = l by omega, if_false, Option.map_some]; simp [xuc], fun b c hc => ?_⟩
          obtain ⟨e1, e2⟩ := g4 b c hc
          injection e1 with e1
          injection e1 with e1
          exact ⟨e1, by omega⟩
        · cases h
      · cases h
    · rename_i l' sz k n
      split at h
      · rename_i e he
        have hu := xzc he
        split at h
        · rename_i g s hs
          obtain ⟨_, hsz, _⟩ := xlc hs E.w
          split at h
          · rename_i hss
            subst hss
            obtain ⟨⟨l, hh⟩, hb, hv⟩ := Option.map_eq_some_iff.1 h
            subst hv
            simp only [VRep] at hx ⊢
            obtain ⟨A, cap, g0, rfl, g3, g4⟩ := hx
            obtain ⟨hb, hl, hl2⟩ := x8g (P := P) (E := E) (sl := true) h1 h2 g3 hb
            have hu' : P.underlying T = some (.slice (P.elem T)) := by rw [xwc hu]; exact hu
            refine ⟨sliced A l hh cap sz, by rw [run_sliceAt_slice E.w _ _ _ _ _ hu', run_slice_any E.w T A _ _ hu', hb, Result.andThen_ok, xwc hu, hsz]; rfl, _, _, g0, rfl, by show hh - l ≤ cap - l; omega, fun hn => ?_⟩
            obtain ⟨b0, rfl, g5⟩ := g4 (by omega)
            refine ⟨b0, by simp only [show ¬ cap = l by omega, if_false, Option.map_some]; simp [xuc, Nat.add_mul], fun b c hc => ?_⟩
            obtain ⟨e1, e2⟩ := g5 b c hc
            exact ⟨e1, by omega⟩
          · cases h
        · cases h
      · cases h
    · cases h
  · -- s[:0:0]
    rename_i km
    obtain rfl : vmx = some (.int km 0) := by cases vmx <;> simp_all [OptRep, VRep]
    split at h
    · rename_i kl kh
      obtain rfl : vlo = some (.int kl 0) := by cases vlo <;> simp_all [OptRep, VRep]
      obtain rfl : vhi = some (.int kh 0) := by cases vhi <;> simp_all [OptRep, VRep]
      split at h
      · rename_i e he
        have hu := xzc he
        split at h
        · rename_i gs hs
          obtain ⟨_, hsz, _⟩ := xlc hs E.w
          have hu' : P.underlying T = some (.slice (P.elem T)) := by rw [xwc hu]; exact hu
          have key : ∀ (A : Option Addr) (n c : Nat), ∃ z, (Instr.sliceAt T (.slice A n c) (some (.int kl 0)) (some (.int kh 0)) (some (.int km 0))).run P E.w = .ok z E.w ∧ VRep E .e0 z := by
            intro A n c
            refine ⟨.slice A 0 0, ?_, by simp only [VRep]; exact ⟨A, rfl⟩⟩
            rw [run_sliceAt_slice E.w _ _ _ _ _ hu', run_slice_any E.w T A _ _ hu', xwc hu]
            simp [Instr.sliceBounds, Instr.sliceBound, asIntOf, hsz, sliced]
          split at h
          · injection h with h
            subst h
            simp only [VRep] at hx
            obtain ⟨us, A, cap, _, rfl, _⟩ := hx
            exact key _ _ _
          · injection h with h
            subst h
            simp only [VRep] at hx
            obtain ⟨A, c0, _, rfl, _⟩ := hx
            exact key _ _ _
          · injection h with h
            subst h
            simp only [VRep] at hx
            obtain ⟨A, c0, _, rfl, _⟩ := hx
            exact key _ _ _
          · injection h with h
            subst h
            simp only [VRep] at hx
            subst hx
            exact key _ _ _
          · injection h with h
            subst h
            simp only [VRep] at hx
            obtain ⟨A, rfl⟩ := hx
            exact key _ _ _
          · cases h
        · cases h
      · cases h
    · cases h
  · cases h
theorem xbv {P : Program} {E : Env} {T ty : Nat} {x v : AV} {u : Value} (hx : VRep E x u) (h : xdc P T x = some v) :
    ∃ z, (Builtin.len_ #[T] ty #[u]).run P E.w = .ok z E.w ∧ VRep E v z := by
  have key : ∀ e, xfb P T = some e → ∀ A n c, (Builtin.len_ #[T] ty #[.slice A n c]).run P E.w = .ok (.int .i64 n) E.w := by
    intro e he A n c
    have hu := xzc he
    rw [run_len_slice E.w T ty A n c (by rw [xwc hu]; exact hu)]
    rfl
  unfold xdc at h
  split at h
  · rename_i s
    simp only [VRep] at hx
    subst hx
    split at h
    · rename_i hk
      have hu := xri hk
      injection h with h
      subst h
      exact ⟨_, by simp [Builtin.len_, run_underlying hu, goInt]; rfl, by simp only [VRep]⟩
    · cases h
  · obtain ⟨e, he, hv⟩ := Option.map_eq_some_iff.1 h
    subst hv
    simp only [VRep] at hx
    obtain ⟨us, A, cap, _, rfl, _⟩ := hx
    exact ⟨_, key e he _ _ _, by simp only [VRep]⟩
  · obtain ⟨e, he, hv⟩ := Option.map_eq_some_iff.1 h
    subst hv
    simp only [VRep] at hx
    obtain ⟨A, c0, _, rfl, _⟩ := hx
    exact ⟨_, key e he _ _ _, by simp only [VRep]⟩
  · obtain ⟨e, he, hv⟩ := Option.map_eq_some_iff.1 h
    subst hv
    simp only [VRep] at hx
    obtain ⟨A, c0, _, rfl, _⟩ := hx
    exact ⟨_, key e he _ _ _, by simp only [VRep]⟩
  · obtain ⟨e, he, hv⟩ := Option.map_eq_some_iff.1 h
    subst hv
    simp only [VRep] at hx
    subst hx
    exact ⟨_, key e he _ _ _, by simp only [VRep]; rfl⟩
  · obtain ⟨e, he, hv⟩ := Option.map_eq_some_iff.1 h
    subst hv
    simp only [VRep] at hx
    obtain ⟨A, rfl⟩ := hx
    exact ⟨_, key e he _ _ _, by simp only [VRep]; rfl⟩
  · cases h
end Go.Proofs.YtefdlpandfhcgaaGreatDoor.AL

