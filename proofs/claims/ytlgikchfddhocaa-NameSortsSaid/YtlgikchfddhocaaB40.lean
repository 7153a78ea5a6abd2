/- What of the attributes of any stack, and of any node, may not be, is what the document says: part 40 of 46. -/
import Derived.Test.YtlgikchfddhocaaB39
set_option linter.all false
/- slices.DeleteFunc, in place; what is left is handed back as plain data. -/
set_option linter.all false
namespace Go.Proofs.Ytlgikchfddhocaa.AL
open Go Go.Proofs Go.RowKit
/-- What is left of a row, as plain data. -/
theorem fk1t {C : Ctx} {E : Env} {H : Nat → Option AO} {l T sz : Nat} {ys : List AV} {u : Value} (hR : HR C E H) (hl : H l = some (.row T sz ys)) (hu : VRep E (.mtl l sz 0 ys.length) u) : VRep (E.kill l) (.sl sz ys) u := by
  have hs := Env.kill_stab E l
  simp only [VRep] at hu ⊢
  obtain ⟨A, c0, _, g0, q1, q2⟩ := hu
  obtain ⟨p, hp, ho'⟩ := hR.live hl
  by_cases hy : ys = []
  · subst hy
    exact ⟨[], A, c0, VReps.nil, g0, Nat.zero_le _, .inl rfl⟩
  have hyl : 0 < ys.length := List.length_pos_iff.2 hy
  obtain ⟨b0, rfl, hb⟩ := q2 hyl
  cases p with
  | none => simp only [ORep] at ho'; exact absurd ho' hy
  | some q =>
    obtain ⟨b, c⟩ := q
    obtain ⟨rfl, hc⟩ := hb b c hp
    simp only [ORep] at ho'
    obtain ⟨cur, vs, h1, h2, h3, h4, h5, h6, h7⟩ := ho'
    refine ⟨vs, _, c0, h2.stab hs, g0, q1, .inr ⟨b0, 0, by simp, .inr ⟨c, hp⟩, fun i u hu => ⟨(h3 u (List.mem_of_getElem? hu)).1, (h3 u (List.mem_of_getElem? hu)).2, fun j v hj => ?_⟩⟩⟩
    show E.w.cell? _ = _
    rw [cell_of_row E.w b0 _ cur T (0, 0) h1]
    have e := flatV_at (fun u hu => (h3 u hu).1) hu j v hj
    rw [← h7, List.getElem?_take] at e
    split at e
    · simpa using e
    · cases e
theorem ACall.left {P : Program} {f : FuncId} {args : List AV} {H : Nat → Option AO} {nx q T sz : Nat} {xs ys : List AV} (hc : closeds ys = true) (hq : q < nx) (hH : H q = some (.row T sz xs))
    (h : ACall P f args H nx fun r H' nx' => (∃ m, (r = .msl q m ∨ r = .mtl q sz 0 m) ∧ m = ys.length ∧ H' q = some (.row T sz ys)) ∧ ∀ j, j < nx → j ≠ q → H' j = H j) : ACall P f args H nx fun r H' nx' => r = .sl sz ys ∧ H' = upd H q none ∧ nx' = nx := by
  refine ⟨h.1, fun C E vals hR hb hv => (h.2 C E vals hR hb hv).mono ?_⟩
  rintro e w' ⟨v, r', H1, nx1, E1, rfl, ⟨⟨m, hr, rfl, hH1⟩, hH2⟩, hv1, hR1, hS, hn1, hn2, rfl⟩
  obtain ⟨q', hq', ho⟩ := hR1.live hH1
  obtain ⟨p, hp, _⟩ := hR.live hH
  have hk := hR.known q p hp
  obtain ⟨g1, g2, g3⟩ := low_one (l := q) (l0 := q) (T := T) (sz := sz) (xs := ys) (q := q') hR hb hR1 hS (.inl ⟨hq', hH1⟩) hc (.inr ⟨rfl, hk, hq'⟩) hH2
  have hrow : upd H q (some (AO.row T sz ys)) q = some (.row T sz ys) := upd_same _ _ _
  have e2 : upd (upd H q (some (AO.row T sz ys))) q none = upd H q none := by
    funext j; simp only [upd_at]; split <;> rfl
  have hk2 := g1.kill q
  rw [e2] at hk2
  refine ⟨v, .sl sz ys, upd H q none, nx, _, rfl, ⟨rfl, rfl, rfl⟩, ?_, hk2, g2.trans (Env.kill_stab _ _), Nat.le_refl _, ?_, rfl⟩
  · rcases hr with rfl | rfl
    · refine (fk1 g1 (VRep.lo g3 _ _ (by simpa only [inK] using hk) hv1) ?_).2.1
      rw [hrow]
      simp [fkK, hc]
    · exact fk1t g1 hrow (VRep.lo g3 _ _ (by simpa only [inK] using hk) hv1)
  · rintro j (hj | hj)
    · exact .inl hj
    · subst hj; exact .inl hk
end Go.Proofs.Ytlgikchfddhocaa.AL

/- slices.DeleteFunc at elements of one cell (the element's variable is no box). -/
set_option linter.all false
namespace Go.Proofs.Ytlgikchfddhocaa.AL
open Go Go.Proofs Go.RowKit
end Go.Proofs.Ytlgikchfddhocaa.AL

/- Models of functions, and that the functions are as their models: written by gen.py. -/
set_option linter.all false
set_option maxRecDepth 100000
namespace Go.Proofs.Ytlgikchfddhocaa.AL
open Go Go.Proofs
end Go.Proofs.Ytlgikchfddhocaa.AL

