/- A law of the given program is proved: part 50 of 51. -/
import Derived.Test.YtefdlpandfhcgaaDoorB49
set_option linter.all false
/- The table of functions for closed runs; written by tabgen.py. -/
set_option linter.all false
namespace Go.Proofs.YtefdlpandfhcgaaDoor.AL
open Go Go.Proofs
def x3g : List (Nat × Nat × List ResultVar × AC) := [(16, 33, [.tmp 0], xnl), (17, 9, [.tmp 4], x6j), (19, 43, [.tmp 2], xvg), (20, 28, [.tmp 4], x8g), (34, 28, [.cell 2 37], x2l), (35, 26, [.tmp 4], x5c), (36, 9, [.cell 2 84], xtm), (37, 75, [.tmp 4], xkg), (38, 14, [.tmp 4], xle), (21, 25, [.cell 0 37], x3m), (55, 9, [.tmp 4], xaj), (12, 58, [.cell 4 44, .tmp 5], xji), (15, 8, [.tmp 4], xhi), (56, 25, [.cell 4 44], xwf), (39, 5, [.cell 2 44], xjo), (75, 42, [.tmp 4], x8j), (89, 27, [.cell 4 44], xzc), (90, 31, [.tmp 4], xge), (91, 55, [], x0f)]
def xxe : List (Nat × Nat × List ResultVar × AC) → FuncId → Option (Nat × List ResultVar × AC)
  | [], _ => none
  | p :: l, f => bif Nat.beq p.1 f then some p.2 else xxe l f
theorem xgh : ∀ p ∈ x3g, FnC Tryd.prog p.1 p.2.1 p.2.2.1 p.2.2.2 := by
  unfold x3g
  simp only [List.forall_mem_cons]
  exact ⟨xar, xhn, xoi, x2i, xrs, xbf, xts, x7h, xog, xns, xhl, xnk, xpk, xsh, xit, x0l, xhd, x4f, xrh, fun p h => by cases h⟩
theorem xih {l : List (Nat × Nat × List ResultVar × AC)} (h : ∀ p ∈ l, FnC Tryd.prog p.1 p.2.1 p.2.2.1 p.2.2.2) : ∀ f n rs ac, xxe l f = some (n, rs, ac) → FnC Tryd.prog f n rs ac := by
  induction l with
  | nil => intro f n rs ac e; simp [xxe] at e
  | cons p l ih =>
    intro f n rs ac e
    unfold xxe at e
    cases hb : Nat.beq p.1 f with
    | true =>
      rw [hb] at e
      simp only [cond_true, Option.some.injEq] at e
      have := h p (by simp)
      rw [e, Nat.eq_of_beq_eq_true hb] at this
      exact this
    | false =>
      rw [hb] at e
      exact ih (fun q hq => h q (by simp [hq])) f n rs ac e
noncomputable def xbh (f : FuncId) : Option (List AV → Option AV) := bif [19, 17, 20].any (Nat.beq f) then some (fun ag => xFN Tryd.prog (xxe x3g) told (xC Tryd.prog (xxe x3g) told 3000) f ag) else told f
theorem xus : ∀ f g, xbh f = some g → ∀ ag r, g ag = some r → OkN Tryd.prog f ag r := by
  intro f g h ag r hr
  unfold xbh at h
  cases hb : [19, 17, 20].any (Nat.beq f) with
  | true =>
    rw [hb] at h
    simp only [cond_true, Option.some.injEq] at h
    subst h
    exact xes (xih xgh) x7q (x5t (xih xgh) x7q (by kernel_rfl) 3000) f ag r hr
  | false =>
    rw [hb] at h
    exact x7q f g h ag r hr
noncomputable def xbl (k : Nat) (f : FuncId) : Bool := match xF Tryd.prog (xxe x3g) xbh (xC Tryd.prog (xxe x3g) xbh k) f [] [] 0 with
  | some (.val (.bool true), _, _) => true
  | _ => false
theorem xso {k : Nat} {f : FuncId} (hf : xbh f = none) (h : xbl k f = true) : Ok Tryd.prog f [] (bool true) := by
  unfold xbl at h
  split at h
  · rename_i H nx hr
    refine x6n ((xrn (xih xgh) (x5t (xih xgh) xus (by kernel_rfl) k) hf hr).mono ?_)
    rintro r H2 n2 ⟨rfl, rfl, rfl⟩
    exact ⟨_, Sub.refl _, 0, xxc rfl _ 0⟩
  · cases h
def x3c : Option Bool := some true
theorem xre (r : Bool) (h : x3c = some r) : Ok Tryd.prog 16 [] (bool r) := by
  injection h with h
  subst h
  exact xso (k := 3000) (by kernel_rfl) (by kernel_rfl)
end Go.Proofs.YtefdlpandfhcgaaDoor.AL

/- Cells told place by place, as they may have been set. -/
set_option linter.all false
namespace Go.Proofs.YtefdlpandfhcgaaDoor.AL
open Go Go.Proofs Go.RowKit
def PW (xs ys : List AV) : Prop := xs.length = ys.length ∧ ∀ (j : Nat) (x y : AV), xs[j]? = some x → ys[j]? = some y → Sub x y
theorem PW.refl (xs : List AV) : PW xs xs := ⟨rfl, fun j x y hx hy => by
  rw [hx] at hy; injection hy with hy; subst hy; exact Sub.refl _⟩
theorem PW.subs {xs ys : List AV} (h : PW xs ys) : Subs xs ys := Subs.of2 h.1 h.2
theorem PW.mset {α : Type} (f : α → AV) (i : Nat) {xs : List AV} {l : List α} {a : AV} {m : α} (h : PW xs (l.map f)) (ha : Sub a (f m)) : PW (xs.set i a) ((l.set i m).map f) := by
  rw [← xbw]
  refine ⟨by simpa using h.1, fun j x y hx hy => ?_⟩
  rw [List.getElem?_set] at hx hy
  split at hx
  · rename_i hij
    rw [if_pos hij] at hy
    split at hx
    · split at hy
      · injection hx with hx; injection hy with hy
        subst hx; subst hy; exact ha
      · cases hy
    · cases hx
  · rename_i hij
    rw [if_neg hij] at hy
    exact h.2 j x y hx hy
theorem xhb {α : Type} (l : List α) (a : α) : (l.set 1 a)[2]? = l[2]? := by simp
def dstH : List O1 → Nat
  | ⟨_, some t, _⟩ :: _ => t
  | _ => 0
def cwT (P : Program) (d n : Nat) : AC → (Exit → AS → Prop) → AS → Prop
  | .skip, Q, s => Q .normal s
  | .ret, Q, s => Q .ret s
  | .exit id, Q, s => Q (.exit id) s
  | .label _, Q, s => Q .normal s
  | .goto l, Q, s => Q (.goto l) s
  | .region l, Q, s => (dstH l = d → cwp P n (.region l) Q s) ∧ (dstH l ≠ d → cw P n (.region l) Q s)
  | .draw l B rd, Q, s => cw P n (.draw l B rd) Q s
  | .seq a b, Q, s => cwT P d n a (seqQ (cwT P d n b Q) Q) s
  | .cond c a b, Q, s => condV (ev s.T c) (cwT P d n a Q s) (cwT P d n b Q s)
  | .block id c, Q, s => cwT P d n c (blockQ id Q) s
  | .loop c, Q, s => cwp P n (.loop c) Q s
  | .scope c, Q, s => cwp P n (.scope c) Q s
theorem xyi {P : Program} {d n : Nat} : ∀ (c : AC) {Q : Exit → AS → Prop} {s : AS}, cwT P d n c Q s → cwp P n c Q s
  | .skip, _, _, h => xxk h
  | .ret, _, _, h => x8q h
  | .exit _, _, _, h => x1o h
  | .label _, _, _, h => xfi h
  | .goto _, _, _, h => xto h
  | .region l, _, _, h => by
      by_cases e : dstH l = d
      · exact h.1 e
      · exact cw_cwp _ (h.2 e)
  | .draw _ _ _, _, _, h => cw_cwp _ h
  | .seq a b, Q, s, h => xxh fun K hK => x1b (xyi a h) fun e s' g => by
      cases e with
      | normal => exact hK s' (xyi b g)
      | _ => exact g
  | .cond c a b, Q, s, h => by
      unfold cwT condV at h
      split at h
      · rename_i e; exact xxo e (xyi a h)
      · rename_i e; exact x8m e (xyi b h)
      · exact h.elim
  | .block id c, _, _, h => x8h (xyi c h)
  | .loop _, _, _, h => h
  | .scope _, _, _, h => h
section
variable {P : Program} {d n : Nat} {Q : Exit → AS → Prop} {s : AS} {T : Nat → AV} {H : Nat → Option AO} {nx : Nat}
theorem xq6 : cwT P d n .skip Q s = Q .normal s := rfl
theorem CT_ret : cwT P d n .ret Q s = Q .ret s := rfl
theorem xx5 (id : Nat) : cwT P d n (.exit id) Q s = Q (.exit id) s := rfl
theorem x8z (l : List O1) (h : (dstH l = d) = False) : cwT P d n (.region l) Q s = cw P n (.region l) Q s := by
  have h' : ¬ dstH l = d := by rw [h]; exact _root_.id
  exact propext ⟨fun k => k.2 h', fun k => ⟨fun e => (h' e).elim, fun _ => k⟩⟩
theorem x75 (l : List O1) (h : (dstH l = d) = True) : cwT P d n (.region l) Q s = cwp P n (.region l) Q s := by
  have h' : dstH l = d := by rw [h]; trivial
  exact propext ⟨fun k => k.1 h', fun k => ⟨fun _ => k, fun e => (e h').elim⟩⟩
theorem xf6 (l : List O1) (B : List Nat) (rd : List Bool) : cwT P d n (.draw l B rd) Q s = cw P n (.draw l B rd) Q s := rfl
theorem CT_seq (a b : AC) : cwT P d n (.seq a b) Q s = cwT P d n a (seqQ (cwT P d n b Q) Q) s := rfl
def condT (P : Program) (d n : Nat) (Q : Exit → AS → Prop) (s : AS) (a b : AC) (v : AV) : Prop := condV v (cwT P d n a Q s) (cwT P d n b Q s)
theorem xr6 (c : Operand) (a b : AC) : cwT P d n (.cond c a b) Q ⟨T, H, nx⟩ = condT P d n Q ⟨T, H, nx⟩ a b (ev T c) := rfl
theorem xh6 (a b : AC) : condT P d n Q s a b (bool true) = cwT P d n a Q s := rfl
theorem xo6 (a b : AC) : condT P d n Q s a b (bool false) = cwT P d n b Q s := rfl
theorem xp1 (id : Nat) (c : AC) : cwT P d n (.block id c) Q s = cwT P d n c (blockQ id Q) s := rfl
theorem dstH_c (o : Op) (t : Nat) (g : Option (Nat × Bool)) (l : List O1) : dstH (⟨o, some t, g⟩ :: l) = t := rfl
theorem dstH_n (o : Op) (g : Option (Nat × Bool)) (l : List O1) : dstH (⟨o, none, g⟩ :: l) = 0 := rfl
end
theorem okH {P : Program} {f : FuncId} {n : Nat} {rs : List ResultVar} {ac : AC} (d : Nat) (hf : FnC P f n rs ac) {args : List AV} {r : AV} (h : cwT P d n ac (finQ P rs (frzR r)) ⟨argT args, fun _ => none, 0⟩) (hn : args.length ≤ n := by simp) : Ok P f args r :=
  x4m (acall hf hn fun Q h1 h2 => x1b (xyi ac h) fun e s hs => by
    cases e with
    | normal => exact h2 s hs
    | ret => exact h1 s hs
    | _ => exact hs.elim)
def EVH := aI (aI (aI (@xq6) (aI (@CT_ret) (@xx5))) (aI (@x8z) (aI (@x75) (@xf6)))) (aI (aI (@CT_seq) (aI (@xr6) (@xh6))) (aI (aI (@xo6) (@xp1)) (aI (@dstH_c) (@dstH_n))))
end Go.Proofs.YtefdlpandfhcgaaDoor.AL

