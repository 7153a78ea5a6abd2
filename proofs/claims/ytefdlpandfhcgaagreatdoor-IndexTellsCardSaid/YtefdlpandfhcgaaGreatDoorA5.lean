/- A law of the given program is proved: part 5 of 50. -/
import Derived.Laws.Slices
import Derived.Laws.DeepStrings4
import Derived.Test.YtefdlpandfhcgaaGreatDoorA4
set_option linter.all false
/- AL, part 4: operations that touch no memory of the run's own: the evaluator (xpc), and that it is right. -/
set_option linter.unusedSimpArgs false
namespace Go.Proofs.YtefdlpandfhcgaaGreatDoor.AL
open Go.RowKit
theorem x6u {P : Program} (w : World) {op : BinOp} {k : IntKind} {a b : Int} {v : AV} (hs : ¬ (op = .shl ∨ op = .shr)) (h : xud op k a b = some v) :
    ∃ u, (binOp op 0 (.int k a) (.int k b)).run P w = .ok u w ∧ v = .val u ∧ ∀ T, binOp op T (.int k a) (.int k b) = binOp op 0 (.int k a) (.int k b) := by
  cases op <;> simp only [xud] at h <;> first
    | (injection h with h; subst h; exact ⟨_, by simp [binOp, Op.intArith, Op.intBits, Op.intCmp], rfl, fun _ => rfl⟩)
    | (split at h <;> first
        | (cases h; done)
        | (rename_i hb; injection h with h; subst h; exact ⟨_, by simp [binOp, Op.intDiv, hb], rfl, fun _ => rfl⟩))
    | (exfalso; simp at hs; done)
    | cases h
theorem xhg {P : Program} (w : World) (op : BinOp) (T : TypeId) (x y : Operand) (a b : Value) (h1 : ¬ (a = .nilIface ∧ b = .nilIface)) (h2 : ¬ ∃ c d, a = .agg c ∧ b = .agg d) : (eqGuard op T x y a b).run P w = .ok () w := by
  unfold eqGuard
  cases op <;> simp <;> (cases a <;> cases b <;> simp_all)
theorem x9m {P : Program} {E : Env} {op : BinOp} {T : TypeId} {x y : AV} {ox oy : Operand} {u v : Value} (hc : (match y with | .val .nilIface => (oy matches .const _) | _ => true) = true)
    (hx : VRep E x u) (hy : VRep E y v) {r : AV} (h : x0b P op T x y = some r) :
    ∃ z, (eqGuard op T ox oy u v >>= fun _ => binOp op T u v).run P E.w = .ok z E.w ∧ VRep E r z := by
  unfold x0b at h
  split at h
  · -- ints
    rename_i k a k' b
    simp only [VRep] at hx hy
    subst hx; subst hy
    have hg := xhg (P := P) E.w op T ox oy (.int k a) (.int k' b) (by simp) (by simp)
    simp only [Sem.run_bind, hg, Result.andThen_ok]
    split at h
    · rename_i hs
      unfold xhu at h
      split at h
      · cases h
      · rename_i hb
        rcases hs with rfl | rfl
        · simp only at h; injection h with h; subst h
          exact ⟨_, by simp only [binOp, Op.shift]; rw [if_neg hb]; rfl, by simp only [VRep]⟩
        · simp only at h; injection h with h; subst h
          exact ⟨_, by simp only [binOp, Op.shift]; rw [if_neg hb]; rfl, by simp only [VRep]⟩
    · rename_i hs
      split at h
      · rename_i e
        subst e
        obtain ⟨z, h1, h2, h3⟩ := x6u (P := P) E.w hs h
        exact ⟨z, by rw [h3]; exact h1, by subst h2; simp only [VRep]⟩
      · cases h
  · -- strings
    rename_i a b
    simp only [VRep] at hx hy
    subst hx; subst hy
    have hg := xhg (P := P) E.w op T ox oy (.string a) (.string b) (by simp) (by simp)
    simp only [Sem.run_bind, hg, Result.andThen_ok]
    have e := beq_toListBytes a b
    cases op <;> simp only [x0l] at h <;> first
      | (split at h
         · rename_i hb
           injection h with h; subst h
           exact ⟨_, by
             simp only [binOp, Op.stringOp]
             rw [if_neg (by show ¬ (((a.size + b.size : Nat) : Int) > _); have : IntKind.i64.max = 9223372036854775807 := rfl; rw [this]; omega)]
             rfl, by simp only [VRep]⟩
         · cases h)
      | (injection h with h; subst h; exact ⟨_, by simp only [binOp, Op.stringOp]; rfl, by simp only [VRep, e]⟩)
      | cases h
  · -- bools
    rename_i a b
    have hx' := hx
    have hy' := hy
    simp only [VRep] at hx' hy'
    subst hx'; subst hy'
    have hg := xhg (P := P) E.w op T ox oy (.bool a) (.bool b) (by simp) (by simp)
    simp only [Sem.run_bind, hg, Result.andThen_ok]
    cases op <;> simp only at h <;> first
      | (cases hq : evalEq P 1 T (.val (.bool a)) (.val (.bool b)) with
         | none => simp [hq] at h
         | some r' =>
           rw [hq] at h
           simp only [Option.map_some] at h
           injection h with h; subst h
           have := (xqi (P := P) (E := E) 1).1 _ _ _ _ _ _ hx hy hq 10000 (by omega)
           exact ⟨_, by simp only [binOp, Op.equal, Op.maxDepth, Sem.run_bind, this, Result.andThen_ok]; rfl, by simp only [VRep]⟩)
      | cases h
  · -- structs
    rename_i xs ys
    have hx' := hx
    have hy' := hy
    simp only [VRep] at hx' hy'
    obtain ⟨us, _, rfl⟩ := hx'
    obtain ⟨vs, _, rfl⟩ := hy'
    split at h
    · cases h
    · rename_i hm
      have hg := run_eqGuard_agg (P := P) E.w op T ox oy us.toArray vs.toArray (by simpa using hm)
      simp only [Sem.run_bind, hg, Result.andThen_ok]
      cases op <;> simp only at h <;> first
        | (cases hq : evalEq P 40 T (.agg xs) (.agg ys) with
           | none => simp [hq] at h
           | some r' =>
             rw [hq] at h
             simp only [Option.map_some] at h
             injection h with h; subst h
             have := (xqi (P := P) (E := E) 40).1 _ _ _ _ _ _ hx hy hq 10000 (by omega)
             exact ⟨_, by simp only [binOp, Op.equal, Op.maxDepth, Sem.run_bind, this, Result.andThen_ok]; rfl, by simp only [VRep]⟩)
        | cases h
  · -- an interface value against nil
    rename_i t z
    simp only [VRep] at hx hy
    obtain ⟨z', _, rfl⟩ := hx
    subst hy
    have hg := xhg (P := P) E.w op T ox oy (.iface t z') .nilIface (by simp) (by simp)
    simp only [Sem.run_bind, hg, Result.andThen_ok]
    split at h
    · rename_i ms hms
      have hms' : P.underlying T = some (.interface (P.methodsAt T)) := by simp [Program.methodsAt, hms]
      cases op <;> simp only at h <;> first
        | (injection h with h; subst h; first
            | exact ⟨_, run_eql_held_nil E.w T t z' hms', by simp only [VRep]⟩
            | exact ⟨_, run_neq_held_nil E.w T t z' hms', by simp only [VRep]⟩)
        | cases h
    · cases h
  · -- nil against nil
    simp only [VRep] at hx hy
    subst hx; subst hy
    have hg : (eqGuard op T ox oy .nilIface .nilIface).run P E.w = .ok () E.w := by
      unfold eqGuard
      cases oy <;> simp at hc
      cases op <;> simp
    simp only [Sem.run_bind, hg, Result.andThen_ok]
    split at h
    · rename_i ms hms
      have hms' : P.underlying T = some (.interface (P.methodsAt T)) := by simp [Program.methodsAt, hms]
      cases op <;> simp only at h <;> first
        | (injection h with h; subst h; first
            | exact ⟨_, run_eql_nil_nil E.w T hms', by simp only [VRep]⟩
            | exact ⟨_, run_neq_nil_nil E.w T hms', by simp only [VRep]⟩)
        | cases h
    · cases h
  · cases h
def xe (P : Program) (T f : Nat) (x : AV) : Option AV :=
  match xcb P T f with
  | some (o, ft) =>
    match aggN P ft with
    | some (_, n) =>
      if n = 0 then none else
      match x with
      | .loc l sz i off => some (.loc l sz i (off + o))
      | .ptr y off => some (.ptr y (off + o))
      | _ => none
    | none => none
  | none => none
def xzf (P : Program) (T f : Nat) (x : AV) : Option AV :=
  match xcb P T f, x with
  | some (o, ft), .agg cs => partOf P ft cs o
  | _, _ => none
def xjb (P : Program) (T : TypeId) (x y : AV) : Option AV :=
  match y with
  | .val (.int _ n) =>
    match xfb P T with
    | some e =>
      match aggN P e with
      | some (_, s) =>
        match x with
        | .sl sz xs => if 0 ≤ n ∧ sz = s then (xs[n.toNat]?).map fun z => .ptr z 0 else none
        | .msl l len => if 0 ≤ n ∧ n < len then some (.loc l s n.toNat 0) else none
        | .mtl l sz k len => if sz = s ∧ 0 ≤ n ∧ n < len then some (.loc l s (k + n.toNat) 0) else none
        | _ => none
      | none => none
    | none =>
      match arrOfT P T with
      | some (len, e) =>
        match aggN P e with
        | some (_, s) =>
          if 0 ≤ n ∧ n < len then
            match x with
            | .loc l sz i off => some (.loc l sz i (off + n.toNat * s))
            | .ptr z off => some (.ptr z (off + n.toNat * s))
            | _ => none
          else none
        | none => none
      | none => none
  | _ => none
def xh (P : Program) (T : TypeId) (x y : AV) : Option AV :=
  match y with
  | .val (.int _ n) =>
    match x with
    | .val (.string s) => match kindOf P T with
      | .str => if 0 ≤ n then (s[n.toNat]?).map fun b => .val (.int .u8 b.toNat) else none
      | _ => none
    | .agg cs => match arrOfT P T with
      | some (len, e) => if 0 ≤ n ∧ n < len then match aggN P e with
        | some (_, s) => partOf P e cs (n.toNat * s)
        | none => none
        else none
      | none => none
    | _ => none
  | _ => none
def xhh (d most : Nat) : Option AV → Option Nat
  | none => some d
  | some (.val (.int _ h)) => if 0 ≤ h ∧ h ≤ most then some h.toNat else none
  | some _ => none
def bounds (len : Nat) (lo hi : Option AV) : Option (Nat × Nat) :=
  match xhh len len hi with
  | none => none
  | some h => match xhh 0 h lo with
    | none => none
    | some l => some (l, h)
def x9b (P : Program) (T : TypeId) (x : AV) (lo hi mx : Option AV) : Option AV :=
  match mx with
  | none =>
    match x with
    | .val (.string s) => match kindOf P T with
      | .str => (bounds s.size lo hi).map fun p => .val (.string (s.extract p.1 p.2))
      | _ => none
    | .sl sz xs => match xfb P T with
      | some e => match aggN P e with
        | some (_, s) => if sz = s then (bounds xs.length lo hi).map fun p => .sl sz ((xs.drop p.1).take (p.2 - p.1)) else none
        | none => none
      | none => none
    | .val (.slice none 0 0) => match xfb P T with
      | some e => match aggN P e with
        | some _ => (bounds 0 lo hi).map fun _ => .val (.slice none 0 0)
        | none => none
      | none => none
    | .msl l n => match xfb P T with
      | some e => match aggN P e with
        | some (_, s) => (bounds n lo hi).map fun p => if lo.isNone = true ∧ p.1 = 0 then .msl l p.2 else .mtl l s p.1 (p.2 - p.1)
        | none => none
      | none => none
    | .mtl l sz k n => match xfb P T with
      | some e => match aggN P e with
        | some (_, s) => if sz = s then (bounds n lo hi).map fun p => .mtl l s (k + p.1) (p.2 - p.1) else none
        | none => none
      | none => none
    | _ => none
  | some (.val (.int _ 0)) =>
    match lo, hi with
    | some (.val (.int _ 0)), some (.val (.int _ 0)) => match xfb P T with
      | some e => match aggN P e with
        | some _ => match x with
          | .sl _ _ => some .e0
          | .msl _ _ => some .e0
          | .mtl _ _ _ _ => some .e0
          | .val (.slice _ _ _) => some .e0
          | .e0 => some .e0
          | _ => none
        | none => none
      | none => none
    | _, _ => none
  | _ => none
def xdc (P : Program) (T : TypeId) (x : AV) : Option AV :=
  match x with
  | .val (.string s) => match kindOf P T with
    | .str => some (.val (.int .i64 s.size))
    | _ => none
  | .sl _ xs => (xfb P T).map fun _ => .val (.int .i64 xs.length)
  | .msl _ n => (xfb P T).map fun _ => .val (.int .i64 n)
  | .mtl _ _ _ n => (xfb P T).map fun _ => .val (.int .i64 n)
  | .val (.slice none 0 0) => (xfb P T).map fun _ => .val (.int .i64 0)
  | .e0 => (xfb P T).map fun _ => .val (.int .i64 0)
  | _ => none
theorem xzc {P : Program} {T e : TypeId} (h : xfb P T = some e) : P.underlying T = some (.slice e) := by
  unfold xfb at h
  split at h
  · injection h with h; subst h; assumption
  · cases h
theorem xwc {P : Program} {T e : TypeId} (h : P.underlying T = some (.slice e)) : P.elem T = e := by simp [Program.elem, h]
theorem xeu {P : Program} {T e : TypeId} {n : Nat} (h : arrOfT P T = some (n, e)) : P.underlying T = some (.array n e) := by
  unfold arrOfT at h
  split at h
  · injection h with h; injection h with h1 h2; subst h1; subst h2; assumption
  · cases h
theorem xbi {P : Program} {T f o ft : Nat} (h : xcb P T f = some (o, ft)) : ∃ fs fd, P.underlying T = some (.struct fs) ∧ fs[f]? = some fd ∧ fd.offset = o ∧ fd.type = ft := by
  unfold xcb at h
  split at h
  · rename_i fs hfs
    obtain ⟨fd, h1, h2⟩ := Option.map_eq_some_iff.1 h
    injection h2 with h2 h3
    exact ⟨fs, fd, hfs, h1, h2, h3⟩
  · cases h
theorem xri {P : Program} {T : TypeId} (h : kindOf P T = .str) : P.underlying T = some .string := by
  unfold kindOf at h
  split at h <;> first | assumption | cases h
theorem xuc (b o n : Nat) : (⟨b, o, none⟩ : Addr).add n = ⟨b, o + n, none⟩ := by unfold Addr.add; split <;> simp_all
theorem xvn {P : Program} {E : Env} {T f : Nat} {x v : AV} {u : Value} (hx : VRep E x u) (h : xe P T f x = some v) :
    ∃ z, (Instr.fieldAt T u f).run P E.w = .ok z E.w ∧ VRep E v z := by
  unfold xe at h
  split at h
  · rename_i o ft hf
    obtain ⟨fs, fd, h1, h2, h3, h4⟩ := xbi hf
    subst h3; subst h4
    split at h
    · rename_i g n hn
      obtain ⟨_, hs, _⟩ := xlc hn E.w
      split at h
      · cases h
      · rename_i hn0
        split at h
        · rename_i l sz i off
          injection h with h
          subst h
          simp only [VRep] at hx ⊢
          obtain ⟨b0, hk, rfl, hl⟩ := hx
          refine ⟨_, by simp [Instr.fieldAt, run_underlying h1, h2, Instr.sureAddr, fieldPlace, hs, hn0, xuc]; rfl, b0, hk, by simp [Nat.add_assoc], hl⟩
        · rename_i y off
          injection h with h
          subst h
          simp only [VRep] at hx ⊢
          obtain ⟨v, b, o, h5, rfl, h6, h7⟩ := hx
          refine ⟨_, by simp [Instr.fieldAt, run_underlying h1, h2, Instr.sureAddr, fieldPlace, hs, hn0, xuc]; rfl, v, b, o, h5, by simp [Nat.add_assoc], h6, h7⟩
        · cases h
    · cases h
  · cases h
theorem x7r {P : Program} {E : Env} {T f : Nat} {x v : AV} {u : Value} (hx : VRep E x u) (h : xzf P T f x = some v) :
    ∃ z, (Instr.field T u f).run P E.w = .ok z E.w ∧ VRep E v z := by
  unfold xzf at h
  split at h
  · rename_i o ft cs hf
    obtain ⟨fs, fd, h1, h2, h3, h4⟩ := xbi hf
    subst h3; subst h4
    simp only [VRep] at hx
    obtain ⟨us, hx, rfl⟩ := hx
    obtain ⟨z, hz, hr⟩ := xph hx h
    exact ⟨z, by simp [Instr.field, run_underlying h1, h2, asAgg, hz], hr⟩
  · cases h
theorem xrn {P : Program} {E : Env} {T : Nat} {x y v : AV} {u i : Value} (hx : VRep E x u) (hy : VRep E y i) (h : xjb P T x y = some v) :
    ∃ z, (Instr.indexAt T u i).run P E.w = .ok z E.w ∧ VRep E v z := by
  unfold xjb at h
  split at h
  · rename_i k n
    simp only [VRep] at hy
    subst hy
    split at h
    · rename_i e he
      have hu := xzc he
      split at h
      · rename_i g s hs
        obtain ⟨_, hsz, _⟩ := xlc hs E.w
        split at h
        · rename_i sz xs
          split at h
          · rename_i hc
            obtain ⟨hn, hss⟩ := hc
            subst hss
            obtain ⟨z, hz, hzv⟩ := Option.map_eq_some_iff.1 h
            subst hzv
            simp only [VRep] at hx ⊢
            obtain ⟨us, A, cap, h1, rfl, h3, h4⟩ := hx
            obtain ⟨w1, hw1, hw2⟩ := h1.get _ _ hz
            have hlt : n.toNat < xs.length := (List.getElem?_eq_some_iff.1 hz).1
            rcases h4 with h4 | ⟨b, o, rfl, hZ, h4⟩
            · subst h4; simp at hw1
            · obtain ⟨h5, _, h6⟩ := h4 _ _ hw1
              refine ⟨_, by
                rw [run_indexAt_slice E.w T _ _ _ _ _ (by rw [xwc hu]; exact hu), if_pos ⟨hn, by omega⟩, xwc hu, hsz, Result.andThen_ok, xuc], w1, b, o + n.toNat * sz, hw2, (by rfl), hZ, h6⟩
          · cases h
        · rename_i l len
          split at h
          · rename_i hc
            injection h with h
            subst h
            simp only [VRep] at hx ⊢
            obtain ⟨A, c0, hk, rfl, h5, h6, h3, h4⟩ := hx
            obtain ⟨b0, rfl⟩ := h5 (by omega)
            refine ⟨_, by
              rw [run_indexAt_slice E.w T _ _ _ _ _ (by rw [xwc hu]; exact hu), if_pos hc, xwc hu, hsz, Result.andThen_ok, xuc], b0, hk, by simp, fun b c hb => ?_⟩
            have := (h3 b c hb).1
            injection this with this
            injection this
          · cases h
        · rename_i l sz q len
          split at h
          · rename_i hc
            injection h with h
            subst h
            simp only [VRep] at hx ⊢
            obtain ⟨A, c0, hk, rfl, h5, h6⟩ := hx
            obtain ⟨hc1, hc2⟩ := hc
            subst hc1
            obtain ⟨b0, rfl, h7⟩ := h6 (by omega)
            exact ⟨_, by
              rw [run_indexAt_slice E.w T _ _ _ _ _ (by rw [xwc hu]; exact hu), if_pos hc2, xwc hu, hsz, Result.andThen_ok, xuc], b0, hk, by simp [Nat.add_mul], fun b c hb => (h7 b c hb).1⟩
          · cases h
        · cases h
      · cases h
    · split at h
      · rename_i len e he
        have hu := xeu he
        have ha : P.arrayLen T = len ∧ P.elem T = e := by simp [Program.arrayLen, Program.elem, hu]
        split at h
        · rename_i g s hs
          obtain ⟨_, hsz, _⟩ := xlc hs E.w
          split at h
          · rename_i hc
            split at h
            · rename_i l sz j off
              injection h with h
              subst h
              simp only [VRep] at hx ⊢
              obtain ⟨b0, hk, rfl, hl⟩ := hx
              refine ⟨_, by
                rw [run_indexAt_array E.w T _ _ _ (by rw [ha.1, ha.2]; exact hu), ha.1, if_pos hc, ha.2, hsz, Result.andThen_ok, xuc], b0, hk, by simp [Nat.add_assoc], hl⟩
            · rename_i z off
              injection h with h
              subst h
              simp only [VRep] at hx ⊢
              obtain ⟨v, b, o, h5, rfl, h6, h7⟩ := hx
              refine ⟨_, by
                rw [run_indexAt_array E.w T _ _ _ (by rw [ha.1, ha.2]; exact hu), ha.1, if_pos hc, ha.2, hsz, Result.andThen_ok, xuc], v, b, o, h5, by simp [Nat.add_assoc], h6, h7⟩
            · cases h
          · cases h
        · cases h
      · cases h
  · cases h
end Go.Proofs.YtefdlpandfhcgaaGreatDoor.AL

