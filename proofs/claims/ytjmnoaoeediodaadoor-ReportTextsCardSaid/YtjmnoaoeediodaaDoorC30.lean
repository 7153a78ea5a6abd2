/- A law of the given program is proved: part 30 of 47. -/
import Derived.Lib.ItoaNum
import Derived.Lib.AtoiAll
import Derived.Test.YtjmnoaoeediodaaDoorC29
set_option linter.all false
/- Generic functions of slices, by their models: IndexFunc, ContainsFunc, Clone, for all types. -/
set_option linter.all false
namespace Go.Proofs.YtjmnoaoeediodaaDoor.AL
open Go.RowKit
end Go.Proofs.YtjmnoaoeediodaaDoor.AL

/- AL: the rules of the generated walks, in short forms. -/
set_option linter.all false
namespace Go.Proofs.YtjmnoaoeediodaaDoor.AL
open Go Go.Proofs Go.RowKit
section
variable {α β : Type} {r : β}
theorem iteE {p : Prop} [Decidable p] {a b : Option β} (h : (if p then a else b) = some r) : (p = True ∧ a = some r) ∨ (p = False ∧ b = some r) := by
  by_cases hp : p
  · rw [if_pos hp] at h; exact .inl ⟨eq_true hp, h⟩
  · rw [if_neg hp] at h; exact .inr ⟨eq_false hp, h⟩
theorem itbE {c : Bool} {a b : Option β} (h : (if c = true then a else b) = some r) : (c = true ∧ a = some r) ∨ (c = false ∧ b = some r) := by
  cases c
  · exact .inr ⟨rfl, h⟩
  · exact .inl ⟨rfl, h⟩
theorem bsE {x : Option α} {f : α → Option β} (h : x.bind f = some r) : ∃ v, x = some v ∧ f v = some r := by
  cases x with
  | none => cases h
  | some v => exact ⟨v, rfl, h⟩
theorem ixE (g : α → AV) {xs : List α} {n : Int} {f : α → Option β} (h : (ix xs n).bind f = some r) : ∃ v, ((0 ≤ n) = True ∧ (n < xs.length) = True ∧ (xs.map g)[n.toNat]? = some (g v)) ∧ f v = some r := by
  obtain ⟨v, h1, h2⟩ := bsE h
  exact ⟨v, ⟨eq_true (xcx h1), eq_true (ix_lt h1), ix_enc g h1⟩, h2⟩
theorem ixBE {s : ByteArray} {n : Int} {f : UInt8 → Option β} (h : (ixB s n).bind f = some r) : ∃ v, ((0 ≤ n) = True ∧ s[n.toNat]? = some v) ∧ f v = some r := by
  obtain ⟨v, h1, h2⟩ := bsE h
  exact ⟨v, ⟨xmv h1, (xvr h1).2⟩, h2⟩
theorem ckE {p : Prop} [Decidable p] {f : Unit → Option β} (h : (ck p).bind f = some r) : p ∧ f () = some r := by
  obtain ⟨v, h1, h2⟩ := bsE h
  exact ⟨x90 h1, h2⟩
theorem apE {k : Nat} {xs ys : List α} {f : List α → Option β} (h : (ap k xs ys).bind f = some r) : ((xs.length + ys.length) * k ≤ 140737488355328 ∧ xs.length + ys.length ≤ 9223372036854775807) ∧ f (xs ++ ys) = some r := by
  obtain ⟨v, h1, h2⟩ := bsE h
  obtain ⟨rfl, h3⟩ := xi1 h1
  exact ⟨h3, h2⟩
end
def Lq (l nx : Nat) : Prop := l < nx ∧ (∀ a, (l = nx + a) = False) ∧ (∀ a, (nx + a = l) = False) ∧ (∀ a, (l < nx + a) = True) ∧ (l = nx) = False ∧ (nx = l) = False
theorem lq {l nx : Nat} (h : l < nx) : Lq l nx := ⟨h, ne2 h, ne2' h, lt2 h, eq_false (by omega), eq_false (by omega)⟩
def Nq (a b : Nat) : Prop := a ≠ b ∧ (a = b) = False ∧ (b = a) = False
theorem nq {a b : Nat} (h : a ≠ b) : Nq a b := ⟨h, eq_false h, eq_false h.symm⟩
section
variable {P : Program} {n : Nat} {Q : Exit → AS → Prop} {s : AS}
theorem cwp_lp {σ ρ : Type} {x : AC} {B : σ → Option (St σ ρ)} {o : ρ} {k0 : Nat} {x0 : σ} (ho : iter B k0 x0 = some o) (R : σ → AS → Prop) (h0 : TI n (R x0) s)
    (round : ∀ (I : AS → Prop) (z : σ) (T : Nat → AV) (H : Nat → Option AO) (nx : Nat) (st : St σ ρ), R z ⟨T, H, nx⟩ → B z = some st → (∀ z', st = .nx z' → ∀ s', R z' s' → I s') → (∀ r, st = .out r → r = o) → cw P n x (seqQ (TI n I) Q) ⟨T, H, nx⟩) : cwp P n (.loop x) Q s := by
  refine xaz (fun k s => ∃ z, R z s ∧ iter B k z = some o) k0 ?_ ?_ ?_
  · obtain ⟨s', h1, h2⟩ := h0
    exact ⟨s', h1, x0, h2, ho⟩
  · rintro s ⟨z, _, h⟩
    simp [xfw] at h
  · rintro k ⟨T, H, nx⟩ ⟨z, hz, hi⟩
    rw [xt] at hi
    obtain ⟨st, h1, h2⟩ := bsE hi
    refine cw_cwp _ (round (fun s => ∃ z, R z s ∧ iter B k z = some o) z T H nx st hz h1 ?_ ?_)
    · rintro z' rfl s' hs
      exact ⟨z', hs, h2⟩
    · rintro r rfl
      exact Option.some.inj h2
theorem cwp_cx {x : AC} (id : Nat) (J0 : AS → Prop) (k : ∀ T H nx, J0 ⟨T, H, nx⟩ → Q (.exit id) ⟨T, H, nx⟩) (h : ∀ J : AS → Prop, (∀ s, J0 s → J s) → cwp P n x (exQ id (TI n J) Q) s) : cwp P n x Q s :=
  xy0 id J0 (h J0 fun _ h => h) fun ⟨T, H, nx⟩ hs => k T H nx hs
end
def fzC : Option AV → Option (List AV) → Option (List AV)
  | some y, some ys => some (y :: ys)
  | _, _ => none
def fzF (f : Fn) : Option (List AV) → Option (List AV) → Option AV
  | some a, some b => some (.fn f a b)
  | _, _ => none
def fzM (H : Nat → Option AO) (k n : Nat) : Option AO → Option AV
  | some (.row _ s xs) => if n = xs.length then (frzs H k xs).map (.sl s) else none
  | _ => none
def fzP (H : Nat → Option AO) (k off : Nat) : Option AV → Option AV
  | some y => (frz H k y).map fun z => .ptr z off
  | _ => none
def fzL (H : Nat → Option AO) (k sz i off : Nat) : Option AO → Option AV
  | some (.row _ sz' xs) => if sz = sz' then fzP H k off (xs[i]?) else none
  | _ => none
section
variable (H : Nat → Option AO) (k : Nat)
theorem fz_clo (x : AV) (h : closed x = true) : frz H k x = some x := xgd h H k
theorem xg1 (xs : List AV) (h : closeds xs = true) : frzs H k xs = some xs := xie h H k
theorem xk2 (x : AV) (xs : List AV) : frzs H (k + 1) (x :: xs) = fzC (frz H k x) (frzs H k xs) := by
  by_cases hc : closeds (x :: xs) = true
  · rw [xie hc]
    simp only [closeds, Bool.and_eq_true] at hc
    rw [xgd hc.1, xie hc.2]; rfl
  · conv => lhs; unfold frzs
    rw [if_neg hc]
    dsimp only
    cases frz H k x <;> cases frzs H k xs <;> rfl
theorem fz_agg (cs : List AV) : frz H (k + 1) (.agg cs) = (frzs H k cs).map .agg := by
  by_cases hc : closed (.agg cs) = true
  · rw [xgd hc]; simp only [closed] at hc; rw [xie hc]; rfl
  · conv => lhs; unfold frz
    rw [if_neg hc]
theorem fz_tup (cs : List AV) : frz H (k + 1) (.tup cs) = (frzs H k cs).map .tup := by
  by_cases hc : closed (.tup cs) = true
  · rw [xgd hc]; simp only [closed] at hc; rw [xie hc]; rfl
  · conv => lhs; unfold frz
    rw [if_neg hc]
theorem fz_ptr (y : AV) (off : Nat) : frz H (k + 1) (.ptr y off) = (frz H k y).map fun z => .ptr z off := by
  by_cases hc : closed (.ptr y off) = true
  · rw [xgd hc]; simp only [closed] at hc; rw [xgd hc]; rfl
  · conv => lhs; unfold frz
    rw [if_neg hc]
theorem fz_fn (f : Fn) (a b : List AV) : frz H (k + 1) (.fn f a b) = fzF f (frzs H k a) (frzs H k b) := by
  by_cases hc : closed (.fn f a b) = true
  · rw [xgd hc]; simp only [closed, Bool.and_eq_true] at hc; rw [xie hc.1, xie hc.2]; rfl
  · conv => lhs; unfold frz
    rw [if_neg hc]
    dsimp only
    cases frzs H k a <;> cases frzs H k b <;> rfl
theorem fz_mp (l : Nat) : frz H (k + 1) (.mp l) = some .junk := by simp [frz, closed]
theorem fz_msl (l n : Nat) : frz H (k + 1) (.msl l n) = fzM H k n (H l) := by
  unfold frz fzM
  simp only [closed, Bool.false_eq_true, if_false]
  cases H l with
  | none => rfl
  | some o => cases o <;> rfl
theorem fz_loc (l sz i off : Nat) : frz H (k + 1) (.loc l sz i off) = fzL H k sz i off (H l) := by
  unfold frz fzL fzP
  simp only [closed, Bool.false_eq_true, if_false]
  cases H l with
  | none => rfl
  | some o =>
    cases o <;> try rfl
    rename_i T s xs
    simp only
    split
    · cases xs[i]? <;> rfl
    · rfl
theorem x41 (n T s : Nat) (xs : List AV) : fzM H k n (some (.row T s xs)) = if n = xs.length then (frzs H k xs).map (.sl s) else none := _root_.id rfl
theorem x60 (sz i off T s : Nat) (xs : List AV) : fzL H k sz i off (some (.row T s xs)) = if sz = s then fzP H k off (xs[i]?) else none := _root_.id rfl
theorem xzy (off : Nat) (y : AV) : fzP H k off (some y) = (frz H k y).map fun z => .ptr z off := _root_.id rfl
theorem xwy (y : AV) (ys : List AV) : fzC (some y) (some ys) = some (y :: ys) := _root_.id rfl
theorem xd0 (f : Fn) (a b : List AV) : fzF f (some a) (some b) = some (.fn f a b) := _root_.id rfl
end
def FZ := aI (aI (aI (aI (@fz_clo) (@xg1)) (aI (@xk2) (@fz_agg))) (aI (aI (@fz_tup) (@fz_ptr)) (aI (@fz_fn) (@fz_mp)))) (aI (aI (aI (@fz_msl) (@fz_loc)) (aI (@x41) (@x60))) (aI (aI (@xzy) (@xwy)) (aI (@xd0) (@xln AV AV))))
theorem frzR_e {r x : AV} {H : Nat → Option AO} {nx : Nat} (h : frz H 9 x = some r) : frzR r x H nx := ⟨9, r, h, Sub.refl _⟩
def OkN (P : Program) (f : FuncId) (args : List AV) (r : AV) : Prop :=
  callable P f = true ∧ ∀ (Z : Nat → Prop) (w : World) (vals : List Value), ZG Z w → VReps (Ec Z w) args vals →
    Calls P f vals.toArray w fun e w' => ∃ v, e = .returned v ∧ Below w.heap.size w w' ∧ VRep (Ec (fun b => w.heap.size ≤ b ∧ b < w'.heap.size) w') r v
theorem OkN.sub {P : Program} {f : FuncId} {ag ag' : List AV} {r : AV} (h : OkN P f ag' r) (hs : Subs ag ag') : OkN P f ag r := ⟨h.1, fun Z w vals hZ hv => h.2 Z w vals hZ (hs _ _ hv)⟩
section
variable {P : Program} {H H' : Nat → Option AO} {nx new : Nat} {ρ : Operand → AV} {k : AV → (Nat → Option AO) → Nat → Prop} {c : Call} {f : FuncId} {ag ag' ag2 : List AV} {r : AV}
theorem qc (h : Ok P f ag r) (hc : xod ρ c = some (f, ag)) (hk : k r H nx) (hcl : closeds ag = true := by simp only [CLO]) : Sem1 P (.call c) H nx new ρ k := S1_ok h hc hcl hk
theorem qcbs (h : Ok P f ag2 r) (hc : xod ρ c = some (f, ag)) (hs : Subs ag' ag2) (hm : frzs H 9 ag = some ag') (hk : k r H nx) (hfl : flat r = true := by rfl) : Sem1 P (.call c) H nx new ρ k := S1_okb 9 (Ok.sub h hs) hc hm hfl hk
theorem qd {K : AV → Prop} (h : Ok P f ag r) (hc : xod ρ c = some (f, ag)) (hk : K r) (hcl : closeds ag = true := by simp only [CLO]) : ∃ v, OpS1 P (.call c) H ρ new v ∧ K v := ⟨_, xm1 h hc hcl, hk⟩
end
theorem SubH.kill {V H : Nat → Option AO} (h : SubH V H) (l : Nat) : SubH (upd V l none) (upd H l none) := by
  intro j o e
  simp only [upd_at] at e ⊢
  split
  · rename_i e'; rw [if_pos e'] at e; cases e
  · rename_i e'; rw [if_neg e'] at e; exact h j o e
section
variable {P : Program} {V V' : Nat → Option AO} {W : List Nat} {new : Nat} {ρ : Operand → AV} {c : Call} {f : FuncId} {ag ag' ag2 : List AV} {r : AV} {K : AV → Upds → Prop}
end
theorem okG {P : Program} {f : FuncId} {n : Nat} {rs : List ResultVar} {ac : AC} (hf : FnC P f n rs ac) {args : List AV} {r : AV} (h : cw P n ac (finQ P rs (frzR r)) ⟨argT args, fun _ => none, 0⟩) (hn : args.length ≤ n := by simp) : Ok P f args r := okF hf hn h
end Go.Proofs.YtjmnoaoeediodaaDoor.AL

/- strings.Split by the kit's contract. -/
set_option linter.all false
namespace Go.Proofs.YtjmnoaoeediodaaDoor.AL
open Go Go.Proofs Go.RowKit
def xbe (s sep : ByteArray) : Option (List ByteArray) := (ck (s.size < 4294967281 ∧ 1 ≤ sep.size)).bind fun _ => some (Lib.splitB sep 0 (Lib.countB s sep) s)
theorem x3n (s sep : ByteArray) (r : List ByteArray) (h : xbe s sep = some r) : Ok Tryd.prog 30 [str s, str sep] (.sl 1 (r.map str)) := by
  unfold xbe at h
  obtain ⟨⟨h1, h2⟩, h3⟩ := ckE h
  obtain rfl := Option.some.inj h3
  refine ⟨by kernel_rfl, fun Z w vals hZ hv => ?_⟩
  simp only [VReps] at hv
  obtain ⟨u, us, g1, ⟨v, vs, g2, rfl, rfl⟩, rfl⟩ := hv
  simp only [VRep] at g1 g2
  subst g1; subst g2
  obtain ⟨m, hm⟩ := hZ.gw.maxLen
  refine (Tryd.strings_Split s sep m w h1 hm h2).mono ?_
  rintro e w' ⟨rfl, rfl⟩
  have hlen := Lib.splitB_all sep h2 0 _ s rfl
  generalize hl : Lib.splitB sep 0 (Lib.countB s sep) s = l at hlen ⊢
  refine ⟨_, rfl, ?_, ?_⟩
  · exact ⟨rfl, rfl, rfl, by show w.heap.size ≤ (w.heap.push _).size; simp, fun k hk => by show (w.heap.push _)[k]? = _; rw [Array.getElem?_push_lt hk]; simp [hk]⟩
  · simp only [VRep, List.length_map]
    refine ⟨l.map Value.string, some ⟨w.heap.size, 0, none⟩, l.length, ?_, by rw [hlen], Nat.le_refl _, .inr ⟨w.heap.size, 0, rfl, .inr ⟨Nat.le_refl _, by show w.heap.size < (w.heap.push _).size; simp⟩, ?_⟩⟩
    · clear hl hlen
      generalize Ec _ _ = E
      induction l with
      | nil => simp [VReps]
      | cons x l ih =>
        simp only [List.map_cons, VReps]
        exact ⟨_, _, by simp only [VRep], ih, rfl⟩
    · intro i u hu
      simp only [List.getElem?_map] at hu
      obtain ⟨x, hx, rfl⟩ := Option.map_eq_some_iff.1 hu
      refine ⟨rfl, by simp [Value.cells, Value.oneCell'], ?_⟩
      intro j v hj
      have hj0 : j = 0 := by
        simp only [Value.cells] at hj
        have := (Array.getElem?_eq_some_iff.1 hj).1
        simp at this
        exact this
      subst hj0
      simp only [Value.cells] at hj
      simp at hj
      subst hj
      refine (cell_of_row _ w.heap.size (0 + i * 1 + 0) (l.map Value.string).toArray 9 (0, 0) (by show (w.heap.push _)[w.heap.size]? = _; simp)).trans ?_
      simp [hx]
end Go.Proofs.YtjmnoaoeediodaaDoor.AL

/- Decimal numerals: how they are read. -/
set_option linter.all false
namespace Go.Proofs.YtjmnoaoeediodaaDoor.AL
open Go Go.Lib
def i64 (v : Int) : Prop := -9223372036854775808 ≤ v ∧ v ≤ 9223372036854775807
instance (v : Int) : Decidable (i64 v) := inferInstanceAs (Decidable (_ ∧ _))
theorem dgt {d : Nat} (h : d < 10) : (UInt8.ofNat (48 + d)).toNat = 48 + d := by
  rw [UInt8.toNat_ofNat']
  omega
theorem xne : ∀ (u : Nat) (c : UInt8), c ∈ decDigits u → 48 ≤ c.toNat ∧ c.toNat ≤ 57 := by
  intro u
  induction u using Nat.strongRecOn with
  | _ u ih =>
    intro c hc
    rw [decDigits] at hc
    split at hc
    · rename_i h
      simp only [List.mem_singleton] at hc
      subst hc
      rw [dgt h]
      omega
    · rename_i h
      rcases List.mem_append.1 hc with hc | hc
      · exact ih (u / 10) (by omega) c hc
      · simp only [List.mem_singleton] at hc
        subst hc
        rw [dgt (by omega)]
        omega
theorem xri (u : Nat) : decDigits u ≠ [] := by
  rw [decDigits]
  split <;> simp
theorem x6u (v : Int) (c : UInt8) (hc : c ∈ itoa v) : c.toNat = 45 ∨ (48 ≤ c.toNat ∧ c.toNat ≤ 57) := by
  unfold itoa at hc
  split at hc
  · rcases List.mem_cons.1 hc with rfl | hc
    · exact .inl rfl
    · exact .inr (xne _ c hc)
  · exact .inr (xne _ c hc)
theorem xlu (v : Int) : itoa v ≠ [] := by
  unfold itoa
  split
  · simp
  · exact xri _
theorem xbw : ∀ (u : Nat), u < 18446744073709551616 → ∀ r : List UInt8, parseUint10 0 (decDigits u ++ r) = parseUint10 u r := by
  intro u
  induction u using Nat.strongRecOn with
  | _ u ih =>
    intro hu r
    rw [decDigits]
    split
    · rename_i h
      simp only [List.cons_append, List.nil_append, parseUint10]
      rw [dgt h, if_pos (by omega), if_neg (by omega), if_neg (by omega)]
      congr 1
      omega
    · rename_i h
      rw [List.append_assoc, ih (u / 10) (by omega) (by omega)]
      simp only [List.cons_append, List.nil_append, parseUint10]
      rw [dgt (by omega), if_pos (by omega), if_neg (by omega), if_neg (by omega)]
      congr 1
      omega
theorem xku {u : Nat} (hu : u < 18446744073709551616) : parseMag (decDigits u) = .ok u := by
  unfold parseMag
  rw [if_neg (xri u)]
  have := xbw u hu []
  rw [List.append_nil] at this
  rw [this]
  rfl
theorem xgj {v : Int} (h0 : -9223372036854775808 ≤ v) (h1 : v ≤ 9223372036854775807) : atoiAll (itoa v) = .ok v := by
  unfold itoa
  split
  · rename_i h
    unfold atoiAll
    have e : (45 : UInt8).toNat = 45 := rfl
    simp only [e, or_true, if_true, true_and, not_true_eq_false, false_and, if_false]
    rw [xku (by omega)]
    simp only
    rw [if_neg (by omega)]
    congr 1
    omega
  · rename_i h
    have hm := xku (u := v.toNat) (by omega)
    have hd := xne v.toNat
    have hne := xri v.toNat
    generalize decDigits v.toNat = l at hm hd hne
    cases l with
    | nil => exact absurd rfl hne
    | cons c r =>
      have := hd c (by simp)
      unfold atoiAll
      simp only
      rw [if_neg (by omega), hm]
      simp only
      have e : ¬ c.toNat = 45 := by omega
      simp only [e, not_false_eq_true, true_and, false_and, if_false]
      rw [if_neg (by omega)]
      congr 1
      omega
theorem xl2 {u : Nat} (hu : 0 < u) (s : List UInt8) : (if u / 10 = 0 then [] else decDigits (u / 10)) ++ UInt8.ofNat (48 + u % 10) :: s = decDigits u ++ s := by
  by_cases h : u < 10
  · rw [if_pos (by omega), decDigits, dif_pos h]
    have : u % 10 = u := by omega
    rw [this]
    rfl
  · have e : decDigits u = decDigits (u / 10) ++ [UInt8.ofNat (48 + u % 10)] := by rw [decDigits, dif_neg h]
    rw [if_neg (by omega), e]
    simp
end Go.Proofs.YtjmnoaoeediodaaDoor.AL

/- Functions of the library by the kit's contracts: strings.Cut, Fields, CutSuffix, strconv.Itoa, Atoi. -/
set_option linter.all false
namespace Go.Proofs.YtjmnoaoeediodaaDoor.AL
open Go Go.Proofs Go.RowKit
theorem xjj {E : Env} {s : ByteArray} {vals : List Value} (hv : VReps E [str s] vals) : vals = [.string s] := by
  simp only [VReps] at hv
  obtain ⟨u, us, g1, rfl, rfl⟩ := hv
  simp only [VRep] at g1
  subst g1
  rfl
theorem xzr {E : Env} {s p : ByteArray} {vals : List Value} (hv : VReps E [str s, str p] vals) : vals = [.string s, .string p] := by
  simp only [VReps] at hv
  obtain ⟨u, us, g1, ⟨v, vs, g2, rfl, rfl⟩, rfl⟩ := hv
  simp only [VRep] at g1 g2
  subst g1; subst g2
  rfl
theorem xau (B : Nat) (w : World) (n : Nat) : Below B w (w.drewN n) := ⟨rfl, rfl, rfl, Nat.le_refl _, fun _ _ => rfl⟩
def x5b (s p : ByteArray) : Option (ByteArray × ByteArray × Bool) := (ck (s.size < 4294967281)).bind fun _ => some (⟨(Lib.cut s.data.toList p.data.toList).1.toArray⟩, ⟨(Lib.cut s.data.toList p.data.toList).2.1.toArray⟩, (Lib.cut s.data.toList p.data.toList).2.2)
theorem xfh (s p : ByteArray) (r : ByteArray × ByteArray × Bool) (h : x5b s p = some r) : Ok Tryd.prog 28 [str s, str p] (.tup [str r.1, str r.2.1, bool r.2.2]) := by
  unfold x5b at h
  obtain ⟨h1, h⟩ := ckE h
  obtain rfl := Option.some.inj h
  refine ⟨by kernel_rfl, fun Z w vals hZ hv => ?_⟩
  obtain rfl := xzr hv
  obtain ⟨m, hm⟩ := hZ.gw.maxLen
  refine (Tryd.strings_Cut s p m w h1 hm).mono ?_
  rintro e w' ⟨rfl, n, rfl⟩
  exact ⟨_, rfl, xau _ _ _, by simp only [VRep, VReps]; exact ⟨_, ⟨_, _, rfl, ⟨_, _, rfl, ⟨_, _, rfl, rfl, rfl⟩, rfl⟩, rfl⟩, rfl⟩⟩
theorem tab_of {w : World} {g : Nat} {k : IntKind} {zs : List Int} {name : String} (hg : Program.globalNamed Tryd.prog name = some g) (h : GB w g (zs.map fun z => Value.int k z).toArray) : Lib.TabIs Tryd.prog w name k zs := by
  obtain ⟨T, fr, h⟩ := h
  unfold Lib.TabIs World.var?
  rw [hg]
  simp only [Option.bind_some, h]
theorem GW.space {w : World} (h : GW w) : Lib.TabIs Tryd.prog w "strings.asciiSpace" .u8 Lib.asciiSpaceTab := by
  obtain ⟨h0, h1, h2, h3, h4, h5⟩ := h
  exact tab_of (by kernel_rfl) h2
theorem GW.pow10 {w : World} (h : GW w) : Lib.TabIs Tryd.prog w "internal/strconv.uint64pow10" .u64 Lib.pow10Tab := by
  obtain ⟨h0, h1, h2, h3, h4, h5⟩ := h
  exact tab_of (by kernel_rfl) h3
theorem GW.errS {w : World} (h : GW w) : GC w 3 (fun v => v = .nilIface ∨ ∃ t p, v = .iface t p) := by
  obtain ⟨h0, h1, h2, h3, h4, h5⟩ := h
  exact h4
theorem GW.errR {w : World} (h : GW w) : GC w 4 (fun v => v = .nilIface ∨ ∃ t p, v = .iface t p) := by
  obtain ⟨h0, h1, h2, h3, h4, h5⟩ := h
  exact h5
def xhb (n : Int) : Option ByteArray := (ck (i64 n)).bind fun _ => some ⟨(Lib.itoa n).toArray⟩
theorem xvb (n : Int) (r : ByteArray) (h : xhb n = some r) : Ok Tryd.prog 36 [int n] (str r) := by
  unfold xhb at h
  obtain ⟨⟨h1, h2⟩, h⟩ := ckE h
  obtain rfl := Option.some.inj h
  refine ⟨by kernel_rfl, fun Z w vals hZ hv => ?_⟩
  simp only [VReps] at hv
  obtain ⟨u, us, g1, rfl, rfl⟩ := hv
  simp only [VRep] at g1
  subst g1
  refine (Tryd.strconv_Itoa n h1 h2 w hZ.gw.pow10).mono ?_
  rintro e w' ⟨rfl, k, os, rfl⟩
  exact ⟨_, rfl, ⟨rfl, rfl, rfl, by show w.heap.size ≤ (w.heap ++ os).size; simp, fun j hj => by show (w.heap ++ os)[j]? = _; rw [Array.getElem?_append_left hj]⟩, by simp only [VRep]⟩
def errA : Bool → AV
  | false => .val .nilIface
  | true => .ifc 104 .junk
def atoiM : Lib.NumEnd Int → Int → Int × Bool
  | .ok v, _ => (v, false)
  | .range, s => (s, true)
  | _, _ => (0, true)
def xqe (s : ByteArray) : Option (Int × Bool) := (ck (s.size ≤ 281474976710656)).bind fun _ => some (atoiM (Lib.atoiAll s.data.toList) (Lib.atoiSat s.data.toList))
theorem xxo (s : ByteArray) (r : Int × Bool) (h : xqe s = some r) : Ok Tryd.prog 31 [str s] (.tup [int r.1, errA r.2]) := by
  unfold xqe at h
  obtain ⟨h1, h⟩ := ckE h
  obtain rfl := Option.some.inj h
  refine ⟨by kernel_rfl, fun Z w vals hZ hv => ?_⟩
  obtain rfl := xjj hv
  rcases ha : Lib.atoiAll s.data.toList with v | _ | _
  · refine (Tryd.strconv_Atoi_ok s (by omega) v ha w).mono ?_
    rintro e w' ⟨rfl, hw⟩
    refine ⟨_, rfl, ?_, by simp only [VRep, VReps, atoiM, errA]; exact ⟨_, ⟨_, _, rfl, ⟨_, _, rfl, rfl, rfl⟩, rfl⟩, rfl⟩⟩
    rcases hw with rfl | ⟨t, rfl⟩
    · exact Below.refl _ _
    · exact Lib.bytesWorld_below _ _ _
  · obtain ⟨ev, hv1, hv2⟩ := hZ.gw.errS
    refine (Tryd.strconv_Atoi_bad s h1 ha ev w hv1 hv2).mono ?_
    rintro e w' ⟨N, rfl, _, _, hb⟩
    exact ⟨_, rfl, hb, by simp only [VRep, VReps, atoiM, errA]; exact ⟨_, ⟨_, _, rfl, ⟨_, _, ⟨_, trivial, rfl⟩, rfl, rfl⟩, rfl⟩, rfl⟩⟩
  · obtain ⟨ev, hv1, hv2⟩ := hZ.gw.errR
    refine (Tryd.strconv_Atoi_range s h1 ha ev w hv1 hv2).mono ?_
    rintro e w' ⟨N, rfl, _, _, hb⟩
    exact ⟨_, rfl, hb, by simp only [VRep, VReps, atoiM, errA]; exact ⟨_, ⟨_, _, rfl, ⟨_, _, ⟨_, trivial, rfl⟩, rfl, rfl⟩, rfl⟩, rfl⟩⟩
theorem E_err (b : Bool) : xkb Tryd.prog .neq 59 (errA b) (.val .nilIface) = some (.val (.bool b)) := by
  have h : (match Program.underlying Tryd.prog 59 with
    | some (.interface _) => true
    | _ => false) = true := by kernel_rfl
  split at h
  · rename_i ms hu
    cases b <;> simp only [errA, xkb, hu]
  · cases h
def DErr := @E_err
theorem xdz (w w' : World) (b T : Nat) (fr : Nat × Nat) (l : List ByteArray) (hb : w.heap.size ≤ b) (h : w'.heap[b]? = some (.cells (l.map Value.string).toArray T fr)) (Z : Nat → Prop) :
    VRep (Ec (fun k => Z k ∨ (w.heap.size ≤ k ∧ k < w'.heap.size)) w') (.sl 1 (l.map str)) (.slice (some ⟨b, 0, none⟩) l.length l.length) := by
  have hlt : b < w'.heap.size := (Array.getElem?_eq_some_iff.1 h).1
  simp only [VRep, List.length_map]
  refine ⟨l.map Value.string, some ⟨b, 0, none⟩, l.length, ?_, rfl, Nat.le_refl _, .inr ⟨b, 0, rfl, .inr ⟨hb, hlt⟩, ?_⟩⟩
  · generalize Ec _ _ = E
    clear h
    induction l with
    | nil => simp [VReps]
    | cons x l ih =>
      simp only [List.map_cons, VReps]
      exact ⟨_, _, by simp only [VRep], ih, rfl⟩
  · intro i u hu
    simp only [List.getElem?_map] at hu
    obtain ⟨x, hx, rfl⟩ := Option.map_eq_some_iff.1 hu
    refine ⟨rfl, by simp [Value.cells, Value.oneCell'], ?_⟩
    intro j v hj
    have hj0 : j = 0 := by
      simp only [Value.cells] at hj
      have := (Array.getElem?_eq_some_iff.1 hj).1
      simp at this
      exact this
    subst hj0
    simp only [Value.cells] at hj
    simp at hj
    subst hj
    refine (cell_of_row _ b (0 + i * 1 + 0) (l.map Value.string).toArray T fr h).trans ?_
    simp [hx]
def xgc (s : ByteArray) : Option (List ByteArray) := (ck (s.size < 4294967281 ∧ ∀ b ∈ s.data.toList, b.toNat < 128)).bind fun _ => some ((Lib.fields s.data.toList).map fun l => ⟨l.toArray⟩)
theorem x4h (s : ByteArray) (r : List ByteArray) (h : xgc s = some r) : Ok Tryd.prog 29 [str s] (.sl 1 (r.map str)) := by
  unfold xgc at h
  obtain ⟨⟨h1, h2⟩, h⟩ := ckE h
  obtain rfl := Option.some.inj h
  refine ⟨by kernel_rfl, fun Z w vals hZ hv => ?_⟩
  obtain rfl := xjj hv
  refine (Tryd.strings_Fields s w h1 (fun j b hb => h2 b (List.mem_of_getElem? hb)) hZ.gw.space).mono ?_
  rintro e w' ⟨rfl, rfl⟩
  refine ⟨_, rfl, (Below.refl _ w).alloc (Nat.le_refl _) _, ?_⟩
  have := xdz w (w.alloc (.cells ((Lib.fields s.data.toList).map fun l => Value.string ⟨l.toArray⟩).toArray 9)) w.heap.size 9 (0, 0) ((Lib.fields s.data.toList).map fun l => ⟨l.toArray⟩) (Nat.le_refl _) (by
    show (w.heap.push _)[w.heap.size]? = _
    rw [Array.getElem?_push_size]
    simp only [List.map_map]
    rfl) Z
  simpa only [List.length_map] using this
end Go.Proofs.YtjmnoaoeediodaaDoor.AL

