/- A law of the given program is proved: part 4 of 50. -/
import Derived.Laws.StructEq
import Derived.Laws.Concat
import Derived.WideLaws
import Derived.ChangeKeysEq
import Derived.Test.YtefdlpandfhcgaaGreatDoorA3
set_option linter.all false
/- AL, part 3: operations that touch no memory of the run's own (xpc). -/
set_option linter.unusedSimpArgs false
namespace Go.Proofs.YtefdlpandfhcgaaGreatDoor.AL
open Go.RowKit
def aggN (P : Program) (T : TypeId) : Option (Bool × Nat) :=
  match P.underlying T, P.info? T with
  | some (.struct _), some i => some (true, i.size)
  | some (.array _ _), some i => some (true, i.size)
  | some _, some i => some (false, i.size)
  | _, _ => none
def xcb (P : Program) (T f : Nat) : Option (Nat × TypeId) :=
  match P.underlying T with
  | some (.struct fs) => (fs[f]?).map fun x => (x.offset, x.type)
  | _ => none
def xfb (P : Program) (T : TypeId) : Option TypeId :=
  match P.underlying T with
  | some (.slice e) => some e
  | _ => none
def arrOfT (P : Program) (T : TypeId) : Option (Nat × TypeId) :=
  match P.underlying T with
  | some (.array n e) => some (n, e)
  | _ => none
inductive Kd | bool | int | str | other
def kindOf (P : Program) (T : TypeId) : Kd :=
  match P.underlying T with
  | some .bool => .bool
  | some (.int _) => .int
  | some .string => .str
  | _ => .other
def intOfT (P : Program) (T : TypeId) : Option IntKind :=
  match P.underlying T with
  | some (.int k) => some k
  | _ => none
def xrg : Value → AV
  | .agg a => .agg (a.toList.map .val)
  | v => .val v
def zeroOf (P : Program) (T : TypeId) : Option AV := ((P.info? T).bind (·.zero)).map xrg
theorem VReps.vals (E : Env) : ∀ us : List Value, VReps E (us.map AV.val) us
  | [] => .nil
  | u :: us => .cons (by simp only [VRep]) (VReps.vals E us)
theorem VRep.ofConst (E : Env) (v : Value) : VRep E (xrg v) v := by
  cases v <;> simp only [AL.xrg, VRep]
  exact ⟨_, VReps.vals E _, rfl⟩
def xi (x : AV) (n : Nat) : Bool :=
  match x with
  | .agg cs => cs.length == n && cs.all AV.one
  | x => x.one && n == 1
theorem x6m {x : AV} {n : Nat} (h : xi x n = true) : (x.one = true ∨ ∃ cs, x = .agg cs) ∧ x.cells.length = n ∧ x.cells.all AV.one = true := by
  cases x <;> simp_all [xi, AV.cells, AV.one]
theorem VRep.sized {E : Env} {x : AV} {u : Value} {n : Nat} (h : VRep E x u) (hs : xi x n = true) :
    u.cells.size = n ∧ (∀ v ∈ u.cells.toList, v.oneCell' = true) ∧ VReps E x.cells u.cells.toList := by
  obtain ⟨h1, h2, h3⟩ := x6m hs
  have hc := h.cells h1
  have hl := hc.length
  exact ⟨by rw [← h2, ← hl]; simp, hc.one h3, hc⟩
def xud (op : BinOp) (k : IntKind) (a b : Int) : Option AV :=
  match op with
  | .add => some (.val (.int k (k.wrap (a + b))))
  | .sub => some (.val (.int k (k.wrap (a - b))))
  | .mul => some (.val (.int k (k.wrap (a * b))))
  | .quo => if b = 0 then none else some (.val (.int k (k.wrap (a.tdiv b))))
  | .rem => if b = 0 then none else some (.val (.int k (a.tmod b)))
  | .and => some (.val (.int k (k.wrap (BitVec.ofInt k.bits a &&& BitVec.ofInt k.bits b).toNat)))
  | .or => some (.val (.int k (k.wrap (BitVec.ofInt k.bits a ||| BitVec.ofInt k.bits b).toNat)))
  | .xor => some (.val (.int k (k.wrap (BitVec.ofInt k.bits a ^^^ BitVec.ofInt k.bits b).toNat)))
  | .andNot => some (.val (.int k (k.wrap (BitVec.ofInt k.bits a &&& ~~~BitVec.ofInt k.bits b).toNat)))
  | .eql => some (.val (.bool (a == b)))
  | .neq => some (.val (.bool (a != b)))
  | .lss => some (.val (.bool (decide (a < b))))
  | .leq => some (.val (.bool (decide (a ≤ b))))
  | .gtr => some (.val (.bool (decide (a > b))))
  | .geq => some (.val (.bool (decide (a ≥ b))))
  | _ => none
def xhu (op : BinOp) (k : IntKind) (a b : Int) : Option AV :=
  if b < 0 then none else
  match op with
  | .shl => some (.val (.int k (k.wrap (a * 2 ^ (min b.toNat k.bits)))))
  | .shr => some (.val (.int k (a.fdiv (2 ^ (min b.toNat k.bits)))))
  | _ => none
def x0l (op : BinOp) (a b : ByteArray) : Option AV :=
  match op with
  | .add => if a.size + b.size ≤ 9223372036854775807 then some (.val (.string (a ++ b))) else none
  | .eql => some (.val (.bool (a == b)))
  | .neq => some (.val (.bool !(a == b)))
  | .lss => some (.val (.bool (Op.bytesLess a.toList b.toList)))
  | .leq => some (.val (.bool (Op.bytesLess a.toList b.toList || a == b)))
  | .gtr => some (.val (.bool !(Op.bytesLess a.toList b.toList || a == b)))
  | .geq => some (.val (.bool !(Op.bytesLess a.toList b.toList)))
  | _ => none
def partOf (P : Program) (T : TypeId) (cs : List AV) (off : Nat) : Option AV :=
  match aggN P T with
  | some (true, n) => some (.agg ((cs.drop off).take n))
  | some (false, _) => cs[off]?
  | none => none
mutual
def evalEq (P : Program) : Nat → TypeId → AV → AV → Option Bool
  | 0, _, _, _ => none
  | d + 1, t, x, y =>
    match P.underlying t with
    | some .bool => match x, y with
      | .val (.bool a), .val (.bool b) => some (a == b)
      | _, _ => none
    | some (.int _) => match x, y with
      | .val (.int k a), .val (.int k' b) => if k = k' then some (a == b) else none
      | _, _ => none
    | some .string => match x, y with
      | .val (.string a), .val (.string b) => some (a == b)
      | _, _ => none
    | some (.struct fs) => match x, y with
      | .agg xs, .agg ys => if P.stoodInHeld t then none else evalEqs P d xs ys fs.toList
      | _, _ => none
    | some (.array n e) => match x, y with
      | .agg xs, .agg ys => if (P.info? e).isSome = true then evalIts P d e (P.cellsOf e) xs ys (List.range n) else none
      | _, _ => none
    | _ => none
def evalEqs (P : Program) : Nat → List AV → List AV → List Field → Option Bool
  | _, _, _, [] => some true
  | 0, _, _, _ :: _ => none
  | d + 1, xs, ys, f :: fs =>
    if f.name ≠ "_" then
      match partOf P f.type xs f.offset, partOf P f.type ys f.offset with
      | some a, some b =>
        match evalEq P d f.type a b, evalEqs P d xs ys fs with
        | some p, some q => some (p && q)
        | _, _ => none
      | _, _ => none
    else evalEqs P d xs ys fs
def evalIts (P : Program) : Nat → TypeId → Nat → List AV → List AV → List Nat → Option Bool
  | _, _, _, _, _, [] => some true
  | 0, _, _, _, _, _ :: _ => none
  | d + 1, e, c, xs, ys, i :: is =>
    match partOf P e xs (i * c), partOf P e ys (i * c) with
    | some a, some b =>
      match evalEq P d e a b, evalIts P d e c xs ys is with
      | some p, some q => some (p && q)
      | _, _ => none
    | _, _ => none
end
theorem xlc {P : Program} {T : TypeId} {g : Bool} {n : Nat} (h : aggN P T = some (g, n)) (w : World) :
    (isAgg T).run P w = .ok g w ∧ (sizeOf T).run P w = .ok n w ∧ ∃ i, P.info? T = some i ∧ i.size = n := by
  unfold aggN at h
  cases hd : P.underlying T with
  | none => simp [hd] at h
  | some d =>
    cases hi : P.info? T with
    | none => cases d <;> simp [hd, hi] at h
    | some i =>
      have hs : (sizeOf T).run P w = .ok i.size w := by simp [sizeOf, typeInfo, hi]
      rw [hd, hi] at h
      cases d <;> (injection h with h; injection h with h1 h2; subst h1; subst h2; exact ⟨by simp [isAgg, run_underlying hd], hs, i, rfl, rfl⟩)
theorem xph {P : Program} {E : Env} {T : TypeId} {cs : List AV} {us : List Value} {off : Nat} {x : AV} (h : VReps E cs us) (hp : partOf P T cs off = some x) :
    ∃ u, (part T us.toArray off).run P E.w = .ok u E.w ∧ VRep E x u := by
  unfold partOf at hp
  split at hp
  · rename_i n hn
    injection hp with hp
    subst hp
    obtain ⟨h1, h2, _⟩ := xlc hn E.w
    refine ⟨.agg (us.toArray.extract off (off + n)), by simp [part, h1, h2], ?_⟩
    simp only [VRep]
    refine ⟨(us.drop off).take n, (h.drop off).take n, ?_⟩
    congr 1
    apply Array.ext'
    simp [List.extract_eq_take_drop]
  · rename_i n hn
    obtain ⟨u, hu, hr⟩ := h.get off x hp
    exact ⟨u, by simp [part, (xlc hn E.w).1, hu], hr⟩
  · cases hp
theorem xqi {P : Program} {E : Env} : ∀ (d : Nat), (∀ (t : TypeId) (x y : AV) (u v : Value) (r : Bool), VRep E x u → VRep E y v → evalEq P d t x y = some r → ∀ d', d ≤ d' → (Op.equalIn d' t u v).run P E.w = .ok r E.w) ∧
    (∀ (xs ys : List AV) (us vs : List Value) (fs : List Field) (r : Bool), VReps E xs us → VReps E ys vs → evalEqs P d xs ys fs = some r → ∀ d', d ≤ d' → (Op.eqFields d' us.toArray vs.toArray fs).run P E.w = .ok r E.w) ∧
    (∀ (e : TypeId) (c : Nat) (xs ys : List AV) (us vs : List Value) (is : List Nat) (r : Bool), VReps E xs us → VReps E ys vs → evalIts P d e c xs ys is = some r → ∀ d', d ≤ d' → (Op.eqItems d' e c us.toArray vs.toArray is).run P E.w = .ok r E.w) := by
  intro d
  induction d with
  | zero =>
    refine ⟨fun t x y u v r _ _ h => by simp [evalEq] at h, fun xs ys us vs fs r _ _ h d' _ => ?_, fun e c xs ys us vs is r _ _ h d' _ => ?_⟩
    · cases fs with
      | nil => simp only [evalEqs] at h; injection h with h; subst h; simp [Op.eqFields]
      | cons f fs => simp [evalEqs] at h
    · cases is with
      | nil => simp only [evalIts] at h; injection h with h; subst h; simp [Op.eqItems]
      | cons f fs => simp [evalIts] at h
  | succ d ih =>
    refine ⟨?_, ?_, ?_⟩
    · intro t x y u v r hx hy h d' hd
      obtain ⟨d', rfl⟩ : ∃ k, d' = k + 1 := ⟨d' - 1, by omega⟩
      unfold evalEq at h
      split at h
      · rename_i hu
        split at h
        · simp only [VRep] at hx hy
          subst hx; subst hy
          injection h with h
          subst h
          exact run_equalIn_bool' E.w d' t _ _ hu
        · cases h
      · rename_i k hu
        split at h
        · simp only [VRep] at hx hy
          subst hx; subst hy
          split at h
          · rename_i e
            subst e
            injection h with h
            subst h
            exact run_equalIn_int E.w d' t _ _ _ _ hu
          · cases h
        · cases h
      · rename_i hu
        split at h
        · simp only [VRep] at hx hy
          subst hx; subst hy
          injection h with h
          subst h
          rw [run_equalIn_string E.w d' t _ _ hu, beq_toListBytes]
        · cases h
      · rename_i fs hu
        split at h
        · simp only [VRep] at hx hy
          obtain ⟨us, hx, rfl⟩ := hx
          obtain ⟨vs, hy, rfl⟩ := hy
          split at h
          · cases h
          · rename_i hst
            have hf : P.fieldsOf t = fs := by simp [Program.fieldsOf, hu]
            rw [run_equalIn_struct E.w d' t _ _ (by rw [hf]; exact hu) (by simpa using hst), hf]
            exact ih.2.1 _ _ _ _ _ _ hx hy h d' (by omega)
        · cases h
      · rename_i n e hu
        split at h
        · simp only [VRep] at hx hy
          obtain ⟨us, hx, rfl⟩ := hx
          obtain ⟨vs, hy, rfl⟩ := hy
          split at h
          · rename_i hi
            obtain ⟨i, hi⟩ := Option.isSome_iff_exists.1 hi
            rw [run_equalIn_array E.w d' _ _ hu hi]
            exact ih.2.2 _ _ _ _ _ _ _ _ hx hy h d' (by omega)
          · cases h
        · cases h
      · cases h
    · intro xs ys us vs fs r hx hy h d' hd
      obtain ⟨d', rfl⟩ : ∃ k, d' = k + 1 := ⟨d' - 1, by omega⟩
      cases fs with
      | nil => simp only [evalEqs] at h; injection h with h; subst h; simp [Op.eqFields]
      | cons f fs =>
        unfold evalEqs at h
        simp only [Op.eqFields]
        split at h
        · rename_i hf
          rw [if_pos hf]
          split at h
          · rename_i a b ha hb
            obtain ⟨u, hu, hru⟩ := xph hx ha
            obtain ⟨v, hv, hrv⟩ := xph hy hb
            split at h
            · rename_i p q hp hq
              injection h with h
              subst h
              have e1 := ih.1 _ _ _ _ _ _ hru hrv hp (d' + 1) (by omega)
              have e2 := ih.2.1 _ _ _ _ _ _ hx hy hq (d' + 1) (by omega)
              simp only [Sem.run_bind, hu, hv, Result.andThen_ok, e1]
              cases p
              · simp
              · simpa using e2
            · cases h
          · cases h
        · rename_i hf
          rw [if_neg hf]
          exact ih.2.1 _ _ _ _ _ _ hx hy h (d' + 1) (by omega)
    · intro e c xs ys us vs is r hx hy h d' hd
      obtain ⟨d', rfl⟩ : ∃ k, d' = k + 1 := ⟨d' - 1, by omega⟩
      cases is with
      | nil => simp only [evalIts] at h; injection h with h; subst h; simp [Op.eqItems]
      | cons i is =>
        unfold evalIts at h
        simp only [Op.eqItems]
        split at h
        · rename_i a b ha hb
          obtain ⟨u, hu, hru⟩ := xph hx ha
          obtain ⟨v, hv, hrv⟩ := xph hy hb
          split at h
          · rename_i p q hp hq
            injection h with h
            subst h
            have e1 := ih.1 _ _ _ _ _ _ hru hrv hp (d' + 1) (by omega)
            have e2 := ih.2.2 _ _ _ _ _ _ _ _ hx hy hq (d' + 1) (by omega)
            simp only [Sem.run_bind, hu, hv, Result.andThen_ok, e1]
            cases p
            · simp
            · simpa using e2
          · cases h
        · cases h
def x0b (P : Program) (op : BinOp) (T : TypeId) (x y : AV) : Option AV :=
  match x, y with
  | .val (.int k a), .val (.int k' b) =>
    if op = .shl ∨ op = .shr then xhu op k a b else if k = k' then xud op k a b else none
  | .val (.string a), .val (.string b) => x0l op a b
  | .val (.bool a), .val (.bool b) =>
    match op with
    | .eql => (evalEq P 1 T (.val (.bool a)) (.val (.bool b))).map fun r => .val (.bool r)
    | .neq => (evalEq P 1 T (.val (.bool a)) (.val (.bool b))).map fun r => .val (.bool !r)
    | _ => none
  | .agg xs, .agg ys =>
    if P.eqGuardType P.depth T = true then none else
    match op with
    | .eql => (evalEq P 40 T (.agg xs) (.agg ys)).map fun r => .val (.bool r)
    | .neq => (evalEq P 40 T (.agg xs) (.agg ys)).map fun r => .val (.bool !r)
    | _ => none
  | .ifc _ _, .val .nilIface =>
    match P.underlying T with
    | some (.interface _) => match op with
      | .eql => some (.val (.bool false))
      | .neq => some (.val (.bool true))
      | _ => none
    | _ => none
  | .val .nilIface, .val .nilIface =>
    match P.underlying T with
    | some (.interface _) => match op with
      | .eql => some (.val (.bool true))
      | .neq => some (.val (.bool false))
      | _ => none
    | _ => none
  | _, _ => none
end Go.Proofs.YtefdlpandfhcgaaGreatDoor.AL

