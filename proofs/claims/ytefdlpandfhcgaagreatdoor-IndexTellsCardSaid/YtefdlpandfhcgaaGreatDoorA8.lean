/- A law of the given program is proved: part 8 of 50. -/
import Derived.Laws.MakeOwn
import Derived.Test.YtefdlpandfhcgaaGreatDoorA7
set_option linter.all false
/- AL, part 7: loads, stores, new variables and rows. -/
set_option linter.unusedSimpArgs false
namespace Go.Proofs.YtefdlpandfhcgaaGreatDoor.AL
open Go.RowKit
theorem x7f {us : List Value} {s : Nat} (h : ∀ u ∈ us, u.cells.size = s) {i : Nat} {u : Value} (hi : us[i]? = some u) (j : Nat) (v : Value) (hj : u.cells[j]? = some v) : (flatV us)[i * s + j]? = some v := by
  have e := xnr h i
  obtain ⟨hlt, rfl⟩ := List.getElem?_eq_some_iff.1 hi
  rw [List.drop_eq_getElem_cons hlt] at e
  have : (flatV us)[i * s + j]? = ((flatV us).drop (i * s))[j]? := by simp
  rw [this, e]
  simp only [flatV, List.flatMap_cons]
  have hjl : j < us[i].cells.size := (Array.getElem?_eq_some_iff.1 hj).1
  rw [List.getElem?_append_left (by simpa using hjl)]
  simpa using hj
theorem ORep.cells {E : Env} {b c T s : Nat} {xs : List AV} (h : ORep E (some (b, c)) (.row T s xs)) {i : Nat} {x : AV} (hi : xs[i]? = some x) :
    ∃ u, VRep E x u ∧ u.cells.size = s ∧ (∀ v ∈ u.cells.toList, v.oneCell' = true) ∧ xnf E.w b (i * s) u.cells := by
  simp only [ORep] at h
  obtain ⟨cur, us, h1, h2, h3, h4, h5, h6, h7⟩ := h
  obtain ⟨u, hu, hr⟩ := h2.get i x hi
  have hm := h3 u (List.mem_of_getElem? hu)
  refine ⟨u, hr, hm.1, hm.2, fun j v hj => ?_⟩
  rw [cell_of_row E.w b _ cur T (0, 0) h1]
  have e := x7f (fun u hu => (h3 u hu).1) hu j v hj
  rw [← h7, List.getElem?_take] at e
  split at e
  · simpa using e
  · cases e
theorem xwq {P : Program} {w : World} {b o n T : Nat} {cs : Array Value} (hT : aggN P T = some (true, n)) (hc : xnf w b o cs) (off : Nat) (hfit : off + n ≤ cs.size) :
    (Instr.loadAt T (.pointer (some ⟨b, o + off, none⟩))).run P w = .ok (.agg (cs.extract off (off + n))) w := by
  obtain ⟨h1, h2, _⟩ := xlc hT w
  have hl : (cs.extract off (off + n)).toList.length = n := by simp; omega
  have := run_loadCells_list (P := P) w ⟨b, o + off, none⟩ (cs.extract off (off + n)).toList (fun j v hj => by
    rw [xuc, Nat.add_assoc]
    refine hc _ _ ?_
    have hj' : j < n := by
      have := (List.getElem?_eq_some_iff.1 hj).1
      omega
    simp only [Array.getElem?_toList] at hj
    rw [Array.getElem?_extract_of_lt (by omega)] at hj
    rw [Array.getElem?_eq_getElem (by omega)]
    exact hj)
  rw [hl] at this
  simp only [Instr.loadAt, Instr.sureAddr, loadVar, Sem.run_bind, Sem.run_pure, Result.andThen_ok, h1, if_true, h2, this]
theorem xeq {P : Program} {w : World} {b o n T : Nat} {cs : Array Value} (hT : aggN P T = some (false, n)) (hc : xnf w b o cs) (off : Nat) {v : Value} (hv : cs[off]? = some v) :
    (Instr.loadAt T (.pointer (some ⟨b, o + off, none⟩))).run P w = .ok v w := by
  obtain ⟨h1, h2, _⟩ := xlc hT w
  have := hc _ _ hv
  simp [Instr.loadAt, Instr.sureAddr, loadVar, h1, this]
def ldAgg (x : AV) (off n : Nat) : Option AV :=
  match x with
  | .agg cs => if off = 0 ∧ cs.length = n then some (.agg cs) else if off + n ≤ cs.length then some (.agg ((cs.drop off).take n)) else none
  | _ => none
def ldOne (x : AV) (off : Nat) : Option AV :=
  match x with
  | .agg cs => cs[off]?
  | x => if off = 0 ∧ x.one = true then some x else none
def evalLd (P : Program) (T : TypeId) (x : AV) (off : Nat) : Option AV :=
  match aggN P T with
  | some (true, n) => ldAgg x off n
  | some (false, _) => ldOne x off
  | none => none
theorem xbo {P : Program} {E : Env} {T b o off : Nat} {x r : AV} {u : Value} (hx : VRep E x u) (hc : xnf E.w b o u.cells) (h : evalLd P T x off = some r) :
    ∃ z, (Instr.loadAt T (.pointer (some ⟨b, o + off, none⟩))).run P E.w = .ok z E.w ∧ VRep E r z := by
  unfold evalLd at h
  split at h
  · rename_i n hT
    unfold ldAgg at h
    split at h
    · rename_i cs
      simp only [VRep] at hx
      obtain ⟨us, hus, rfl⟩ := hx
      have hl := hus.length
      split at h
      · rename_i hh
        injection h with h
        subst h
        obtain ⟨rfl, hn⟩ := hh
        refine ⟨_, xwq hT hc 0 (by simp [Value.cells]; omega), ?_⟩
        simp only [VRep]
        refine ⟨us, hus, ?_⟩
        congr 1
        apply Array.ext'
        simp only [Value.cells, Nat.zero_add, Array.toList_extract, List.extract_eq_take_drop, List.drop_zero, Nat.sub_zero]
        exact List.take_of_length_le (by omega)
      · split at h
        · rename_i hh
          injection h with h
          subst h
          refine ⟨_, xwq hT hc off (by simp [Value.cells]; omega), ?_⟩
          simp only [VRep]
          refine ⟨(us.drop off).take n, (hus.drop off).take n, ?_⟩
          congr 1
          apply Array.ext'
          simp [Value.cells, List.extract_eq_take_drop]
        · cases h
    · cases h
  · rename_i n hT
    unfold ldOne at h
    split at h
    · rename_i cs
      simp only [VRep] at hx
      obtain ⟨us, hus, rfl⟩ := hx
      obtain ⟨z, hz, hr⟩ := hus.get _ _ h
      exact ⟨z, xeq hT hc off (by simpa [Value.cells] using hz), hr⟩
    · split at h
      · rename_i hh
        injection h with h
        subst h
        obtain ⟨rfl, ho⟩ := hh
        obtain ⟨_, h2, _⟩ := hx.one_cells ho
        exact ⟨u, xeq hT hc 0 (by simp [h2]), hx⟩
      · cases h
  · cases h
def xpd (P : Program) (T : TypeId) (V : Nat → Option AO) (x : AV) : Option AV :=
  match x with
  | .loc l sz i off => match V l with
    | some (.row _ sz' xs) => if sz = sz' then match xs[i]? with
      | some y => evalLd P T y off
      | none => none
      else none
    | _ => none
  | .ptr y off => evalLd P T y off
  | _ => none
def SubH (V H : Nat → Option AO) : Prop := ∀ l o, V l = some o → H l = some o
theorem HR.live {C : Ctx} {E : Env} {H : Nat → Option AO} (h : HR C E H) {l : Nat} {o : AO} (hl : H l = some o) : ∃ p, E.L l = some p ∧ ORep E p o := by
  have := h.dom l
  rw [hl] at this
  cases hL : E.L l with
  | none => simp [hL] at this
  | some p => exact ⟨p, rfl, h.obj l o p hl hL⟩
theorem x3i {P : Program} {C : Ctx} {E : Env} {H V : Nat → Option AO} (hR : HR C E H) (hV : SubH V H) {T : TypeId} {x r : AV} {u : Value} (hx : VRep E x u) (h : xpd P T V x = some r) :
    ∃ z, (Instr.loadAt T u).run P E.w = .ok z E.w ∧ VRep E r z := by
  unfold xpd at h
  split at h
  · rename_i l sz i off
    split at h
    · rename_i T' sz' xs hl
      split at h
      · rename_i e
        subst e
        split at h
        · rename_i y hy
          obtain ⟨p, hp, ho⟩ := hR.live (hV _ _ hl)
          cases p with
          | none => simp only [ORep] at ho; subst ho; simp at hy
          | some q =>
            obtain ⟨b, c⟩ := q
            obtain ⟨v, h1, h2, h3, h4⟩ := ho.cells hy
            simp only [VRep] at hx
            obtain ⟨b0, hk, rfl, hb⟩ := hx
            obtain rfl := hb b c hp
            exact xbo h1 h4 h
        · cases h
      · cases h
    · cases h
  · rename_i y off
    simp only [VRep] at hx
    obtain ⟨v, b, o, h1, rfl, _, h2⟩ := hx
    exact xbo h1 h2 h
  · cases h
theorem ORep.new {E : Env} {new c T s : Nat} {xs : List AV} {us : List Value} {cur : Array Value} {E' : Env} (hE : E' = E.alloc (.cells cur T) new c) (s' : Stab E E')
    (h : VReps E xs us) (hs : Sized s us) (hc : xs.length ≤ c) (hm : c ≤ maxLen) (hsz : cur.size = c * s) (ht : cur.toList.take (xs.length * s) = flatV us) :
    ORep E' (some (E.w.heap.size, c)) (.row T s xs) := by
  subst hE
  simp only [ORep]
  exact ⟨cur, us, heap_alloc_new _ _, h.stab s', hs, hc, hm, hsz, ht⟩
abbrev Upds := List (Nat × Option AO)
def applyU (H : Nat → Option AO) : Upds → Nat → Option AO
  | [] => H
  | (l, o) :: us => applyU (upd H l o) us
def OpOut (P : Program) (o : Oper) (ρ : Operand → Value) (C : Ctx) (E : Env) (H : Nat → Option AO) (new : Nat) (v : AV) (us : Upds) : Prop :=
  ∃ u E', ((execOp ρ o).run P E.w = .ok (.value u) E'.w ∨ ((execOp ρ o).run P E.w = .ok .skip E'.w ∧ u = undef)) ∧ VRep E' v u ∧ HR C E' (applyU H us) ∧ Stab E E' ∧ (∀ l, E'.K l → E.K l ∨ l = new)
theorem OpOut.pure {P : Program} {o : Oper} {ρ : Operand → Value} {C : Ctx} {E : Env} {H : Nat → Option AO} {new : Nat} {v : AV} (hR : HR C E H) (h : ∃ u, (execOp ρ o).run P E.w = .ok (.value u) E.w ∧ VRep E v u) : OpOut P o ρ C E H new v [] := by
  obtain ⟨u, h1, h2⟩ := h
  exact ⟨u, E, .inl h1, h2, hR, Stab.refl E, fun l k => .inl k⟩
theorem OpOut.row {P : Program} {o : Oper} {ρ : Operand → Value} {C : Ctx} {E : Env} {H : Nat → Option AO} {new : Nat} {v : AV} (hR : HR C E H) (hn : ¬ E.K new) {c T s : Nat} {xs : List AV} {us : List Value} {cur : Array Value} {u : Value}
    (hrun : (execOp ρ o).run P E.w = .ok (.value u) (E.w.alloc (.cells cur T)))
    (h : VReps E xs us) (hs : Sized s us) (hc : xs.length ≤ c) (hm : c ≤ maxLen) (hsz : cur.size = c * s) (ht : cur.toList.take (xs.length * s) = flatV us)
    (hv : VRep (E.alloc (.cells cur T) new c) v u) : OpOut P o ρ C E H new v [(new, some (.row T s xs))] := by
  have s' := Env.alloc_stab hR hn (.cells cur T) c
  exact ⟨u, E.alloc (.cells cur T) new c, .inl hrun, hv, hR.alloc hn _ c _ (ORep.new rfl s' h hs hc hm hsz ht), s', fun l k => k⟩
theorem VRep.newLoc {E : Env} {new c n : Nat} {obj : Obj} : VRep (E.alloc obj new c) (.loc new n 0 0) (.pointer (some ⟨E.w.heap.size, 0, none⟩)) := by
  simp only [VRep]
  refine ⟨E.w.heap.size, .inr rfl, by simp, fun b c' hb => ?_⟩
  simp only [Env.alloc, upd_same] at hb
  injection hb with hb
  injection hb with hb
  injection hb
theorem VRep.newMsl {E : Env} {new c n : Nat} {obj : Obj} (hnc : n ≤ c) : VRep (E.alloc obj new c) (.msl new n) (.slice (some ⟨E.w.heap.size, 0, none⟩) n c) := by
  simp only [VRep]
  refine ⟨_, c, .inr rfl, rfl, fun _ => ⟨_, rfl⟩, hnc, fun b c' hb => ?_, fun hb => ?_⟩
  · simp only [Env.alloc, upd_same] at hb
    injection hb with hb
    injection hb with hb
    injection hb with h1 h2
    subst h1; subst h2
    exact ⟨rfl, rfl⟩
  · simp only [Env.alloc, upd_same] at hb
    injection hb with hb
    cases hb
theorem xvf {P : Program} {T : TypeId} {z : AV} (h : zeroOf P T = some z) : ∃ i zv, P.info? T = some i ∧ i.zero = some zv ∧ z = xrg zv := by
  unfold zeroOf at h
  obtain ⟨zv, h1, h2⟩ := Option.map_eq_some_iff.1 h
  cases hi : P.info? T with
  | none => simp [hi] at h1
  | some i => exact ⟨i, zv, rfl, by simpa [hi] using h1, h2.symm⟩
def xcj (P : Program) (T new : Nat) : Option (AV × Upds) :=
  match aggN P T, zeroOf P T with
  | some (_, n), some z => if xi z n = true then some (.loc new n 0 0, [(new, some (.row T n [z]))]) else none
  | _, _ => none
theorem xur : 1 ≤ maxLen := by decide
theorem x8r {P : Program} {C : Ctx} {E : Env} {H : Nat → Option AO} (hR : HR C E H) {o : Oper} {ρ : Operand → Value} {new T : Nat} (hn : ¬ E.K new) (ho : o.op = .alloc T) {v : AV} {us : Upds} (h : xcj P T new = some (v, us)) : OpOut P o ρ C E H new v us := by
  unfold xcj at h
  split at h
  · rename_i g n z hT hz
    split at h
    · rename_i hs
      injection h with h
      injection h with h1 h2
      subst h1; subst h2
      obtain ⟨i, zv, hi, hzv, rfl⟩ := xvf hz
      have hr := VRep.ofConst E zv
      obtain ⟨s1, s2, s3⟩ := hr.sized hs
      refine OpOut.row hR hn (us := [zv]) (cur := zv.cells) (c := 1) (u := .pointer (some ⟨E.w.heap.size, 0, none⟩)) ?_ (.cons hr .nil) ?_ (by simp) xur (by simp [s1]) (by simp only [flatV, List.flatMap_cons, List.flatMap_nil, List.append_nil]; exact List.take_of_length_le (by simp [s1])) VRep.newLoc
      · simp [execOp, ho, Instr.alloc, zeroValue, typeInfo, hi, hzv, newVar, newRow]
      · intro u hu
        simp at hu
        subst hu
        exact ⟨s1, s2⟩
    · cases h
  · cases h
def xdm (P : Program) (T : TypeId) (x : AV) (new : Nat) : Option (AV × Upds) :=
  match aggN P T with
  | some (_, n) => if xi x n = true then some (.loc new n 0 0, [(new, some (.row T n [x]))]) else none
  | none => none
theorem xcv {P : Program} {C : Ctx} {E : Env} {H : Nat → Option AO} (hR : HR C E H) {o : Oper} {ρ : Operand → Value} {new T : Nat} {x : Operand} {xa : AV} (hn : ¬ E.K new) (ho : o.op = .box T x) (hx : VRep E xa (ρ x)) {v : AV} {us : Upds} (h : xdm P T xa new = some (v, us)) : OpOut P o ρ C E H new v us := by
  unfold xdm at h
  split at h
  · rename_i g n hT
    split at h
    · rename_i hs
      injection h with h
      injection h with h1 h2
      subst h1; subst h2
      obtain ⟨s1, s2, s3⟩ := hx.sized hs
      refine OpOut.row hR hn (us := [ρ x]) (cur := (ρ x).cells) (c := 1) (u := .pointer (some ⟨E.w.heap.size, 0, none⟩)) ?_ (.cons hx .nil) ?_ (by simp) xur (by simp [s1]) (by simp only [flatV, List.flatMap_cons, List.flatMap_nil, List.append_nil]; exact List.take_of_length_le (by simp [s1])) VRep.newLoc
      · simp [execOp, ho, Instr.box, newVar, newRow]
      · intro u hu
        simp at hu
        subst hu
        exact ⟨s1, s2⟩
    · cases h
  · cases h
def xif (P : Program) (T len : Nat) (parts : List (Nat × AV)) (new : Nat) : Option (AV × Upds) :=
  match xfb P T with
  | some e => match aggN P e, zeroOf P e with
    | some (_, n), some z => if xi z n = true ∧ len * n ≤ 16777216 ∧ 0 < n then (setsA n (List.replicate len z) parts).map fun xs => (.msl new len, [(new, some (.row e n xs))]) else none
    | _, _ => none
  | none => none
theorem xqm {P : Program} {C : Ctx} {E : Env} {H : Nat → Option AO} (hR : HR C E H) {o : Oper} {ρ : Operand → Value} {new T len : Nat} {parts : Array (Nat × Operand)} {pa : List (Nat × AV)} (hn : ¬ E.K new) (ho : o.op = .buildSlice T len parts)
    (hp : PReps E pa (parts.map fun (i, x) => (i, ρ x)).toList) {v : AV} {us : Upds} (h : xif P T len pa new = some (v, us)) : OpOut P o ρ C E H new v us := by
  unfold xif at h
  split at h
  · rename_i e he
    have hu := xzc he
    split at h
    · rename_i g n z hT hz
      split at h
      · rename_i hs
        obtain ⟨hs, hlim, hn0⟩ := hs
        obtain ⟨xs, hxs, hv⟩ := Option.map_eq_some_iff.1 h
        injection hv with h1 h2
        subst h1; subst h2
        obtain ⟨i, zv, hi, hzv, rfl⟩ := xvf hz
        have hr := VRep.ofConst E zv
        obtain ⟨s1, s2, s3⟩ := hr.sized hs
        obtain ⟨_, hsz, i', hi', hin⟩ := xlc hT E.w
        have hrep : Sized n (List.replicate len zv) := by
          intro u hu
          obtain rfl := List.eq_of_mem_replicate hu
          exact ⟨s1, s2⟩
        have hz0 : ∀ k, (List.replicate k zv.cells.toList).flatten = flatV (List.replicate k zv) := by
          intro k
          induction k with
          | zero => rfl
          | succ k ih => rw [List.replicate_succ, List.replicate_succ, List.flatten_cons, ih]; simp [flatV]
        have hcells : ((Array.range (len * n)).map (fun i => zv.cells[i % zv.cells.size]!)).toList = flatV (List.replicate len zv) := by
          rw [← s1, xbs, hz0]
        obtain ⟨vs, us', f1, f2, f3, f4, f5⟩ := xkq hp (VReps.replicate len hr) hrep hcells hxs
        have hl := f2.length
        simp only [List.length_replicate] at f5
        have hlen : xs.length = len := by omega
        have hlm : len ≤ maxLen := by
          have h1 : len * 1 ≤ len * n := Nat.mul_le_mul_left _ hn0
          have : (16777216 : Nat) ≤ maxLen := by decide
          omega
        refine OpOut.row hR hn (us := us') (cur := vs) (c := len) (u := .slice (some ⟨E.w.heap.size, 0, none⟩) len len) ?_ f2 f3 (by omega) hlm ?_ ?_ (VRep.newMsl (Nat.le_refl _))
        · by_cases h0 : len * n = 0
          · have hl0 : len = 0 := by
              rcases Nat.mul_eq_zero.1 h0 with h | h <;> omega
            subst hl0
            have e1 : (fun i : Nat => zv.cells[i % zv.cells.size]!) = (fun i : Nat => zv.cells[i % zv.cells.size]!) := rfl
            simp [Array.range_zero'] at f1
            simp [execOp, ho, Instr.buildSlice, run_underlying hu, hsz, Array.range_zero', f1, newRow]
          · have hlim' : ¬ 16777216 < len * n := by omega
            simp only [Array.toList_map] at f1
            simp [execOp, ho, Instr.buildSlice, run_underlying hu, hsz, hlim', h0, zeroValue, typeInfo, hi, hzv, f1, newRow]
        · rw [← Array.length_toList, f4, xbd (fun u hu => (f3 u hu).1), f5]
        · rw [f4, hlen, ← f5, ← xbd (fun u hu => (f3 u hu).1)]
          exact List.take_length
      · cases h
    · cases h
  · cases h
end Go.Proofs.YtefdlpandfhcgaaGreatDoor.AL

