/- A law of the given program is proved: part 9 of 50. -/
import Derived.Deep.AppendSrc
import Derived.Deep.Upon
import Derived.Test.YtefdlpandfhcgaaGreatDoorA8
set_option linter.all false
/- AL, part 8: stores into objects of the run's own; append. -/
set_option linter.unusedSimpArgs false
namespace Go.Proofs.YtefdlpandfhcgaaGreatDoor.AL
open Go.RowKit
theorem xc1 {α : Type} (A M B ws : List α) (off : Nat) (h : off + ws.length ≤ M.length) : splice (A ++ M ++ B) (A.length + off) ws = A ++ splice M off ws ++ B := by
  unfold splice
  rw [List.append_assoc A M B, List.take_length_add_append, Nat.add_assoc, List.drop_length_add_append, List.take_append_of_le_length (by omega), List.drop_append_of_le_length (by omega)]
  simp
theorem xzy {us : List Value} {i : Nat} {u : Value} (h : us[i]? = some u) : flatV us = flatV (us.take i) ++ u.cells.toList ++ flatV (us.drop (i + 1)) := by
  obtain ⟨hlt, rfl⟩ := List.getElem?_eq_some_iff.1 h
  have e : us = us.take i ++ us[i] :: us.drop (i + 1) := by rw [← List.drop_eq_getElem_cons hlt, List.take_append_drop]
  calc flatV us = flatV (us.take i ++ us[i] :: us.drop (i + 1)) := congrArg flatV e
    _ = flatV (us.take i) ++ flatV (us[i] :: us.drop (i + 1)) := xrf _ _
    _ = _ := by rw [List.append_assoc]; rfl
theorem xwr {us : List Value} {i : Nat} {u v : Value} (h : us[i]? = some u) : flatV (us.set i v) = flatV (us.take i) ++ v.cells.toList ++ flatV (us.drop (i + 1)) := by
  obtain ⟨hlt, rfl⟩ := List.getElem?_eq_some_iff.1 h
  rw [List.set_eq_take_append_cons_drop, if_pos hlt, xrf]
  simp [flatV]
def stAV (x : AV) (off : Nat) (v : AV) : Option AV :=
  match x with
  | .agg cs =>
    match v with
    | .agg vs => if off = 0 ∧ vs.length = cs.length then some (.agg vs) else if off + vs.length ≤ cs.length then some (.agg (splice cs off vs)) else none
    | v => if off + 1 ≤ cs.length then some (.agg (cs.set off v)) else none
  | _ => if off = 0 ∧ v.one = true ∧ x.one = true then some v else none
theorem xzd (cs : Array Value) : (Value.agg cs).cells = cs := rfl
theorem xyr {α : Type} (cs : List α) (off : Nat) (v : α) (h : off + 1 ≤ cs.length) : cs.set off v = splice cs off [v] := by
  rw [List.set_eq_take_append_cons_drop, if_pos (by omega)]
  simp [splice]
theorem x6z {E : Env} {x v r : AV} {off n s : Nat} {u w : Value} (hx : VRep E x u) (hs : u.cells.size = s ∧ ∀ c ∈ u.cells.toList, c.oneCell' = true) (hv : VRep E v w) (hn : xi v n = true) (h : stAV x off v = some r) :
    off + n ≤ s ∧ ∃ u', VRep E r u' ∧ u'.cells.toList = splice u.cells.toList off w.cells.toList ∧ u'.cells.size = s ∧ ∀ c ∈ u'.cells.toList, c.oneCell' = true := by
  obtain ⟨w1, w2, w3⟩ := hv.sized hn
  obtain ⟨g1, g2, g3⟩ := x6m hn
  have one : ∀ (a b : List Value) (off : Nat), (∀ c ∈ a, c.oneCell' = true) → (∀ c ∈ b, c.oneCell' = true) → ∀ c ∈ splice a off b, c.oneCell' = true := by
    intro a b off ha hb c hc
    unfold splice at hc
    simp only [List.mem_append] at hc
    rcases hc with (hc | hc) | hc
    · exact ha c (List.mem_of_mem_take hc)
    · exact hb c hc
    · exact ha c (List.mem_of_mem_drop hc)
  unfold stAV at h
  split at h
  · rename_i cs
    simp only [VRep] at hx
    obtain ⟨us, hus, rfl⟩ := hx
    have hl := hus.length
    have hsz : us.length = s := by simpa [xzd] using hs.1
    split at h
    · rename_i vs
      have hvl : vs.length = n := by simpa [AV.cells] using g2
      split at h
      · rename_i hh
        injection h with h
        subst h
        obtain ⟨rfl, he⟩ := hh
        refine ⟨by omega, w, hv, ?_, by omega, w2⟩
        have hwl : w.cells.toList.length = us.length := by simp; omega
        unfold splice
        rw [List.take_zero, List.nil_append, xzd, List.drop_of_length_le (by simp; omega), List.append_nil]
      · split at h
        · rename_i hh
          injection h with h
          subst h
          have hwl : w.cells.toList.length = n := by simpa using w1
          refine ⟨by omega, .agg (splice us off w.cells.toList).toArray, ?_, by simp only [xzd], ?_, ?_⟩
          · simp only [VRep]
            exact ⟨_, hus.splice (by simpa [AV.cells] using w3), rfl⟩
          · simp only [xzd, List.size_toArray]
            rw [xoj _ _ _ (by omega)]
            exact hsz
          · simp only [xzd]
            exact one _ _ _ (by simpa [xzd] using hs.2) w2
        · cases h
    · rename_i hna
      have hone : v.one = true := by
        rcases g1 with g1 | ⟨vs, rfl⟩
        · exact g1
        · exact absurd rfl (hna vs)
      obtain ⟨_, o2, o3⟩ := hv.one_cells hone
      split at h
      · rename_i hh
        injection h with h
        subst h
        have hn1 : n = 1 := by rw [← w1, o2]; rfl
        refine ⟨by omega, .agg (us.set off w).toArray, ?_, ?_, ?_, ?_⟩
        · simp only [VRep]
          exact ⟨_, hus.set off hv, rfl⟩
        · rw [xzd, xzd, o2]
          exact xyr us off w (by omega)
        · simpa [xzd] using hsz
        · simp only [xzd]
          rw [xyr us off w (by omega)]
          exact one _ _ _ (by simpa [xzd] using hs.2) (by simpa [o2] using w2)
      · cases h
  · split at h
    · rename_i hh
      injection h with h
      subst h
      obtain ⟨rfl, hv1, hx1⟩ := hh
      obtain ⟨_, o2, _⟩ := hv.one_cells hv1
      obtain ⟨_, p2, _⟩ := hx.one_cells hx1
      have hs1 : s = 1 := by rw [← hs.1, p2]; rfl
      have hn1 : n = 1 := by rw [← w1, o2]; rfl
      refine ⟨by omega, w, hv, ?_, by rw [o2]; simp [hs1], w2⟩
      rw [o2, p2]
      rfl
    · cases h
def x6b (P : Program) (T : TypeId) (V : Nat → Option AO) (a v : AV) : Option Upds :=
  match aggN P T with
  | some (_, n) =>
    if xi v n = true then
      match a with
      | .loc l sz i off => match V l with
        | some (.row T' sz' xs) => if sz = sz' then match xs[i]? with
          | some x => (stAV x off v).map fun x' => [(l, some (.row T' sz' (xs.set i x')))]
          | none => none
          else none
        | _ => none
      | _ => none
    else none
  | none => none
theorem xxr {P : Program} {C : Ctx} {E : Env} {H V : Nat → Option AO} (hR : HR C E H) (hV : SubH V H) {o : Oper} {ρ : Operand → Value} {new T : Nat} {oa ov : Operand} {a v : AV} (ho : o.op = .store T oa ov)
    (ha : VRep E a (ρ oa)) (hv : VRep E v (ρ ov)) {us : Upds} (h : x6b P T V a v = some us) : OpOut P o ρ C E H new (.val undef) us := by
  unfold x6b at h
  split at h
  · rename_i g n hT
    split at h
    · rename_i hn
      split at h
      · rename_i l sz i off
        split at h
        · rename_i T' sz' xs hl
          split at h
          · rename_i e
            subst e
            split at h
            · rename_i x hx
              obtain ⟨x', hx', hu⟩ := Option.map_eq_some_iff.1 h
              subst hu
              obtain ⟨p, hp, hob⟩ := hR.live (hV _ _ hl)
              cases p with
              | none => simp only [ORep] at hob; subst hob; simp at hx
              | some q =>
                obtain ⟨b, c⟩ := q
                simp only [VRep] at ha
                obtain ⟨b0, hk, hra, hb⟩ := ha
                obtain rfl := hb b c hp
                have hob' := hob
                simp only [ORep] at hob
                obtain ⟨cur, vs, h1, h2, h3, h4, h5, h6, h7⟩ := hob
                obtain ⟨y, hy, hry⟩ := h2.get i x hx
                have hsy := h3 y (List.mem_of_getElem? hy)
                obtain ⟨w1, w2, w3⟩ := hv.sized hn
                obtain ⟨k1, y', k2, k3, k4, k5⟩ := x6z hry hsy hv hn hx'
                have hsz : ∀ u ∈ vs, u.cells.size = sz := fun u hu => (h3 u hu).1
                have hvl := h2.length
                have hi : i < vs.length := (List.getElem?_eq_some_iff.1 hy).1
                -- the block's cells
                have hcur : cur.toList = flatV (vs.take i) ++ y.cells.toList ++ (flatV (vs.drop (i + 1)) ++ cur.toList.drop (xs.length * sz)) := by
                  rw [← List.append_assoc, ← xzy hy, ← h7, List.take_append_drop]
                have hA : (flatV (vs.take i)).length = i * sz := by
                  rw [xbd (s := sz) (fun u hu => hsz u (List.mem_of_mem_take hu))]
                  rw [List.length_take, Nat.min_eq_left (by omega)]
                have hyl : y.cells.toList.length = sz := by simpa using hsy.1
                have hwl : (ρ ov).cells.toList.length = n := by simpa using w1
                have hspl : splice cur.toList (i * sz + off) (ρ ov).cells.toList = flatV (vs.set i y') ++ cur.toList.drop (xs.length * sz) := by
                  conv => lhs; rw [hcur]
                  rw [← hA, xc1 _ _ _ _ _ (by omega), xwr (v := y') hy, k3]
                  simp
                have hset : Sized sz (vs.set i y') := Sized.set h3 ⟨k4, k5⟩ i
                have hfl : (flatV (vs.set i y')).length = xs.length * sz := by
                  rw [xbd (s := sz) (fun u hu => (hset u hu).1)]
                  simp [hvl]
                have hcl : cur.toList.length = c * sz := by simpa using h6
                have hle : xs.length * sz ≤ c * sz := Nat.mul_le_mul_right _ h4
                have hfit : i * sz + off + (ρ ov).cells.toList.length ≤ cur.size := by
                  have : i * sz + sz ≤ xs.length * sz := by
                    have := Nat.mul_le_mul_right sz (show i + 1 ≤ xs.length by omega)
                    rw [Nat.add_mul] at this
                    omega
                  omega
                have hst := run_storeCells_at P b0 (i * sz + off) T' (ρ ov).cells.toList 0 cur E.w h1 (by omega) w2
                have hOnly : Only E.w (E.w.setRow b0 (splice cur.toList (i * sz + off) (ρ ov).cells.toList).toArray) b0 := Only.setRow _ _ _
                have hstab := Env.only_stab hR hp hOnly
                refine ⟨undef, { E with w := E.w.setRow b0 (splice cur.toList (i * sz + off) (ρ ov).cells.toList).toArray }, .inr ⟨?_, rfl⟩, by simp only [VRep], hR.only hp hOnly _ ?_, hstab, fun l k => .inl k⟩
                · have hsT := (xlc hT E.w).2.1
                  have hst' : (storeCells ⟨b0, i * sz + off, none⟩ (ρ ov).cells.toList 0).run P E.w = .ok () (E.w.setRow b0 (splice cur.toList (i * sz + off) (ρ ov).cells.toList).toArray) := hst
                  clear hst
                  generalize E.w.setRow b0 (splice cur.toList (i * sz + off) (ρ ov).cells.toList).toArray = W at hst'
                  simp [execOp, ho, hra, Instr.storeAt, Instr.sureAddr, storeVar, hsT, w1, hst']
                · simp only [ORep]
                  refine ⟨(splice cur.toList (i * sz + off) (ρ ov).cells.toList).toArray, vs.set i y', ?_, (h2.set i k2).stab hstab, hset, by simpa using h4, h5, ?_, ?_⟩
                  · exact setRow_heap E.w b0 cur _ T' (0, 0) h1
                  · simp only [List.size_toArray]
                    rw [xoj _ _ _ (by simpa using hfit)]
                    exact hcl
                  · simp only [List.length_set]
                    rw [hspl, ← hfl]
                    exact List.take_left
            · cases h
          · cases h
        · cases h
      · cases h
    · cases h
  · cases h
end Go.Proofs.YtefdlpandfhcgaaGreatDoor.AL

