/- A law of the given program is proved: part 7 of 50. -/
import Derived.Laws.Tables
import Derived.Test.YtefdlpandfhcgaaGreatDoorA6
set_option linter.all false
/- AL, part 6: struct, array and slice literals. -/
set_option linter.unusedSimpArgs false
namespace Go.Proofs.YtefdlpandfhcgaaGreatDoor.AL
open Go.RowKit
def splice {α : Type} (cs : List α) (off : Nat) (vs : List α) : List α := cs.take off ++ vs ++ cs.drop (off + vs.length)
theorem VReps.splice {E : Env} {cs : List AV} {us : List Value} {off : Nat} {vs : List AV} {ws : List Value} (h : VReps E cs us) (k : VReps E vs ws) : VReps E (AL.splice cs off vs) (AL.splice us off ws) := by
  unfold AL.splice
  rw [k.length]
  exact ((h.take off).append k).append (h.drop _)
theorem xoj {α : Type} (cs : List α) (off : Nat) (vs : List α) (h : off + vs.length ≤ cs.length) : (splice cs off vs).length = cs.length := by
  unfold splice
  simp
  omega
theorem x9t (vs : List Value) : ∀ (k off : Nat) (cs : Array Value), off + k + vs.length ≤ cs.size →
    ((vs.zipIdx k).foldl (fun (cs : Array Value) (p : Value × Nat) => cs.setIfInBounds (off + p.2) p.1) cs).toList = splice cs.toList (off + k) vs := by
  induction vs with
  | nil => intro k off cs _; simp [splice]
  | cons v vs ih =>
    intro k off cs h
    simp only [List.zipIdx_cons, List.foldl_cons]
    rw [ih (k + 1) off _ (by simp at h ⊢; omega)]
    simp only [splice, Array.toList_setIfInBounds, List.length_cons, List.length_set]
    apply List.ext_getElem?
    intro i
    simp at h
    simp only [List.getElem?_append, List.getElem?_take, List.getElem?_drop, List.getElem?_set, List.length_append, List.length_take, List.length_cons, List.length_set, Array.length_toList, List.getElem?_cons]
    rcases Nat.lt_trichotomy i (off + k) with hi | hi | hi
    · rw [if_pos (by omega), if_pos (by omega), if_pos (by omega), if_neg (by omega), if_pos (by omega), if_pos (by omega), if_pos (by omega)]
    · subst hi
      rw [if_pos (by omega), if_pos (by omega), if_pos (by omega), if_pos rfl, if_pos (by omega), if_pos (by omega), if_neg (by omega), if_pos (by omega)]
    · by_cases h2 : i < off + k + 1 + vs.length
      · rw [if_pos (by omega), if_neg (by omega), if_pos (by omega), if_neg (by omega), if_neg (by omega)]
        congr 1; omega
      · rw [if_neg (by omega), if_neg (by omega), if_neg (by omega)]
        congr 1; omega
def fillA (place : Nat → Option (Nat × Nat)) (cells : List AV) : List (Nat × AV) → Option (List AV)
  | [] => some cells
  | (i, v) :: rest =>
    match place i with
    | none => none
    | some (off, size) => if xi v size = true ∧ off + size ≤ cells.length then fillA place (splice cells off v.cells) rest else none
def PReps (E : Env) : List (Nat × AV) → List (Nat × Value) → Prop
  | [], ps => ps = []
  | (i, x) :: xs, ps => ∃ u ps', VRep E x u ∧ PReps E xs ps' ∧ ps = (i, u) :: ps'
theorem xpq {E : Env} {place : Nat → Option (Nat × Nat)} : ∀ {parts : List (Nat × AV)} {ps : List (Nat × Value)} {cells : List AV} {us : Array Value} {out : List AV},
    PReps E parts ps → VReps E cells us.toList → fillA place cells parts = some out → ∃ vs, Instr.fill place us ps = some vs ∧ VReps E out vs.toList
  | [], ps, cells, us, out, hp, hu, h => by
    simp only [PReps] at hp
    subst hp
    simp only [fillA] at h
    injection h with h
    subst h
    exact ⟨us, rfl, hu⟩
  | (i, x) :: xs, ps, cells, us, out, hp, hu, h => by
    simp only [PReps] at hp
    obtain ⟨u, ps', hr, hps, rfl⟩ := hp
    simp only [fillA] at h
    split at h
    · cases h
    · rename_i off size hpl
      split at h
      · rename_i hc
        obtain ⟨s1, s2, s3⟩ := hr.sized hc.1
        have hl := hu.length
        simp at hl
        have hfit : off + u.cells.toList.length ≤ us.size := by simp; omega
        have e := x9t u.cells.toList 0 off us (by simpa using hfit)
        have hnew : VReps E (splice cells off x.cells) ((u.cells.zipIdx.foldl (fun cs (p : Value × Nat) => cs.setIfInBounds (off + p.2) p.1) us)).toList := by
          rw [← Array.foldl_toList, Array.toList_zipIdx, e]
          exact hu.splice s3
        obtain ⟨vs, h1, h2⟩ := xpq hps hnew h
        refine ⟨vs, ?_, h2⟩
        simp only [Instr.fill, hpl]
        rw [if_neg (by simp; omega)]
        exact h1
      · cases h
inductive Lay where
  | str (places : List (Nat × Nat))
  | arr (sz : Nat)
def Lay.place : Lay → Nat → Option (Nat × Nat)
  | .str ps, i => ps[i]?
  | .arr s, i => some (i * s, s)
def layOf (P : Program) (T : TypeId) : Option (List AV × Lay) :=
  match P.info? T, P.underlying T with
  | some it, some (.array _ e) =>
    match it.zero, P.info? e with
    | some z, some ie => some (z.cells.toList.map AV.val, .arr ie.size)
    | _, _ => none
  | some it, some (.struct fields) =>
    match it.zero, fields.toList.mapM (fun f => (P.info? f.type).map fun i => (f.offset, i.size)) with
    | some z, some places => some (z.cells.toList.map AV.val, .str places)
    | _, _ => none
  | _, _ => none
def xwb (P : Program) (T : TypeId) (parts : List (Nat × AV)) : Option AV :=
  match layOf P T with
  | some (z, lay) => (fillA lay.place z parts).map .agg
  | none => none
theorem xsr {P : Program} {E : Env} {T : Nat} {parts : List (Nat × AV)} {ps : Array (Nat × Value)} {v : AV} (hp : PReps E parts ps.toList) (h : xwb P T parts = some v) :
    ∃ z, (Instr.build T ps).run P E.w = .ok z E.w ∧ VRep E v z := by
  unfold xwb at h
  split at h
  · rename_i z lay hl
    obtain ⟨out, ho, hv⟩ := Option.map_eq_some_iff.1 h
    subst hv
    have key : ∀ zv : Value, z = zv.cells.toList.map AV.val → ∀ pl : Nat → Option (Nat × Nat), pl = lay.place → ∃ cells, Instr.fill pl zv.cells ps.toList = some cells ∧ VReps E out cells.toList := by
      intro zv hz pl hpl
      subst hz; subst hpl
      exact xpq hp (VReps.vals E _) ho
    have fin : ∀ cells, P.built T ps.toList = some cells → VReps E out cells.toList → ∃ z, (Instr.build T ps).run P E.w = .ok z E.w ∧ VRep E (.agg out) z := by
      intro cells hc hv
      refine ⟨_, run_build E.w T ps cells hc, ?_⟩
      simp only [VRep]
      exact ⟨cells.toList, hv, by simp⟩
    unfold layOf at hl
    split at hl
    · rename_i it n e hi hu
      split at hl
      · rename_i zv ie hz hie
        injection hl with hl
        injection hl with hl1 hl2
        obtain ⟨cells, h1, h2⟩ := key zv hl1.symm (fun i => some (i * ie.size, ie.size)) (by subst hl2; rfl)
        exact fin cells (by simp [Program.built, hi, hu, hz, hie, h1]) h2
      · cases hl
    · rename_i it fields hi hu
      split at hl
      · rename_i zv places hz hpl
        injection hl with hl
        injection hl with hl1 hl2
        obtain ⟨cells, h1, h2⟩ := key zv hl1.symm (places.toArray[·]?) (by subst hl2; funext i; simp [Lay.place])
        exact fin cells (by simp only [Program.built, hi, hu, hz, hpl]; exact h1) h2
      · cases hl
    · cases hl
  · cases h
theorem xbd {us : List Value} {s : Nat} (h : ∀ u ∈ us, u.cells.size = s) : (flatV us).length = us.length * s := by
  induction us with
  | nil => simp [flatV]
  | cons u us ih =>
    have h1 := h u (by simp)
    have h2 := ih (fun v hv => h v (by simp [hv]))
    simp only [flatV, List.flatMap_cons, List.length_append, Array.length_toList, List.length_cons] at h2 ⊢
    rw [h1, h2, Nat.add_mul]
    omega
theorem xrf (us vs : List Value) : flatV (us ++ vs) = flatV us ++ flatV vs := by simp [flatV]
theorem xgm {us : List Value} {s : Nat} (h : ∀ u ∈ us, u.cells.size = s) (n : Nat) : (flatV us).take (n * s) = flatV (us.take n) := by
  induction us generalizing n with
  | nil => simp [flatV]
  | cons u us ih =>
    cases n with
    | zero => simp [flatV]
    | succ n =>
      have h1 := h u (by simp)
      have h2 := ih (fun v hv => h v (by simp [hv])) n
      simp only [flatV, List.flatMap_cons, List.take_succ_cons] at h2 ⊢
      have e : (n + 1) * s = u.cells.toList.length + n * s := by simp [h1, Nat.add_mul]; omega
      rw [e, List.take_length_add_append, h2]
theorem xnr {us : List Value} {s : Nat} (h : ∀ u ∈ us, u.cells.size = s) (n : Nat) : (flatV us).drop (n * s) = flatV (us.drop n) := by
  induction us generalizing n with
  | nil => simp [flatV]
  | cons u us ih =>
    cases n with
    | zero => simp [flatV]
    | succ n =>
      have h1 := h u (by simp)
      have h2 := ih (fun v hv => h v (by simp [hv])) n
      simp only [flatV, List.flatMap_cons, List.drop_succ_cons] at h2 ⊢
      have e : (n + 1) * s = u.cells.toList.length + n * s := by simp [h1, Nat.add_mul]; omega
      rw [e, List.drop_length_add_append, h2]
theorem x42 {us : List Value} {s : Nat} (h : ∀ u ∈ us, u.cells.size = s) {v : Value} (hv : v.cells.size = s) {i : Nat} (hi : i < us.length) :
    splice (flatV us) (i * s) v.cells.toList = flatV (us.set i v) := by
  unfold splice
  rw [xgm h, show i * s + v.cells.toList.length = (i + 1) * s by simp [hv, Nat.add_mul], xnr h, List.set_eq_take_append_cons_drop, if_pos hi, xrf]
  simp [flatV]
def setsA (size : Nat) (xs : List AV) : List (Nat × AV) → Option (List AV)
  | [] => some xs
  | (i, v) :: rest => if xi v size = true ∧ i < xs.length then setsA size (xs.set i v) rest else none
def Sized (s : Nat) (us : List Value) : Prop := ∀ u ∈ us, u.cells.size = s ∧ ∀ v ∈ u.cells.toList, v.oneCell' = true
theorem Sized.set {s : Nat} {us : List Value} (h : Sized s us) {v : Value} (hv : v.cells.size = s ∧ ∀ x ∈ v.cells.toList, x.oneCell' = true) (i : Nat) : Sized s (us.set i v) := by
  intro u hu
  rcases List.mem_or_eq_of_mem_set hu with h1 | h1
  · exact h u h1
  · subst h1; exact hv
theorem xkq {E : Env} {size : Nat} : ∀ {parts : List (Nat × AV)} {ps : List (Nat × Value)} {xs : List AV} {us : List Value} {cells : Array Value} {out : List AV},
    PReps E parts ps → VReps E xs us → Sized size us → cells.toList = flatV us → setsA size xs parts = some out →
    ∃ vs us', Instr.fill (fun i => some (i * size, size)) cells ps = some vs ∧ VReps E out us' ∧ Sized size us' ∧ vs.toList = flatV us' ∧ us'.length = us.length
  | [], ps, xs, us, cells, out, hp, hu, hs, hc, h => by
    simp only [PReps] at hp
    subst hp
    simp only [setsA] at h
    injection h with h
    subst h
    exact ⟨cells, us, rfl, hu, hs, hc, rfl⟩
  | (i, x) :: rest, ps, xs, us, cells, out, hp, hu, hs, hc, h => by
    simp only [PReps] at hp
    obtain ⟨u, ps', hr, hps, rfl⟩ := hp
    simp only [setsA] at h
    split at h
    · rename_i hh
      obtain ⟨s1, s2, s3⟩ := hr.sized hh.1
      have hl := hu.length
      have hi : i < us.length := by omega
      have hfl : cells.size = us.length * size := by rw [← Array.length_toList, hc, xbd (fun u hu => (hs u hu).1)]
      have hm : i * size + size ≤ us.length * size := by
        have : (i + 1) * size ≤ us.length * size := Nat.mul_le_mul_right _ hi
        rw [Nat.add_mul] at this
        omega
      have e := x9t u.cells.toList 0 (i * size) cells (by simp [s1]; omega)
      have hnew : (u.cells.zipIdx.foldl (fun cs (p : Value × Nat) => cs.setIfInBounds (i * size + p.2) p.1) cells).toList = flatV (us.set i u) := by
        rw [← Array.foldl_toList, Array.toList_zipIdx, e, hc]
        exact x42 (fun u hu => (hs u hu).1) s1 hi
      obtain ⟨vs, us', h1, h2, h3, h4, h5⟩ := xkq hps (hu.set i hr) (hs.set ⟨s1, s2⟩ i) hnew h
      refine ⟨vs, us', ?_, h2, h3, h4, by simpa using h5⟩
      simp only [Instr.fill]
      rw [if_neg (by simp; omega)]
      exact h1
    · cases h
theorem xbs (z : Array Value) (n : Nat) : ((Array.range (n * z.size)).map (fun i => z[i % z.size]!)).toList = (List.replicate n z.toList).flatten := by
  induction n with
  | zero => simp
  | succ n ih =>
    rw [List.replicate_succ, List.flatten_cons, ← ih]
    simp only [Array.toList_map, Array.toList_range]
    rw [show (n + 1) * z.size = z.size + n * z.size by rw [Nat.add_mul]; omega, List.range_add, List.map_append, List.map_map]
    congr 1
    · apply List.ext_getElem?
      intro i
      by_cases hi : i < z.size
      · simp [hi, Nat.mod_eq_of_lt hi]
      · simp [hi]
    · apply List.map_congr_left
      intro i _
      simp
end Go.Proofs.YtefdlpandfhcgaaGreatDoor.AL

