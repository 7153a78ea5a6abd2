/- What of the attributes of any stack, and of any node, may not be, is what the document says: part 38 of 46. -/
import Derived.Test.YtlgikchfddhocaaB37
set_option linter.all false
/- slices.Sort and slices.Compact of strings: rows that are turned in place, by the kit's contracts. -/
set_option linter.all false
namespace Go.Proofs.Ytlgikchfddhocaa.AL
open Go Go.Proofs Go.RowKit Go.Sort
def bl (b : ByteArray) : List UInt8 := b.data.toList
theorem enc_bl (b : ByteArray) : encStr (bl b) = .string b := by
  cases b; simp [encStr, bl]
theorem reps_str {E : Env} : ∀ {bs : List ByteArray} {us : List Value}, VReps E (bs.map str) us → us = bs.map Value.string
  | [], us, h => by simpa only [List.map_nil, VReps] using h
  | b :: bs, us, h => by
    simp only [List.map_cons, VReps, VRep] at h
    obtain ⟨u, us', rfl, h2, rfl⟩ := h
    rw [reps_str h2]; rfl
theorem str_reps (E : Env) : ∀ (bs : List ByteArray), VReps E (bs.map str) (bs.map Value.string)
  | [] => .nil
  | b :: bs => .cons (by simp only [VRep]) (str_reps E bs)
theorem flat_str : ∀ (bs : List ByteArray), flatV (bs.map Value.string) = bs.map Value.string
  | [] => rfl
  | b :: bs => by
    have := flat_str bs
    simp only [flatV] at this
    simp only [flatV, List.map_cons, List.flatMap_cons, this]
    rfl
theorem cls_str (bs : List ByteArray) : closeds (bs.map str) = true := by
  induction bs with
  | nil => rfl
  | cons b bs ih => simp [closeds, closed, ih]
theorem holds_row {w : World} {b T : Nat} {cur : Array Value} {bs : List ByteArray} (h : w.heap[b]? = some (.cells cur T (0, 0))) (ht : cur.toList.take bs.length = bs.map Value.string) : Holds encStr w b 0 (bs.map bl).toArray := by
  intro j hj
  have hj' : j < bs.length := by simpa using hj
  constructor
  · have e : cur.toList[j]? = some (.string bs[j]) := by
      have := congrArg (fun l => l[j]?) ht
      simp only [List.getElem?_take, List.getElem?_map, hj', if_true, List.getElem?_eq_getElem, Option.map_some] at this
      exact this
    show (match w.heap[b]? with | some (.cells c _ _) => (if (none : Option Nat).isSome then none else c[0 + j]?) | _ => none) = _
    rw [h]
    simp only [Option.isSome_none, Bool.false_eq_true, if_false, Nat.zero_add]
    rw [← Array.getElem?_toList, e]
    simp [hj', enc_bl]
  · show (match w.heap[b]? with | some (.cells _ _ (lo, hi)) => (decide (lo ≤ 0 + j) && decide (0 + j < hi)) | _ => false) = false
    rw [h]
    simp
/-- A row of texts is turned in place by what the library does. -/
theorem okI_lib {P : Program} {f : FuncId} {l T : Nat} {bs ys : List ByteArray} (rv : Option Addr → Nat → Value) (r : AV) (hcall : callable P f = true)
    (hr : ∀ E A c, E.K l → ys.length ≤ c → (0 < ys.length → ∃ b0, A = some ⟨b0, 0, none⟩) → (∀ b c', E.L l = some (some (b, c')) → A = some ⟨b, 0, none⟩ ∧ c = c') → (E.L l = some none → ys.length = 0 ∧ c = 0) → VRep E r (rv A c))
    (hlen : ys.length ≤ bs.length)
    (hC : ∀ b c w, Holds encStr w b 0 (bs.map bl).toArray → b < w.heap.size → bs.length ≤ c → c ≤ maxLen → Calls P f #[.slice (some ⟨b, 0, none⟩) bs.length c] w fun e w' => e = .returned (rv (some ⟨b, 0, none⟩) c) ∧ ∃ (q : Nat) (os : Array Obj) (d : List (List UInt8)), w' = Sort.grow (putRow encStr (Sort.ahead w q) b 0 d.toArray) os ∧ d.length = bs.length ∧ d.take ys.length = ys.map bl)
    (hN : bs = [] → ∀ A c w, Calls P f #[.slice A 0 c] w fun e w' => e = .returned (rv A c) ∧ w' = w) : OkI P f l [.msl l bs.length] r T 1 (bs.map str) (ys.map str) := by
  refine ⟨cls_str ys, fun H nx hl hH => ⟨hcall, fun C E vals hR hK hv => ?_⟩⟩
  simp only [VReps] at hv
  obtain ⟨u, us', hu, rfl, rfl⟩ := hv
  simp only [VRep] at hu
  obtain ⟨A, c0, k1, rfl, k2, k3, k4, k5⟩ := hu
  obtain ⟨p, hp, ho⟩ := hR.live hH
  cases p with
  | none =>
    simp only [ORep, List.map_eq_nil_iff] at ho
    subst ho
    obtain ⟨_, rfl⟩ := k5 hp
    have hy : ys = [] := List.eq_nil_of_length_eq_zero (by simpa using hlen)
    subst hy
    refine (hN rfl A 0 E.w).mono ?_
    rintro e w' ⟨rfl, rfl⟩
    have hH' : upd H l (some (AO.row T 1 [])) = H := by
      funext j; simp only [upd_at]; split
      · rename_i e; subst e; exact hH.symm
      · rfl
    exact ⟨_, r, H, nx, E, rfl, ⟨rfl, hH, fun _ _ _ => rfl⟩, hr E A 0 k1 (Nat.zero_le _) (fun h => absurd h (by simp)) (fun b c e => by rw [hp] at e; cases e) (fun _ => ⟨rfl, rfl⟩), hR, Stab.refl E, Nat.le_refl _, fun l h => .inl h, rfl⟩
  | some bc =>
    obtain ⟨b, c⟩ := bc
    obtain ⟨rfl, rfl⟩ := k4 b c hp
    simp only [ORep] at ho
    obtain ⟨cur, us, h1, h2, h3, h4, h5, h6, h7⟩ := ho
    have hus := reps_str h2
    subst hus
    simp only [List.length_map, Nat.mul_one] at h4 h6 h7
    rw [flat_str] at h7
    have hold := hR.old l b c0 hp
    refine (hC b c0 E.w (holds_row h1 h7) hold.2 h4 h5).mono ?_
    rintro e w' ⟨rfl, q, os, d, rfl, hd1, hd2⟩
    -- the block
    let cur' := putCells encStr 0 d.toArray cur
    have hblk : (putRow encStr (Sort.ahead E.w q) b 0 d.toArray).heap[b]? = some (.cells cur' T (0, 0)) := by
      show (E.w.heap.modify b _)[b]? = _
      rw [Array.getElem?_modify, if_pos rfl, h1]; rfl
    have honly : Only E.w (putRow encStr (Sort.ahead E.w q) b 0 d.toArray) b := ⟨rfl, rfl, rfl, by show (E.w.heap.modify b _).size = _; simp, fun k hk => by show (E.w.heap.modify b _)[k]? = _; rw [Array.getElem?_modify, if_neg (by omega)]⟩
    have htake : cur'.toList.take ys.length = ys.map Value.string := by
      apply List.ext_getElem?
      intro j
      rw [List.getElem?_take]
      by_cases hj : j < ys.length
      · rw [if_pos hj]
        have hjd : j < d.length := by omega
        have hjc : j < cur.size := by omega
        have e1 : (d.take ys.length)[j]? = (ys.map bl)[j]? := by rw [hd2]
        rw [List.getElem?_take, if_pos hj, List.getElem?_eq_getElem hjd, List.getElem?_map, List.getElem?_eq_getElem hj] at e1
        have e2 : d[j] = bl ys[j] := by simpa using e1
        have e3 : cur'.toList[j]? = some (encStr d[j]) := by
          rw [Array.getElem?_toList]
          show (putCells encStr 0 d.toArray cur)[j]? = _
          unfold putCells
          rw [Array.getElem?_mapIdx, Array.getElem?_eq_getElem hjc]
          simp [hjd]
        rw [e3, e2, enc_bl, List.getElem?_map, List.getElem?_eq_getElem hj]
        rfl
      · rw [if_neg hj, List.getElem?_eq_none (by simpa using hj)]
    have hrep : ORep { E with w := putRow encStr (Sort.ahead E.w q) b 0 d.toArray } (some (b, c0)) (.row T 1 (ys.map str)) := by
      simp only [ORep]
      refine ⟨cur', ys.map Value.string, hblk, str_reps _ ys, fun u hu => ?_, by simp only [List.length_map]; omega, h5, by show (putCells encStr 0 d.toArray cur).size = _; unfold putCells; rw [Array.size_mapIdx]; simpa using h6, by simp only [List.length_map, Nat.mul_one]; rw [flat_str]; exact htake⟩
      obtain ⟨y, _, rfl⟩ := List.mem_map.1 hu
      exact ⟨rfl, by simp [Value.cells, Value.oneCell']⟩
    have hR1 := hR.only hp honly _ hrep
    have hS1 := Env.only_stab hR hp honly
    have hB : Below (putRow encStr (Sort.ahead E.w q) b 0 d.toArray).heap.size (putRow encStr (Sort.ahead E.w q) b 0 d.toArray) (Sort.grow (putRow encStr (Sort.ahead E.w q) b 0 d.toArray) os) :=
      ⟨rfl, rfl, rfl, by show _ ≤ (_ ++ os).size; simp, fun k hk => by show (_ ++ os)[k]? = _; rw [Array.getElem?_append_left hk]⟩
    obtain ⟨hR2, hS2⟩ := after_ok hR1 hB
    let E1 : Env := { E with w := putRow encStr (Sort.ahead E.w q) b 0 d.toArray }
    let E2 : Env := { E1 with w := Sort.grow (putRow encStr (Sort.ahead E.w q) b 0 d.toArray) os, Z := fun b' => E1.Z b' ∨ (E1.w.heap.size ≤ b' ∧ b' < (Sort.grow (putRow encStr (Sort.ahead E.w q) b 0 d.toArray) os).heap.size) }
    refine ⟨_, r, _, nx, E2, rfl, ⟨rfl, upd_same _ _ _, fun j _ hj => upd_ne _ _ hj⟩, hr E2 _ c0 k1 (by omega) (fun h => ⟨b, rfl⟩) (fun b' c' e => ?_) (fun e => ?_), hR2, hS1.trans hS2, Nat.le_refl _, fun l h => .inl h, rfl⟩
    · have e' : E.L l = some (some (b', c')) := e
      rw [hp] at e'
      injection e' with e'
      injection e' with e'
      injection e' with e1 e2
      subst e1; subst e2
      exact ⟨rfl, rfl⟩
    · have e' : E.L l = some none := e
      rw [hp] at e'
      injection e' with e'
      cases e'
/-! ### what they come to, by structural recursion -/
def leB (x y : ByteArray) : Bool := decide (bl x ≤ bl y)
def insB (x : ByteArray) : List ByteArray → List ByteArray
  | [] => [x]
  | y :: l => if leB x y = true then x :: y :: l else y :: insB x l
def sortB : List ByteArray → List ByteArray
  | [] => []
  | x :: l => insB x (sortB l)
theorem ba_ext {x y : ByteArray} (h : bl x = bl y) : x = y := by
  cases x; cases y
  simp only [bl] at h
  congr 1
  exact Array.toList_inj.1 h
theorem leB_total (x y : ByteArray) : leB x y = true ∨ leB y x = true := by
  simp only [leB, decide_eq_true_eq]
  exact List.le_total _ _
theorem leB_trans {x y z : ByteArray} (h1 : leB x y = true) (h2 : leB y z = true) : leB x z = true := by
  simp only [leB, decide_eq_true_eq] at *
  exact List.le_trans h1 h2
theorem insB_perm (x : ByteArray) : ∀ l, (insB x l).Perm (x :: l)
  | [] => List.Perm.refl _
  | y :: l => by
    unfold insB
    split
    · exact List.Perm.refl _
    · exact ((insB_perm x l).cons y).trans (List.Perm.swap x y l)
theorem sortB_perm : ∀ l, (sortB l).Perm l
  | [] => List.Perm.refl _
  | x :: l => (insB_perm x (sortB l)).trans ((sortB_perm l).cons x)
theorem insB_sorted (x : ByteArray) : ∀ l, l.Pairwise (fun a b => leB a b = true) → (insB x l).Pairwise (fun a b => leB a b = true)
  | [], _ => by simp [insB]
  | y :: l, h => by
    unfold insB
    rw [List.pairwise_cons] at h
    split
    · rename_i hx
      refine List.pairwise_cons.2 ⟨fun z hz => ?_, List.pairwise_cons.2 h⟩
      rcases List.mem_cons.1 hz with rfl | hz
      · exact hx
      · exact leB_trans hx (h.1 z hz)
    · rename_i hx
      refine List.pairwise_cons.2 ⟨fun z hz => ?_, insB_sorted x l h.2⟩
      rcases List.mem_cons.1 ((insB_perm x l).mem_iff.1 hz) with rfl | hz
      · exact (leB_total _ _).resolve_left hx
      · exact h.1 z hz
theorem sortB_sorted : ∀ l, (sortB l).Pairwise (fun a b => leB a b = true)
  | [] => List.Pairwise.nil
  | x :: l => insB_sorted x _ (sortB_sorted l)
theorem sortB_merge (l : List ByteArray) : (l.map bl).mergeSort (fun x y => decide (x ≤ y)) = (sortB l).map bl := by
  have h1 : ((l.map bl).mergeSort (fun x y => decide (x ≤ y))).Pairwise (fun a b => a ≤ b) := by
    have := List.pairwise_mergeSort (le := fun x y : List UInt8 => decide (x ≤ y)) (fun a b c h1 h2 => by simp only [decide_eq_true_eq] at *; exact List.le_trans h1 h2) (fun a b => by simpa using List.le_total a b) (l.map bl)
    exact this.imp (by intro a b h; simpa using h)
  have h2 : ((sortB l).map bl).Pairwise (fun a b => a ≤ b) := by
    rw [List.pairwise_map]
    exact (sortB_sorted l).imp (by intro a b h; simpa [leB] using h)
  refine List.Perm.eq_of_pairwise (le := fun a b : List UInt8 => a ≤ b) (fun a b _ _ h1 h2 => List.le_antisymm h1 h2) h1 h2 ?_
  exact (List.mergeSort_perm _ _).trans (((sortB_perm l).map bl).symm)
/-- What is kept: of each run the first. -/
theorem compactUpTo_mem (d : Array (List UInt8)) (x : List UInt8) : ∀ m, x ∈ Lib.compactUpTo d m ↔ ∃ j, j < m ∧ d[j]! = x
  | 0 => by simp [Lib.compactUpTo]
  | m + 1 => by
    rw [Lib.compactUpTo_succ, List.mem_append, compactUpTo_mem d x m]
    constructor
    · rintro (⟨j, h1, h2⟩ | h)
      · exact ⟨j, by omega, h2⟩
      · split at h
        · exact ⟨m, by omega, (List.mem_singleton.1 h).symm⟩
        · cases h
    · rintro ⟨j, h1, h2⟩
      by_cases hj : j < m
      · exact .inl ⟨j, hj, h2⟩
      · have : j = m := by omega
        subst this
        by_cases hk : Lib.keeps d j = true
        · rw [if_pos hk]; exact .inr (by simp [h2])
        · unfold Lib.keeps at hk
          simp only [decide_eq_true_eq, not_or, ne_eq, Decidable.not_not] at hk
          exact .inl ⟨j - 1, by omega, by rw [← hk.2]; exact h2⟩
theorem compactUpTo_sorted (d : Array (List UInt8)) (hs : ∀ i j, i < j → j < d.size → d[i]! ≤ d[j]!) : ∀ m, m ≤ d.size → (Lib.compactUpTo d m).Pairwise (· < ·)
  | 0, _ => by simp [Lib.compactUpTo]
  | m + 1, hm => by
    rw [Lib.compactUpTo_succ, List.pairwise_append]
    refine ⟨compactUpTo_sorted d hs m (by omega), by split <;> simp, fun x hx y hy => ?_⟩
    split at hy
    · rename_i hk
      obtain rfl : y = d[m]! := by simpa using hy
      obtain ⟨j, hj, rfl⟩ := (compactUpTo_mem d x m).1 hx
      unfold Lib.keeps at hk
      simp only [decide_eq_true_eq, ne_eq] at hk
      have hne : ¬ d[m]! = d[m - 1]! := hk.resolve_left (by omega)
      have h1 : d[m - 1]! ≤ d[m]! := hs _ _ (by omega) (by omega)
      have h2 : d[j]! ≤ d[m - 1]! := by
        by_cases e : j = m - 1
        · rw [e]; exact List.le_refl _
        · exact hs _ _ (by omega) (by omega)
      have h3 : d[m - 1]! < d[m]! := by
        rcases Decidable.em (d[m - 1]! < d[m]!) with h | h
        · exact h
        · exact absurd (List.le_antisymm (List.not_lt.1 h) h1) hne
      exact List.lt_of_le_of_lt h2 h3
    · cases hy
def unB (l : List UInt8) : ByteArray := ⟨l.toArray⟩
theorem bl_unB (l : List UInt8) : bl (unB l) = l := by simp [bl, unB]
theorem unB_bl (b : ByteArray) : unB (bl b) = b := by cases b; simp [bl, unB]
def cmpB (l : List ByteArray) : List ByteArray := (Lib.compact (l.map bl)).map unB
theorem cmpB_bl (l : List ByteArray) : (cmpB l).map bl = Lib.compact (l.map bl) := by
  unfold cmpB
  rw [List.map_map]
  conv => rhs; rw [← List.map_id (Lib.compact (l.map bl))]
  exact List.map_congr_left fun x _ => bl_unB x
theorem compact_len (zs : List (List UInt8)) : (Lib.compact zs).length ≤ zs.length := by
  unfold Lib.compact Lib.compactUpTo
  rw [List.length_map]
  exact Nat.le_trans (List.length_filter_le _ _) (by simp)
theorem cmpB_len (l : List ByteArray) : (cmpB l).length ≤ l.length := by
  have := compact_len (l.map bl)
  unfold cmpB
  simpa using this
theorem cmpB_mem (l : List ByteArray) (x : ByteArray) : x ∈ cmpB l ↔ x ∈ l := by
  have h1 : x ∈ cmpB l ↔ bl x ∈ Lib.compact (l.map bl) := by
    unfold cmpB
    rw [List.mem_map]
    constructor
    · rintro ⟨y, hy, rfl⟩; rwa [bl_unB]
    · intro h; exact ⟨_, h, unB_bl x⟩
  rw [h1]
  unfold Lib.compact
  rw [compactUpTo_mem]
  constructor
  · rintro ⟨j, hj, h⟩
    have hj' : j < l.length := by simpa using hj
    have : bl l[j] = bl x := by simpa [hj'] using h
    exact ba_ext this ▸ List.getElem_mem hj'
  · intro h
    obtain ⟨j, hj, rfl⟩ := List.getElem_of_mem h
    exact ⟨j, by simpa using hj, by simp [hj]⟩
theorem cmpB_sorted (l : List ByteArray) (h : l.Pairwise (fun a b => leB a b = true)) : (cmpB l).Pairwise (fun a b => bl a < bl b) := by
  have := compactUpTo_sorted (l.map bl).toArray (fun i j hij hj => by
    have hj' : j < l.length := by simpa using hj
    have hi' : i < l.length := by omega
    have := List.pairwise_iff_getElem.1 h i j hi' hj' hij
    simpa [leB, hi', hj'] using this) (l.map bl).length (by simp)
  have h2 : ((cmpB l).map bl).Pairwise (· < ·) := by
    rw [cmpB_bl]; exact this
  rwa [List.pairwise_map] at h2
/-! ### the contracts -/
def m_slices_Sort_string_string (xs : List ByteArray) : Option (List ByteArray) := (ck (xs.length < 4611686018427387904)).bind fun _ => some (sortB xs)
def m_slices_Compact_string_string (xs : List ByteArray) : Option (List ByteArray) := (ck (xs.length ≤ 9223372036854775807)).bind fun _ => some (cmpB xs)
theorem sortM_ok {T l : Nat} (xs r : List ByteArray) (h : m_slices_Sort_string_string xs = some r) : OkI Try.prog 37 l [.msl l xs.length] (.tup []) T 1 (xs.map str) (r.map str) := by
  unfold m_slices_Sort_string_string at h
  obtain ⟨h1, h2⟩ := ckE h
  obtain rfl := Option.some.inj h2
  refine okI_lib (fun _ _ => .tuple #[]) _ (by kernel_rfl) (fun E A c _ _ _ _ _ => by simp only [VRep, VReps]; exact ⟨[], rfl, rfl⟩) (by rw [(sortB_perm xs).length_eq]; exact Nat.le_refl _) ?_ ?_
  · intro b c w hH hb hc hm
    have := Try.slices_Sort_string b 0 c (xs.map bl) w hH hb (by simpa using h1)
    rw [List.length_map] at this
    refine this.mono ?_
    rintro e w' ⟨rfl, n, os, rfl⟩
    refine ⟨rfl, n, os, _, rfl, by rw [List.length_mergeSort]; simp, ?_⟩
    rw [sortB_merge, List.take_of_length_le (by simp)]
  · rintro rfl A c w
    exact Try.slices_Sort_string_none A c w
theorem sortM_len {xs r : List ByteArray} (h : m_slices_Sort_string_string xs = some r) : xs.length = r.length := by
  unfold m_slices_Sort_string_string at h
  obtain ⟨h1, h2⟩ := ckE h
  obtain rfl := Option.some.inj h2
  exact (sortB_perm xs).length_eq.symm
theorem compactM_ok {T l : Nat} (xs r : List ByteArray) (h : m_slices_Compact_string_string xs = some r) : OkI Try.prog 38 l [.msl l xs.length] (.msl l r.length) T 1 (xs.map str) (r.map str) := by
  unfold m_slices_Compact_string_string at h
  obtain ⟨h1, h2⟩ := ckE h
  obtain rfl := Option.some.inj h2
  have hcl : (Lib.compact (xs.map bl)).length = (cmpB xs).length := by simp [cmpB]
  refine okI_lib (fun A c => .slice A (cmpB xs).length c) _ (by kernel_rfl) (fun E A c k1 k2 k3 k4 k5 => by simp only [VRep]; exact ⟨A, c, k1, rfl, k3, k2, k4, k5⟩) (cmpB_len xs) ?_ ?_
  · intro b c w hH hb hc hm
    have := Try.slices_Compact_string b 0 c (xs.map bl) w hH (by simpa using h1) (by simpa using hc)
    rw [List.length_map, hcl] at this
    refine this.mono ?_
    rintro e w' ⟨rfl, q, rfl⟩
    refine ⟨rfl, q, #[], _, (Sort.grow_empty _).symm, ?_, ?_⟩
    · have := cmpB_len xs
      simp [hcl]; omega
    · rw [List.take_append_of_le_length (by omega), cmpB_bl, List.take_of_length_le (by omega)]
  · rintro rfl A c w
    exact Try.slices_Compact_string_empty A c w
end Go.Proofs.Ytlgikchfddhocaa.AL

/- Models of functions, and that the functions are as their models: written by gen.py. -/
set_option linter.all false
set_option maxRecDepth 100000
namespace Go.Proofs.Ytlgikchfddhocaa.AL
open Go Go.Proofs
def m_name_Sort (a0 : List ByteArray) : Option (List ByteArray) := (cloneM 16 a0).bind fun v1 => (m_slices_Sort_string_string v1).bind fun v3 => (m_slices_Compact_string_string v3).bind fun v6 => some v6
def Y_name_Sort := And.intro ((@EV)) (And.intro ((@R9)) ((@R30)))
set_option maxHeartbeats 2000000 in
theorem ok_name_Sort (a0 : List ByteArray) (r : List ByteArray) (hm0 : m_name_Sort a0 = some r) : Ok Try.prog 16 [.sl 1 (a0.map str)] (.sl 1 (r.map str)) := by
 unfold m_name_Sort at hm0
 refine okG fc_name_Sort ?_
 unfold c_name_Sort
 obtain ⟨v1, h2, hm0⟩ := bsE hm0
 simp only [Y_name_Sort, ↓EVd, isCall, sevalprocAttr]
 refine qco (cloneO_ok fc_slices_Clone_string_string elemOfT_30 aggN_9 bytesOfT_9 zero_9 rfl (by decide) str _ _ h2 (fun z => by simp only [CLO])) rfl ?_
 obtain ⟨v3, h4, hm0⟩ := bsE hm0
 have e5 := sortM_len h4
 simp only [Y_name_Sort, ↓EVd, isCall, sevalprocAttr]
 refine qci (sortM_ok (T := 9) _ _ h4) rfl (by simp only [FZ, CLO, Y_name_Sort, ↓EVd, isCall, sevalprocAttr]) (by simp only [FZ, CLO, Y_name_Sort, ↓EVd, isCall, sevalprocAttr]) (fun _ _ => by simp only [inK, inKs]) ?_
 obtain ⟨v6, h7, hm0⟩ := bsE hm0
 simp only [e5, Y_name_Sort, ↓EVd, isCall, sevalprocAttr]
 refine qci (compactM_ok (T := 9) _ _ h7) rfl (by simp only [e5, FZ, CLO, Y_name_Sort, ↓EVd, isCall, sevalprocAttr]) (by simp only [e5, FZ, CLO, Y_name_Sort, ↓EVd, isCall, sevalprocAttr]) (fun _ hh => by simpa only [inK] using hh) ?_
 obtain rfl := Option.some.inj hm0
 simp only [e5, Y_name_Sort, ↓EVd, isCall, sevalprocAttr]
 all_goals first | done | rfl | exact frzR_e (by simp only [e5, FZ, CLO, Y_name_Sort, ↓EVd, isCall, sevalprocAttr])
end Go.Proofs.Ytlgikchfddhocaa.AL

/- name.Sort hands back a row of its own. -/
set_option linter.all false
namespace Go.Proofs.Ytlgikchfddhocaa.AL
open Go Go.Proofs
end Go.Proofs.Ytlgikchfddhocaa.AL

