/- A law of the given program is proved: part 10 of 50. -/
import Derived.Test.YtefdlpandfhcgaaGreatDoorA9
set_option linter.all false
/- AL, part 9: append. -/
set_option linter.unusedSimpArgs false
namespace Go.Proofs.YtefdlpandfhcgaaGreatDoor.AL
open Go.RowKit
def newsOf (V : Nat → Option AO) (x : AV) (sz : Nat) : Option (List AV) :=
  match x with
  | .sl s ys => if s = sz then some ys else none
  | .msl l m => match V l with
    | some (.row _ s ys) => if s = sz ∧ m = ys.length then some ys else none
    | _ => none
  | .val (.slice none 0 0) => some []
  | .e0 => some []
  | _ => none
theorem x33 {us : List Value} {s : Nat} (h : ∀ u ∈ us, u.cells.size = s) : ∀ (j : Nat) (v : Value), (flatV us)[j]? = some v → ∃ (i k : Nat) (u : Value), us[i]? = some u ∧ j = i * s + k ∧ u.cells[k]? = some v := by
  induction us with
  | nil => intro j v hj; simp [flatV] at hj
  | cons u us ih =>
    intro j v hj
    have h1 := h u (by simp)
    simp only [flatV, List.flatMap_cons] at hj
    by_cases hlt : j < s
    · rw [List.getElem?_append_left (by simp; omega)] at hj
      exact ⟨0, j, u, rfl, by simp, by simpa using hj⟩
    · rw [List.getElem?_append_right (by simp; omega)] at hj
      obtain ⟨i, k, u', a, b, c⟩ := ih (fun v hv => h v (by simp [hv])) (j - u.cells.toList.length) v hj
      refine ⟨i + 1, k, u', by simpa using a, ?_, c⟩
      simp [h1] at b
      rw [Nat.add_mul]
      omega
theorem Src.of_row {P : Program} {w : World} {t e : TypeId} (ht : P.underlying t = some (.slice e)) {sz : Nat} {us : List Value} (hs : Sized sz us) (A : Option Addr) (c : Nat)
    (h : us = [] ∨ ∃ b o, A = some ⟨b, o, none⟩ ∧ ∀ (i : Nat) (u : Value), us[i]? = some u → xnf w b (o + i * sz) u.cells) : Src P sz t (.slice A us.length c) us.length (flatV us) w := by
  rcases h with rfl | ⟨b, o, rfl, h⟩
  · refine ⟨.inl ⟨e, ht⟩, fun _ => rfl, ?_, ?_, by simp [flatV], fun u hu => by simp [flatV] at hu⟩
    · cases A <;> simp [Builtin.firstCells, flatV, loadCells, loadCellsFrom]
    · cases A <;> simp [Builtin.firstCells, flatV, loadCells, loadCellsFrom]
  · refine Src.ofSlice w ht ⟨b, o, none⟩ us.length c (flatV us) (xbd fun u hu => (hs u hu).1) (fun j v hj => ?_) (fun v hv => ?_)
    · obtain ⟨i, k, u, a1, a2, a3⟩ := x33 (fun u hu => (hs u hu).1) j v hj
      rw [xuc, a2, ← Nat.add_assoc]
      exact h i u a1 k v a3
    · obtain ⟨u, hu, hv⟩ := List.mem_flatMap.1 hv
      exact (hs u hu).2 v hv
theorem Sized.nil (s : Nat) : Sized s [] := fun _ hu => absurd hu (by simp)
theorem xxw {P : Program} {C : Ctx} {E : Env} {H V : Nat → Option AO} (hR : HR C E H) (hV : SubH V H) {t e : TypeId} (ht : P.underlying t = some (.slice e)) {x : AV} {u : Value} {sz : Nat} {ys : List AV} (hx : VRep E x u) (h : newsOf V x sz = some ys) :
    ∃ us, VReps E ys us ∧ Sized sz us ∧ Src P sz t u ys.length (flatV us) E.w := by
  unfold newsOf at h
  split at h
  · rename_i s zs
    split at h
    · rename_i e'
      subst e'
      injection h with h
      subst h
      simp only [VRep] at hx
      obtain ⟨us, A, cap, h1, rfl, h3, h4⟩ := hx
      have hl := h1.length
      have hs : Sized s us := by
        rcases h4 with rfl | ⟨b, o, rfl, hZ, h4⟩
        · intro u hu; cases hu
        · intro u hu
          obtain ⟨i, hi⟩ := List.getElem?_of_mem hu
          exact ⟨(h4 i u hi).1, (h4 i u hi).2.1⟩
      refine ⟨us, h1, hs, ?_⟩
      rw [← hl]
      refine Src.of_row ht hs A cap ?_
      rcases h4 with h4 | ⟨b, o, rfl, hZ, h4⟩
      · exact .inl h4
      · exact .inr ⟨b, o, rfl, fun i u hi => (h4 i u hi).2.2⟩
    · cases h
  · rename_i l m
    split at h
    · rename_i T s zs hl
      split at h
      · rename_i hh
        obtain ⟨rfl, rfl⟩ := hh
        injection h with h
        subst h
        obtain ⟨p, hp, ho⟩ := hR.live (hV _ _ hl)
        simp only [VRep] at hx
        obtain ⟨A, c0, hk, rfl, g1, g2, g3, g4⟩ := hx
        cases p with
        | none =>
          simp only [ORep] at ho
          subst ho
          exact ⟨[], .nil, Sized.nil _, Src.of_row (us := []) ht (Sized.nil _) A c0 (.inl rfl)⟩
        | some q =>
          obtain ⟨b, c⟩ := q
          obtain ⟨rfl, rfl⟩ := g3 b c hp
          have ho' := ho
          simp only [ORep] at ho'
          obtain ⟨cur, us, h1, h2, h3, h4, h5, h6, h7⟩ := ho'
          have hl' := h2.length
          refine ⟨us, h2, h3, ?_⟩
          rw [← hl']
          refine Src.of_row ht h3 _ c0 (.inr ⟨b, 0, rfl, fun i u hi => ?_⟩)
          intro j v hj
          rw [Nat.zero_add, cell_of_row E.w b _ cur T (0, 0) h1]
          have e := x7f (fun u hu => (h3 u hu).1) hi j v hj
          rw [← h7, List.getElem?_take] at e
          split at e
          · simpa using e
          · cases e
      · cases h
    · cases h
  · injection h with h
    subst h
    simp only [VRep] at hx
    subst hx
    exact ⟨[], .nil, Sized.nil _, Src.of_row (us := []) ht (Sized.nil _) none 0 (.inl rfl)⟩
  · injection h with h
    subst h
    simp only [VRep] at hx
    obtain ⟨A, rfl⟩ := hx
    exact ⟨[], .nil, Sized.nil _, Src.of_row (us := []) ht (Sized.nil _) A 0 (.inl rfl)⟩
  · cases h
def oldsOf (V : Nat → Option AO) (x : AV) (e sz : Nat) : Option (Option Nat × List AV) :=
  match x with
  | .msl l m => match V l with
    | some (.row T s xs) => if s = sz ∧ m = xs.length ∧ T = e then some (some l, xs) else none
    | _ => none
  | .val (.slice none 0 0) => some (none, [])
  | .e0 => some (none, [])
  | _ => none
def xaf (P : Program) (T : TypeId) : Option Nat := (P.info? T).map (·.bytes)
def killU : Option Nat → Upds
  | some l => [(l, none)]
  | none => []
def x8e (P : Program) (t : TypeId) (V : Nat → Option AO) (s : AV) (N : Nat → Option (List AV)) (new : Nat) : Option (AV × Upds) :=
  match xfb P t with
  | some e => match aggN P e, xaf P e, zeroOf P e with
    | some (_, sz), some by_, some z => match oldsOf V s e sz, N sz with
      | some (ol, xs), some ys =>
        if (xs.length + ys.length) * by_ ≤ 140737488355328 ∧ xs.length + ys.length ≤ 9223372036854775807 ∧ xi z sz = true then
          some (.msl new (xs.length + ys.length), killU ol ++ [(new, some (.row e sz (xs ++ ys)))])
        else none
      | _, _ => none
    | _, _, _ => none
  | none => none
def x0e (P : Program) (t : TypeId) (V : Nat → Option AO) (s x : AV) (new : Nat) : Option (AV × Upds) := x8e P t V s (newsOf V x) new
def x7y : AV → Nat → Option (List AV)
  | .val (.string b), sz => if sz = 1 then some (b.data.toList.map fun c => .val (.int .u8 (c.toNat : Int))) else none
  | _, _ => none
theorem x9u {P : Program} {E : Env} {tx : TypeId} (ht : P.underlying tx = some .string) {x : AV} {u : Value} {sz : Nat} {ys : List AV} (hx : VRep E x u) (h : x7y x sz = some ys) :
    ∃ us, VReps E ys us ∧ Sized sz us ∧ Src P sz tx u ys.length (flatV us) E.w := by
  have hb : ∃ b, x = .val (.string b) ∧ (if sz = 1 then some (b.data.toList.map fun c => (AV.val (.int .u8 (c.toNat : Int)))) else none) = some ys := by
    cases x with
    | val v => cases v with
      | string b => exact ⟨b, rfl, h⟩
      | _ => cases h
    | _ => cases h
  clear h
  obtain ⟨b, rfl, h⟩ := hb
  · split at h
    · rename_i e
      subst e
      injection h with h
      subst h
      simp only [VRep] at hx
      subst hx
      have hv : ∀ l : List UInt8, VReps E (l.map fun c => .val (.int .u8 (c.toNat : Int))) (l.map fun c => Value.int .u8 (c.toNat : Int)) := by
        intro l
        induction l with
        | nil => simp [VReps]
        | cons c l ih =>
          simp only [List.map_cons, VReps]
          exact ⟨_, _, by simp only [VRep], ih, rfl⟩
      have hf : ∀ l : List UInt8, flatV (l.map fun c => Value.int .u8 (c.toNat : Int)) = l.map fun c => Value.int .u8 (c.toNat : Int) := by
        intro l
        induction l with
        | nil => rfl
        | cons c l ih =>
          have : flatV (List.map (fun c => Value.int .u8 (c.toNat : Int)) (c :: l)) = Value.int .u8 (c.toNat : Int) :: flatV (l.map fun c => Value.int .u8 (c.toNat : Int)) := by
            simp [flatV, Value.cells]
          rw [this, ih]
          rfl
      refine ⟨_, hv _, ?_, ?_⟩
      · intro u hu
        obtain ⟨c, _, rfl⟩ := List.mem_map.1 hu
        exact ⟨rfl, by simp [Value.cells, Value.oneCell']⟩
      · rw [hf]
        have := Src.ofString (P := P) E.w ht b
        have e : (b.data.toList.map fun c => (AV.val (.int .u8 (c.toNat : Int)))).length = b.size := by rw [List.length_map]; rfl
        rw [e]
        exact this
    · cases h
theorem xwn {P : Program} (w : World) (t tx ty e : TypeId) (i : TypeInfo) (ht : P.underlying t = some (.slice e)) (hi : P.info? e = some i) (b sLen sCap : Nat) (cur : Array Value) (T : TypeId) (hg : w.heap[b]? = some (.cells cur T (0, 0)))
    (x : Value) (n : Nat) (news : List Value) (hs : Src P i.size tx x n news w) (hroom : sLen + n ≤ sCap) (hfit : sLen * i.size + news.length ≤ cur.size) :
    (Builtin.append_ #[t, tx] ty #[.slice (some ⟨b, 0, none⟩) sLen sCap, x]).run P w = .ok (.slice (some ⟨b, 0, none⟩) (sLen + n) sCap) (w.setRow b (splice cur.toList (sLen * i.size) news).toArray) := by
  have hst : (storeCells ⟨b, sLen * i.size, none⟩ news 0).run P w = .ok () (w.setRow b (splice cur.toList (sLen * i.size) news).toArray) := run_storeCells_at P b (sLen * i.size) T news 0 cur w hg (by simpa using hfit) hs.one
  generalize w.setRow b (splice cur.toList (sLen * i.size) news).toArray = W at hst
  rcases hs.kind with ⟨e', hk⟩ | hk <;> simp [Builtin.append_, run_underlying ht, run_underlying hk, sizeOf, typeInfo, hi, hs.len, hroom, hs.cells, Addr.add_lit, hst]
theorem xrr {P : Program} (w : World) (size c : Nat) (A : Option Addr) : (Builtin.firstCells size 0 (.slice A 0 c)).run P w = .ok #[] w := by
  cases A <;> simp [Builtin.firstCells, loadCells, loadCellsFrom]
theorem x3n {P : Program} {C : Ctx} {E E1 : Env} {H1 : Nat → Option AO} {new e sz n m : Nat} (s1 : Stab E E1) (hw : E1.w = E.w) (hR1 : HR C E1 H1) (hn1 : ¬ E1.K new) (hk1 : ∀ l, E1.K l → E.K l)
    {xs ys : List AV} {us vs : List Value} (hxs : VReps E xs us) (hus : Sized sz us) (hys : VReps E ys vs) (hvs : Sized sz vs) (hxn : xs.length = n) (hyn : ys.length = m) {z : Value} (hz : z.cells.size = sz)
    {cap : Nat} (hcap : n + m ≤ cap) (hcm : cap ≤ maxLen) :
    ∃ E', E'.w = E.w.drew.alloc (.cells ((flatV us ++ flatV vs).toArray ++ Builtin.zeroCells z.cells (cap - (n + m))) e) ∧ VRep E' (.msl new (n + m)) (.slice (some ⟨E.w.heap.size, 0, none⟩) (n + m) cap) ∧
      HR C E' (upd H1 new (some (.row e sz (xs ++ ys)))) ∧ Stab E E' ∧ ∀ l, E'.K l → E.K l ∨ l = new := by
  have s2 := Env.drew_stab E1
  have hR2 := hR1.drew
  have hn2 : ¬ E1.drew.K new := hn1
  have s3 := Env.alloc_stab hR2 hn2 (.cells ((flatV us ++ flatV vs).toArray ++ Builtin.zeroCells z.cells (cap - (n + m))) e) cap
  have hsz : Sized sz (us ++ vs) := fun u hu => by
    rcases List.mem_append.1 hu with h | h
    · exact hus u h
    · exact hvs u h
  have hl := (hxs.append hys).length
  have hfl : (flatV us ++ flatV vs).length = (n + m) * sz := by
    rw [← xrf, xbd (fun u hu => (hsz u hu).1)]
    simp only [List.length_append] at hl ⊢
    rw [show us.length + vs.length = n + m by omega]
  have ho := ORep.new (E := E1.drew) (new := new) (c := cap) (T := e) (s := sz) (xs := xs ++ ys) (us := us ++ vs) rfl s3 (((hxs.append hys).stab s1).stab s2) hsz (by simp; omega) hcm
    (by
      have := size_zeroCells z.cells (cap - (n + m))
      simp only [Array.size_append, List.size_toArray, this, hfl, hz, ← Nat.add_mul]
      congr 1
      omega)
    (by
      simp only [Array.toList_append, List.length_append, hxn, hyn]
      rw [← hfl, xrf]
      exact List.take_left)
  have hw2 : E1.drew.w.heap.size = E.w.heap.size := by show E1.w.heap.size = _; rw [hw]
  refine ⟨_, ?_, ?_, hR2.alloc hn2 _ cap _ ho, (s1.trans s2).trans s3, ?_⟩
  · simp only [Env.alloc, Env.drew, hw]
  · have := VRep.newMsl (E := E1.drew) (new := new) (c := cap) (n := n + m) (obj := (.cells ((flatV us ++ flatV vs).toArray ++ Builtin.zeroCells z.cells (cap - (n + m))) e)) hcap
    rw [hw2] at this
    exact this
  · intro l k
    rcases k with k | k
    · exact .inl (hk1 l k)
    · exact .inr k
theorem xsj {P : Program} {C : Ctx} {E : Env} {H V : Nat → Option AO} (hR : HR C E H) (hV : SubH V H) {o : Oper} {ρ : Operand → Value} {new t tx : Nat} {os ox : Operand} {s : AV} {N : Nat → Option (List AV)} (hn : ¬ E.K new)
    (ho : o.op = .call { callee := .builtin .append, args := #[os, ox], argTypes := #[t, tx] })
    (hs : VRep E s (ρ os)) (hN : ∀ e sz ys, P.underlying t = some (.slice e) → N sz = some ys → ∃ us, VReps E ys us ∧ Sized sz us ∧ Src P sz tx (ρ ox) ys.length (flatV us) E.w) {v : AV} {us : Upds} (h : x8e P t V s N new = some (v, us)) : OpOut P o ρ C E H new v us := by
  unfold x8e at h
  split at h
  · rename_i e he
    have hu := xzc he
    split at h
    · rename_i g sz by_ z hT hby hz
      split at h
      · rename_i ol xs ys hol hnews
        split at h
        · rename_i hh
          obtain ⟨hb, hl63, hzs⟩ := hh
          injection h with h
          injection h with h1 h2
          subst h1; subst h2
          obtain ⟨i, zv, hi, hzv, rfl⟩ := xvf hz
          obtain ⟨zs1, _, _⟩ := (VRep.ofConst E zv).sized hzs
          obtain ⟨_, _, i', hi', hisz⟩ := xlc hT E.w
          obtain rfl : i' = i := by rw [hi] at hi'; exact (Option.some.inj hi').symm
          have hiby : i'.bytes = by_ := by simpa [xaf, hi] using hby
          subst hisz; subst hiby
          obtain ⟨vs, hvs, hvsz, hsrc⟩ := hN _ _ _ hu hnews
          have hml : xs.length + ys.length ≤ maxLen := by simp only [maxLen]; omega
          have hex : ∀ (r : Value) (w' : World), (Builtin.append_ #[t, tx] o.type #[ρ os, ρ ox]).run P E.w = .ok r w' → (execOp ρ o).run P E.w = .ok (.value r) w' := by
            intro r w' hr
            simp [execOp, ho, resolve, invoke, builtin, hr]
          -- an empty slice, of whatever address
          have empty : ∀ (A : Option Addr) (E1 : Env) (H1 : Nat → Option AO), ρ os = .slice A 0 0 → xs = [] → Stab E E1 → E1.w = E.w → HR C E1 H1 → ¬ E1.K new → (∀ l, E1.K l → E.K l) →
              (∀ H2 : Nat → Option AO, H2 = upd H1 new (some (.row e i'.size (xs ++ ys))) → applyU H (killU ol ++ [(new, some (.row e i'.size (xs ++ ys)))]) = H2) →
              OpOut P o ρ C E H new (.msl new (xs.length + ys.length)) (killU ol ++ [(new, some (.row e i'.size (xs ++ ys)))]) := by
            intro A E1 H1 hA hxs s1 hw hR1 hn1 hk1 hH
            subst hxs
            by_cases hy0 : ys = []
            · subst hy0
              have hvs0 : vs = [] := List.eq_nil_of_length_eq_zero (by simpa using hvs.length)
              subst hvs0
              have hrun := run_append_nothing (P := P) E.w t tx o.type e i' hu hi A 0 0 (Nat.le_refl 0) (ρ ox) hsrc
              refine ⟨.slice A 0 0, E1.adopt new, .inl (hex _ _ ?_), ?_, ?_, s1.trans (Env.adopt_stab hn1), ?_⟩
              · rw [hA, hrun]
                show Result.ok _ E.w = Result.ok _ E1.w
                rw [hw]
              · simp only [VRep]
                refine ⟨A, 0, .inr rfl, rfl, fun h => absurd h (by simp), Nat.le_refl _, fun b c hb => ?_, fun _ => ⟨rfl, rfl⟩⟩
                simp only [Env.adopt, upd_same] at hb
                injection hb with hb
                cases hb
              · rw [hH _ rfl]
                exact hR1.adopt hn1 e i'.size
              · intro l k
                rcases k with k | k
                · exact .inl (hk1 l k)
                · exact .inr k
            · have hy1 : 0 < ys.length := List.length_pos_iff.2 hy0
              have hrun := run_append_grow_src (P := P) E.w t tx o.type e i' zv hu hi hzv A 0 0 [] (xrr _ _ _ _) (ρ ox) ys.length (flatV vs) hsrc (by omega) (by simp at hl63; omega) (growslice_fits (by omega) (by simpa using hb))
              have hcap := grownCap_ge E.w (0 + ys.length) 0 e
              have hcm := grownCap_le_maxLen E.w (0 + ys.length) 0 e (by simpa using hml)
              obtain ⟨E', e1, e2, e3, e4, e5⟩ := x3n (P := P) (e := e) s1 hw hR1 hn1 hk1 (us := []) VReps.nil (Sized.nil _) hvs hvsz rfl rfl zs1 hcap hcm
              refine ⟨_, E', .inl (hex _ _ ?_), e2, ?_, e4, e5⟩
              · rw [hA, hrun, e1]
                rfl
              · rw [hH _ rfl]
                exact e3
          unfold oldsOf at hol
          split at hol
          · rename_i l m
            split at hol
            · rename_i T s' xs' hl
              split at hol
              · rename_i hh
                obtain ⟨rfl, rfl, rfl⟩ := hh
                injection hol with hol
                injection hol with hol1 hol2
                subst hol1; subst hol2
                have hlH := hV _ _ hl
                obtain ⟨p, hp, hob⟩ := hR.live hlH
                have hkl := hR.known l _ hp
                have hln : l ≠ new := fun e => hn (e ▸ hkl)
                have hs' := hs
                simp only [VRep] at hs
                obtain ⟨A, c0, hk, hA, g1, g2, g3, g4⟩ := hs
                have hHfin : ∀ o', applyU H (killU (some l) ++ [(new, some o')]) = upd (upd H l none) new (some o') := fun o' => rfl
                cases p with
                | none =>
                  have hxe : xs' = [] := by simpa only [ORep] using hob
                  obtain ⟨hn0, rfl⟩ := g4 hp
                  rw [hn0] at hA
                  exact empty A (E.kill l) (upd H l none) hA hxe (Env.kill_stab E l) rfl (hR.kill l) hn (fun l k => k) (fun H2 hH2 => by rw [hHfin, hH2])
                | some q =>
                  obtain ⟨b, c⟩ := q
                  obtain ⟨rfl, rfl⟩ := g3 b c hp
                  have hob' := hob
                  simp only [ORep] at hob'
                  obtain ⟨cur, ws, h1, h2, h3, h4, h5, h6, h7⟩ := hob'
                  have hwl := h2.length
                  have hwsz : ∀ u ∈ ws, u.cells.size = i'.size := fun u hu => (h3 u hu).1
                  have hvl := hvs.length
                  have hfw : (flatV ws).length = xs'.length * i'.size := by rw [xbd hwsz, hwl]
                  have hfv : (flatV vs).length = ys.length * i'.size := by rw [xbd (fun u hu => (hvsz u hu).1), hvl]
                  by_cases hroom : xs'.length + ys.length ≤ c0
                  · -- there is room
                    have hfit : xs'.length * i'.size + (flatV vs).length ≤ cur.size := by
                      rw [hfv, ← Nat.add_mul, h6]
                      exact Nat.mul_le_mul_right _ hroom
                    have hrun := xwn (P := P) E.w t tx o.type T i' hu hi b xs'.length c0 cur T h1 (ρ ox) ys.length (flatV vs) hsrc hroom hfit
                    have s1 : Stab E (E.rename l new) := Env.rename_stab hn
                    have hR1 := hR.rename hn hkl
                    have hLn : (E.rename l new).L new = some (some (b, c0)) := by simp only [Env.rename, upd_same]; exact hp
                    have hOnly : Only (E.rename l new).w (E.w.setRow b (splice cur.toList (xs'.length * i'.size) (flatV vs)).toArray) b := Only.setRow _ _ _
                    have s2 := Env.only_stab hR1 hLn hOnly
                    refine ⟨.slice (some ⟨b, 0, none⟩) (xs'.length + ys.length) c0, { E.rename l new with w := E.w.setRow b (splice cur.toList (xs'.length * i'.size) (flatV vs)).toArray }, .inl (hex _ _ ?_), ?_, ?_, s1.trans s2, fun l k => k⟩
                    · rw [hA]; exact hrun
                    · simp only [VRep]
                      refine ⟨_, c0, .inr rfl, rfl, fun _ => ⟨_, rfl⟩, hroom, fun b' c' hb' => ?_, fun hb' => ?_⟩
                      · rw [hLn] at hb'
                        injection hb' with hb'
                        injection hb' with hb'
                        injection hb' with e1 e2
                        subst e1; subst e2
                        exact ⟨rfl, rfl⟩
                      · rw [hLn] at hb'
                        injection hb' with hb'
                        cases hb'
                    · have hcurs : cur.toList = flatV ws ++ cur.toList.drop (xs'.length * i'.size) := by rw [← h7, List.take_append_drop]
                      have hspl : splice cur.toList (xs'.length * i'.size) (flatV vs) = flatV ws ++ flatV vs ++ cur.toList.drop (xs'.length * i'.size + (flatV vs).length) := by
                        unfold splice
                        rw [h7]
                      have hsum : Sized i'.size (ws ++ vs) := fun u hu => by
                        rcases List.mem_append.1 hu with h | h
                        · exact h3 u h
                        · exact hvsz u h
                      have := hR1.only hLn hOnly (.row T i'.size (xs' ++ ys)) (by
                        simp only [ORep]
                        refine ⟨_, ws ++ vs, setRow_heap E.w b cur _ T (0, 0) h1, ((h2.append hvs).stab s1).stab s2, hsum, by simpa using hroom, h5, ?_, ?_⟩
                        · simp only [List.size_toArray]
                          rw [xoj _ _ _ (by simpa using hfit)]
                          simpa using h6
                        · rw [hspl, xrf]
                          have : (xs' ++ ys).length * i'.size = (flatV ws ++ flatV vs).length := by simp only [List.length_append, hfw, hfv, Nat.add_mul]
                          rw [this]
                          exact List.take_left)
                      rw [hHfin]
                      have e3 : upd (upd (upd H l none) new (H l)) new (some (AO.row T i'.size (xs' ++ ys))) = upd (upd H l none) new (some (AO.row T i'.size (xs' ++ ys))) := by
                        funext k
                        simp only [upd_at]
                        split <;> rfl
                      rw [e3] at this
                      exact this
                  · -- there is none
                    have hold : (Builtin.firstCells i'.size xs'.length (.slice (some ⟨b, 0, none⟩) xs'.length c0)).run P E.w.drew = .ok (flatV ws).toArray E.w.drew :=
                      run_firstCells_some (P := P) E.w.drew i'.size xs'.length ⟨b, 0, none⟩ xs'.length c0 (flatV ws) hfw (fun j v hj => by
                        rw [xuc, World.cell?_drew, Nat.zero_add, cell_of_row E.w b _ cur T (0, 0) h1]
                        rw [← h7, List.getElem?_take] at hj
                        split at hj
                        · simpa using hj
                        · cases hj)
                    have hrun := run_append_grow_src (P := P) E.w t tx o.type T i' zv hu hi hzv (some ⟨b, 0, none⟩) xs'.length c0 (flatV ws) hold (ρ ox) ys.length (flatV vs) hsrc (by omega) (by omega) (growslice_fits (by omega) hb)
                    have hcap := grownCap_ge E.w (xs'.length + ys.length) c0 T
                    have hcm := grownCap_le_maxLen E.w (xs'.length + ys.length) c0 T hml
                    obtain ⟨E', e1, e2, e3, e4, e5⟩ := x3n (P := P) (e := T) (Env.kill_stab E l) rfl (hR.kill l) (new := new) hn (fun l k => k) h2 h3 hvs hvsz rfl rfl zs1 hcap hcm
                    refine ⟨_, E', .inl (hex _ _ ?_), e2, ?_, e4, e5⟩
                    · rw [hA, hrun, e1]
                    · rw [hHfin]
                      exact e3
              · cases hol
            · cases hol
          · injection hol with hol
            injection hol with hol1 hol2
            subst hol1; subst hol2
            simp only [VRep] at hs
            exact empty none E H hs rfl (Stab.refl E) rfl hR hn (fun l k => k) (fun H2 hH2 => by rw [hH2]; rfl)
          · injection hol with hol
            injection hol with hol1 hol2
            subst hol1; subst hol2
            simp only [VRep] at hs
            obtain ⟨A, hA⟩ := hs
            exact empty A E H hA rfl (Stab.refl E) rfl hR hn (fun l k => k) (fun H2 hH2 => by rw [hH2]; rfl)
          · cases hol
        · cases h
      · cases h
    · cases h
  · cases h
theorem xkr {P : Program} {C : Ctx} {E : Env} {H V : Nat → Option AO} (hR : HR C E H) (hV : SubH V H) {o : Oper} {ρ : Operand → Value} {new t : Nat} {os ox : Operand} {s x : AV} (hn : ¬ E.K new)
    (ho : o.op = .call { callee := .builtin .append, args := #[os, ox], argTypes := #[t, t] })
    (hs : VRep E s (ρ os)) (hx : VRep E x (ρ ox)) {v : AV} {us : Upds} (h : x0e P t V s x new = some (v, us)) : OpOut P o ρ C E H new v us :=
  xsj hR hV hn ho hs (fun _ _ _ hu hnews => xxw (P := P) hR hV hu hx hnews) h
end Go.Proofs.YtefdlpandfhcgaaGreatDoor.AL

