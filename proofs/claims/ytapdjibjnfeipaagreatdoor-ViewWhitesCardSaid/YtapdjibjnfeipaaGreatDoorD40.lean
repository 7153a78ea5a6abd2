/- A law of the given program is proved: part 40 of 51. -/
import Derived.Test.YtapdjibjnfeipaaGreatDoorD39
set_option linter.all false
/- Models of functions, and that the functions are as their models: written by gen.py. -/
set_option linter.all false
set_option maxRecDepth 100000
namespace Go.Proofs.YtapdjibjnfeipaaGreatDoor.AL
open Go Go.Proofs
end Go.Proofs.YtapdjibjnfeipaaGreatDoor.AL

/- Loops of models, in plain words. -/
set_option linter.all false
namespace Go.Proofs.YtapdjibjnfeipaaGreatDoor.AL
open Go Go.Proofs
theorem xbl {S ρ : Type} {B : S → Option (St S ρ)} {R : ρ → Prop} (I : Nat → S → Prop) (N : Nat) (hs : ∀ i s, I i s → i ≤ N ∧ ((∃ s', B s = some (.nx s') ∧ I (i + 1) s') ∨ ∃ r, B s = some (.out r) ∧ R r)) :
    ∀ (fuel i : Nat) (s : S), I i s → N < fuel + i → ∃ r, iter B fuel s = some r ∧ R r
  | 0, i, s, h, hf => by have := (hs i s h).1; omega
  | fuel + 1, i, s, h, hf => by
    rw [xag]
    rcases (hs i s h).2 with ⟨s', h1, h2⟩ | ⟨r, h1, h2⟩
    · rw [h1]
      exact xbl I N hs fuel (i + 1) s' h2 (by omega)
    · rw [h1]
      exact ⟨r, rfl, h2⟩
theorem big_eq : big = 1000000000000000000 := rfl
theorem ix_at {α : Type} {xs : List α} {i : Nat} (h : i < xs.length) : ix xs (i : Int) = some xs[i] := by
  unfold ix
  rw [if_pos (by omega)]
  simp [h]
theorem ix_of {α : Type} {xs : List α} {n : Int} (h0 : 0 ≤ n) (h : n < xs.length) : ix xs n = some (xs[n.toNat]'(by omega)) := by
  unfold ix
  rw [if_pos h0]
  simp
theorem wr_suc {i : Nat} (h : i < 4611686018427387904) : wr ((i : Int) + 1) = ((i + 1 : Nat) : Int) := by rw [wr_in (by omega) (by omega)]; omega
theorem ap_of {α : Type} {k : Nat} {xs ys : List α} (h : (xs.length + ys.length) * k ≤ 140737488355328) (hk : 0 < k) : ap k xs ys = some (xs ++ ys) := by
  unfold ap
  have : xs.length + ys.length ≤ (xs.length + ys.length) * k := Nat.le_mul_of_pos_right _ hk
  have h2 : xs.length + ys.length ≤ 9223372036854775807 := by omega
  rw [if_pos ⟨h, h2⟩]
theorem xir {α σ S ρ : Type} {B : S → Option (St S ρ)} (mk : Nat → σ → S) (xs : List α) (step : σ → α → σ) (fin : σ → ρ) (I : Nat → σ → Prop) (hs : ∀ i s (h : i < xs.length), I i s → B (mk i s) = some (.nx (mk (i + 1) (step s xs[i]))) ∧ I (i + 1) (step s xs[i]))
    (he : ∀ s, I xs.length s → B (mk xs.length s) = some (.out (fin s))) {s0 : σ} (h0 : I 0 s0) {fuel : Nat} (hf : xs.length < fuel) : iter B fuel (mk 0 s0) = some (fin (xs.foldl step s0)) ∧ I xs.length (xs.foldl step s0) := by
  have key : ∀ (d i : Nat) (s : σ) (fuel : Nat), d + i = xs.length → I i s → d < fuel → iter B fuel (mk i s) = some (fin ((xs.drop i).foldl step s)) ∧ I xs.length ((xs.drop i).foldl step s) := by
    intro d
    induction d with
    | zero =>
      intro i s fuel hd hi hf
      obtain rfl : i = xs.length := by omega
      cases fuel with
      | zero => omega
      | succ fuel =>
        rw [xag, he s hi]
        simp [hi]
    | succ d ih =>
      intro i s fuel hd hi hf
      cases fuel with
      | zero => omega
      | succ fuel =>
        have hlt : i < xs.length := by omega
        obtain ⟨h1, h2⟩ := hs i s hlt hi
        rw [xag, h1]
        have := ih (i + 1) _ fuel (by omega) h2 (by omega)
        rw [List.drop_eq_getElem_cons hlt]
        exact this
  have := key xs.length 0 s0 fuel (by omega) h0 hf
  simpa using this
theorem xng {α : Type} {p : α → Option Bool} {f : α → Bool} : ∀ (l : List α), (∀ x ∈ l, p x = some (f x)) → l.length < 1000000000000 → xoe p l = some (l.any f) := by
  have key : ∀ (l : List α) (i : Nat), (∀ x ∈ l, p x = some (f x)) → ∃ r, idxM p l i = some r ∧ (0 ≤ r ↔ l.any f = true) := by
    intro l
    induction l with
    | nil => intro i _; exact ⟨-1, rfl, by simp⟩
    | cons x l ih =>
      intro i h
      unfold idxM
      rw [h x (by simp)]
      simp only [Option.bind_some]
      by_cases hx : f x = true
      · rw [if_pos hx]; exact ⟨_, rfl, by simp [hx]⟩
      · rw [if_neg hx]
        obtain ⟨r, h1, h2⟩ := ih (i + 1) (fun y hy => h y (by simp [hy]))
        exact ⟨r, h1, by rw [h2]; simp [hx]⟩
  intro l h hl
  obtain ⟨r, h1, h2⟩ := key l 0 h
  unfold xoe indexM ck
  rw [if_pos (by omega)]
  simp only [Option.bind_some]
  rw [h1]
  simp only [Option.bind_some]
  congr 1
  cases ha : l.any f with
  | true => simp [h2.2 ha]
  | false =>
    have : ¬ 0 ≤ r := fun h => by have := h2.1 h; rw [ha] at this; cases this
    simp [this]
theorem xtu {α : Type} {p : α → Option Bool} (h : ∀ x, ∃ r, p x = some r) : ∃ f : α → Bool, ∀ x, p x = some (f x) := ⟨fun x => Classical.choose (h x), fun x => Classical.choose_spec (h x)⟩
end Go.Proofs.YtapdjibjnfeipaaGreatDoor.AL

/- Plain laws: the guard of chapter 16's statements. -/
set_option linter.all false
namespace Go.Proofs.YtapdjibjnfeipaaGreatDoor.AL
open Go Go.Proofs
theorem xp0 (n : Int) : ∃ r, xjd n = some r := by
  unfold xjd
  repeat' split
  all_goals exact ⟨_, rfl⟩
theorem xe2 (s : ByteArray) : ∃ r, xnf s = some r := by
  unfold xnf
  by_cases h1 : (s.size : Int) < 1
  · rw [if_pos h1]; exact ⟨_, rfl⟩
  rw [if_neg h1]
  by_cases h2 : 12 < (s.size : Int)
  · rw [if_pos h2]; exact ⟨_, rfl⟩
  rw [if_neg h2]
  split
  · exact ⟨_, rfl⟩
  split
  · exact ⟨_, rfl⟩
  obtain ⟨r, h3, _⟩ := xbl (B := xmf s) (R := fun _ => True) (fun i t => t = (i : Int) ∧ i ≤ s.size) s.size (by
    rintro i t ⟨rfl, hi⟩
    refine ⟨hi, ?_⟩
    simp only [xmf]
    by_cases hlt : i < s.size
    · rw [if_pos (by omega)]
      have hx : ixB s (i : Int) = some s[i] := by
        unfold ixB
        rw [if_pos (by omega)]
        simp [hlt]
      rw [hx]
      simp only [Option.bind_some]
      obtain ⟨r, hr⟩ := xp0 (s[i].toNat : Int)
      rw [hr]
      simp only [Option.bind_some]
      split
      · exact .inr ⟨_, rfl, trivial⟩
      · rw [wr_suc (by omega)]
        exact .inl ⟨_, rfl, rfl, by omega⟩
    · rw [if_neg (by omega)]
      exact .inr ⟨_, rfl, trivial⟩) big 0 0 ⟨rfl, by omega⟩ (by rw [big_eq]; omega)
  rw [h3]
  cases r with
  | inl u => exact ⟨_, rfl⟩
  | inr r => exact ⟨_, rfl⟩
theorem xz6 (e : Entry) : ∃ r, x2f e = some r := by
  unfold x2f
  obtain ⟨r, hr⟩ := xe2 e.name
  rw [hr]
  exact ⟨_, rfl⟩
structure NB (x : Node) : Prop where
  ents : x.entries.length ≤ 16
  has0 : 0 ≤ x.attr.has
  has1 : x.attr.has ≤ 31
theorem xov (x : Node) : ∃ r, x4e x = some r ∧ (r = true → NB x ∧ x.data.length ≤ 300) := by
  unfold x4e
  obtain ⟨r, h3, h4⟩ := xbl (B := x6f x) (R := fun r => match r with | .inl _ => True | .inr r => r = false) (fun i t => t = (i : Int) ∧ i ≤ x.entries.length ∧ ∀ (h : 0 < i) (h' : i - 1 < x.entries.length), (i : Int) - 1 ≤ x.entries[i - 1].slot ∧ x.entries[i - 1].slot < 16) 16 (by
    rintro i t ⟨rfl, hi, hp⟩
    refine ⟨?_, ?_⟩
    · by_cases h0 : 0 < i
      · have := hp h0 (by omega); omega
      · omega
    simp only [x6f]
    by_cases hlt : i < x.entries.length
    · have hi16 : i ≤ 16 := by
        by_cases h0 : 0 < i
        · have := hp h0 (by omega); omega
        · omega
      rw [if_pos (by omega), ix_at hlt]
      simp only [Option.bind_some]
      by_cases c1 : x.entries[i].slot < 0
      · rw [if_pos c1]; exact .inr ⟨_, rfl, rfl⟩
      rw [if_neg c1]
      by_cases c2 : 16 ≤ x.entries[i].slot
      · rw [if_pos c2]; exact .inr ⟨_, rfl, rfl⟩
      rw [if_neg c2]
      by_cases c3 : 0 < i
      · have hw : wr ((i : Int) - 1) = ((i - 1 : Nat) : Int) := by rw [wr_in (by omega) (by omega)]; omega
        have hlt' : i - 1 < x.entries.length := by omega
        rw [if_pos (by omega), hw, ix_at hlt']
        simp only [Option.bind_some]
        by_cases c4 : x.entries[i].slot ≤ x.entries[i - 1].slot
        · rw [if_pos c4]; exact .inr ⟨_, rfl, rfl⟩
        · rw [if_neg c4, wr_suc (by omega)]
          refine .inl ⟨_, rfl, rfl, by omega, fun h h' => ?_⟩
          have := hp c3 hlt'
          simp only [Nat.add_sub_cancel]
          omega
      · rw [if_neg (by omega), wr_suc (by omega)]
        refine .inl ⟨_, rfl, rfl, by omega, fun h h' => ?_⟩
        simp only [Nat.add_sub_cancel]
        omega
    · rw [if_neg (by omega)]
      exact .inr ⟨_, rfl, trivial⟩) big 0 0 ⟨rfl, by omega, fun h => by omega⟩ (by rw [big_eq]; omega)
  rw [h3]
  cases r with
  | inr r => simp only at h4; subst h4; exact ⟨_, rfl, fun h => by cases h⟩
  | inl u =>
    simp only [Option.bind_some]
    repeat' (first
      | exact ⟨_, rfl, fun h => by cases h⟩
      | split)
    rename_i c1 c2 c3 c4 c5 c6 c7 c8 c9
    obtain ⟨f, hf⟩ := xtu xz6
    rw [xng (f := f) x.entries (fun y _ => hf y) (by omega)]
    exact ⟨_, rfl, fun _ => ⟨⟨by omega, c5, c6⟩, by omega⟩⟩
theorem xk5 (x : Node) : ∃ r, x4e x = some r ∧ (r = true → NB x) := by
  obtain ⟨r, h1, h2⟩ := xov x
  exact ⟨r, h1, fun h => (h2 h).1⟩
theorem xvn (b : Branch) (k : Int) (hk : k ≤ 1000) : ∃ r, x7d b k = some r ∧ (r = true → (b.nodes.length : Int) ≤ k ∧ ∀ x ∈ b.nodes, NB x ∧ x.data.length ≤ 300) := by
  unfold x7d
  by_cases h : (b.nodes.length : Int) ≤ k
  · rw [if_pos h]
    have ht : ∀ x, ∃ r, xxc x = some r := fun x => by
      obtain ⟨r, h1, _⟩ := xk5 x
      unfold xxc
      rw [h1]
      exact ⟨_, rfl⟩
    obtain ⟨f, hf⟩ := xtu ht
    rw [xng (f := f) b.nodes (fun y _ => hf y) (by omega)]
    refine ⟨_, rfl, fun hr => ⟨by omega, fun x hx => ?_⟩⟩
    have hx' : f x = false := by
      simp only [Bool.not_eq_true', List.any_eq_false] at hr
      simpa using hr x hx
    obtain ⟨r, h1, h2⟩ := xov x
    have := hf x
    unfold xxc at this
    rw [h1, hx'] at this
    simp only [Option.bind_some, Option.some.injEq, Bool.not_eq_false'] at this
    exact h2 this
  · rw [if_neg h]
    exact ⟨_, rfl, fun h => by cases h⟩
structure SB (s : Stack) : Prop where
  low : s.lowers.length ≤ 3
  up : s.upper.nodes.length ≤ 24 ∧ ∀ x ∈ s.upper.nodes, NB x
  lows : ∀ b ∈ s.lowers, b.nodes.length ≤ 24 ∧ ∀ x ∈ b.nodes, NB x
structure SD (s : Stack) (k : Int) : Prop where
  few : (s.upper.nodes.length : Int) ≤ k
  data : ∀ x ∈ s.upper.nodes, x.data.length ≤ 300
  datas : ∀ b ∈ s.lowers, (b.nodes.length : Int) ≤ k ∧ ∀ x ∈ b.nodes, x.data.length ≤ 300
theorem xt0 (s : Stack) (k : Int) (hk : k ≤ 24) : ∃ r, xqf s k = some r ∧ (r = true → SB s ∧ SD s k) := by
  unfold xqf
  by_cases h : (s.lowers.length : Int) ≤ 3
  · rw [if_pos h]
    obtain ⟨r, h1, h2⟩ := xvn s.upper k (by omega)
    rw [h1]
    simp only [Option.bind_some]
    cases r with
    | false => exact ⟨false, by simp, fun h => by cases h⟩
    | true =>
      rw [if_pos rfl]
      have ht : ∀ x, ∃ r, xcd x k = some r := fun x => by
        obtain ⟨r, h1, _⟩ := xvn x k (by omega)
        unfold xcd
        rw [h1]
        exact ⟨_, rfl⟩
      obtain ⟨f, hf⟩ := xtu ht
      rw [xng (f := f) s.lowers (fun y _ => hf y) (by omega)]
      refine ⟨_, rfl, fun hr => ?_⟩
      have hu := h2 rfl
      have hl : ∀ x ∈ s.lowers, (x.nodes.length : Int) ≤ k ∧ ∀ y ∈ x.nodes, NB y ∧ y.data.length ≤ 300 := fun x hx => by
        have hx' : f x = false := by
          simp only [Bool.not_eq_true', List.any_eq_false] at hr
          simpa using hr x hx
        obtain ⟨r, h1, h2⟩ := xvn x k (by omega)
        have := hf x
        unfold xcd at this
        rw [h1, hx'] at this
        simp only [Option.bind_some, Option.some.injEq, Bool.not_eq_false'] at this
        exact h2 this
      exact ⟨⟨by omega, ⟨by omega, fun x hx => (hu.2 x hx).1⟩, fun b hb => ⟨by have := (hl b hb).1; omega, fun x hx => ((hl b hb).2 x hx).1⟩⟩, ⟨hu.1, fun x hx => (hu.2 x hx).2, fun b hb => ⟨(hl b hb).1, fun x hx => ((hl b hb).2 x hx).2⟩⟩⟩
  · rw [if_neg h]
    exact ⟨_, rfl, fun h => by cases h⟩
end Go.Proofs.YtapdjibjnfeipaaGreatDoor.AL

/- slices.Sort and slices.Compact of strings: rows that are turned in place, by the kit's contracts. -/
set_option linter.all false
namespace Go.Proofs.YtapdjibjnfeipaaGreatDoor.AL
open Go Go.Proofs Go.RowKit Go.Sort
def bl (b : ByteArray) : List UInt8 := b.data.toList
theorem enc_bl (b : ByteArray) : encStr (bl b) = .string b := by
  cases b; simp [encStr, bl]
theorem x3y {E : Env} : ∀ {bs : List ByteArray} {us : List Value}, VReps E (bs.map str) us → us = bs.map Value.string
  | [], us, h => by simpa only [List.map_nil, VReps] using h
  | b :: bs, us, h => by
    simp only [List.map_cons, VReps, VRep] at h
    obtain ⟨u, us', rfl, h2, rfl⟩ := h
    rw [x3y h2]; rfl
theorem xjy (E : Env) : ∀ (bs : List ByteArray), VReps E (bs.map str) (bs.map Value.string)
  | [] => .nil
  | b :: bs => .cons (by simp only [VRep]) (xjy E bs)
theorem xbt : ∀ (bs : List ByteArray), flatV (bs.map Value.string) = bs.map Value.string
  | [] => rfl
  | b :: bs => by
    have := xbt bs
    simp only [flatV] at this
    simp only [flatV, List.map_cons, List.flatMap_cons, this]
    rfl
theorem x3z (bs : List ByteArray) : closeds (bs.map str) = true := by
  induction bs with
  | nil => rfl
  | cons b bs ih => simp [closeds, closed, ih]
theorem xw1 {w : World} {b T : Nat} {cur : Array Value} {bs : List ByteArray} (h : w.heap[b]? = some (.cells cur T (0, 0))) (ht : cur.toList.take bs.length = bs.map Value.string) : Holds encStr w b 0 (bs.map bl).toArray := by
  intro j hj
  have hj' : j < bs.length := by simpa using hj
  constructor
  · have e : cur.toList[j]? = some (.string bs[j]) := by
      have := congrArg (fun l => l[j]?) ht
      simp only [List.getElem?_take, List.getElem?_map, hj', if_true, List.getElem?_eq_getElem, Option.map_some] at this
      exact this
    show (match w.heap[b]? with | some (.cells c _ _) => (if (none : Option Nat).isSome then none else c[0 + j]?) | _ => none) = _
    rw [h]
    simp only [Option.isSome_none, Bool.false_eq_true, if_false, Nat.zero_add]
    rw [← Array.getElem?_toList, e]
    simp [hj', enc_bl]
  · show (match w.heap[b]? with | some (.cells _ _ (lo, hi)) => (decide (lo ≤ 0 + j) && decide (0 + j < hi)) | _ => false) = false
    rw [h]
    simp
theorem xc0 {P : Program} {f : FuncId} {l T : Nat} {bs ys : List ByteArray} (rv : Option Addr → Nat → Value) (r : AV) (hcall : callable P f = true)
    (hr : ∀ E A c, E.K l → ys.length ≤ c → (0 < ys.length → ∃ b0, A = some ⟨b0, 0, none⟩) → (∀ b c', E.L l = some (some (b, c')) → A = some ⟨b, 0, none⟩ ∧ c = c') → (E.L l = some none → ys.length = 0 ∧ c = 0) → VRep E r (rv A c))
    (hlen : ys.length ≤ bs.length)
    (hC : ∀ b c w, Holds encStr w b 0 (bs.map bl).toArray → b < w.heap.size → bs.length ≤ c → c ≤ maxLen → Calls P f #[.slice (some ⟨b, 0, none⟩) bs.length c] w fun e w' => e = .returned (rv (some ⟨b, 0, none⟩) c) ∧ ∃ (q : Nat) (os : Array Obj) (d : List (List UInt8)), w' = Sort.grow (putRow encStr (Sort.ahead w q) b 0 d.toArray) os ∧ d.length = bs.length ∧ d.take ys.length = ys.map bl)
    (hN : bs = [] → ∀ A c w, Calls P f #[.slice A 0 c] w fun e w' => e = .returned (rv A c) ∧ w' = w) : OkI P f l [.msl l bs.length] r T 1 (bs.map str) (ys.map str) := by
  refine ⟨x3z ys, fun H nx hl hH => ⟨hcall, fun C E vals hR hK hv => ?_⟩⟩
  simp only [VReps] at hv
  obtain ⟨u, us', hu, rfl, rfl⟩ := hv
  simp only [VRep] at hu
  obtain ⟨A, c0, k1, rfl, k2, k3, k4, k5⟩ := hu
  obtain ⟨p, hp, ho⟩ := hR.live hH
  cases p with
  | none =>
    simp only [ORep, List.map_eq_nil_iff] at ho
    subst ho
    obtain ⟨_, rfl⟩ := k5 hp
    have hy : ys = [] := List.eq_nil_of_length_eq_zero (by simpa using hlen)
    subst hy
    refine (hN rfl A 0 E.w).mono ?_
    rintro e w' ⟨rfl, rfl⟩
    have hH' : upd H l (some (AO.row T 1 [])) = H := by
      funext j; simp only [upd_at]; split
      · rename_i e; subst e; exact hH.symm
      · rfl
    exact ⟨_, r, H, nx, E, rfl, ⟨rfl, hH, fun _ _ _ => rfl⟩, hr E A 0 k1 (Nat.zero_le _) (fun h => absurd h (by simp)) (fun b c e => by rw [hp] at e; cases e) (fun _ => ⟨rfl, rfl⟩), hR, Stab.refl E, Nat.le_refl _, fun l h => .inl h, rfl⟩
  | some bc =>
    obtain ⟨b, c⟩ := bc
    obtain ⟨rfl, rfl⟩ := k4 b c hp
    simp only [ORep] at ho
    obtain ⟨cur, us, h1, h2, h3, h4, h5, h6, h7⟩ := ho
    have hus := x3y h2
    subst hus
    simp only [List.length_map, Nat.mul_one] at h4 h6 h7
    rw [xbt] at h7
    have hold := hR.old l b c0 hp
    refine (hC b c0 E.w (xw1 h1 h7) hold.2 h4 h5).mono ?_
    rintro e w' ⟨rfl, q, os, d, rfl, hd1, hd2⟩
    -- the block
    let cur' := putCells encStr 0 d.toArray cur
    have hblk : (putRow encStr (Sort.ahead E.w q) b 0 d.toArray).heap[b]? = some (.cells cur' T (0, 0)) := by
      show (E.w.heap.modify b _)[b]? = _
      rw [Array.getElem?_modify, if_pos rfl, h1]; rfl
    have honly : Only E.w (putRow encStr (Sort.ahead E.w q) b 0 d.toArray) b := ⟨rfl, rfl, rfl, by show (E.w.heap.modify b _).size = _; simp, fun k hk => by show (E.w.heap.modify b _)[k]? = _; rw [Array.getElem?_modify, if_neg (by omega)]⟩
    have htake : cur'.toList.take ys.length = ys.map Value.string := by
      apply List.ext_getElem?
      intro j
      rw [List.getElem?_take]
      by_cases hj : j < ys.length
      · rw [if_pos hj]
        have hjd : j < d.length := by omega
        have hjc : j < cur.size := by omega
        have e1 : (d.take ys.length)[j]? = (ys.map bl)[j]? := by rw [hd2]
        rw [List.getElem?_take, if_pos hj, List.getElem?_eq_getElem hjd, List.getElem?_map, List.getElem?_eq_getElem hj] at e1
        have e2 : d[j] = bl ys[j] := by simpa using e1
        have e3 : cur'.toList[j]? = some (encStr d[j]) := by
          rw [Array.getElem?_toList]
          show (putCells encStr 0 d.toArray cur)[j]? = _
          unfold putCells
          rw [Array.getElem?_mapIdx, Array.getElem?_eq_getElem hjc]
          simp [hjd]
        rw [e3, e2, enc_bl, List.getElem?_map, List.getElem?_eq_getElem hj]
        rfl
      · rw [if_neg hj, List.getElem?_eq_none (by simpa using hj)]
    have hrep : ORep { E with w := putRow encStr (Sort.ahead E.w q) b 0 d.toArray } (some (b, c0)) (.row T 1 (ys.map str)) := by
      simp only [ORep]
      refine ⟨cur', ys.map Value.string, hblk, xjy _ ys, fun u hu => ?_, by simp only [List.length_map]; omega, h5, by show (putCells encStr 0 d.toArray cur).size = _; unfold putCells; rw [Array.size_mapIdx]; simpa using h6, by simp only [List.length_map, Nat.mul_one]; rw [xbt]; exact htake⟩
      obtain ⟨y, _, rfl⟩ := List.mem_map.1 hu
      exact ⟨rfl, by simp [Value.cells, Value.oneCell']⟩
    have hR1 := hR.only hp honly _ hrep
    have hS1 := Env.only_stab hR hp honly
    have hB : Below (putRow encStr (Sort.ahead E.w q) b 0 d.toArray).heap.size (putRow encStr (Sort.ahead E.w q) b 0 d.toArray) (Sort.grow (putRow encStr (Sort.ahead E.w q) b 0 d.toArray) os) :=
      ⟨rfl, rfl, rfl, by show _ ≤ (_ ++ os).size; simp, fun k hk => by show (_ ++ os)[k]? = _; rw [Array.getElem?_append_left hk]⟩
    obtain ⟨hR2, hS2⟩ := x2h hR1 hB
    let E1 : Env := { E with w := putRow encStr (Sort.ahead E.w q) b 0 d.toArray }
    let E2 : Env := { E1 with w := Sort.grow (putRow encStr (Sort.ahead E.w q) b 0 d.toArray) os, Z := fun b' => E1.Z b' ∨ (E1.w.heap.size ≤ b' ∧ b' < (Sort.grow (putRow encStr (Sort.ahead E.w q) b 0 d.toArray) os).heap.size) }
    refine ⟨_, r, _, nx, E2, rfl, ⟨rfl, upd_same _ _ _, fun j _ hj => upd_ne _ _ hj⟩, hr E2 _ c0 k1 (by omega) (fun h => ⟨b, rfl⟩) (fun b' c' e => ?_) (fun e => ?_), hR2, hS1.trans hS2, Nat.le_refl _, fun l h => .inl h, rfl⟩
    · have e' : E.L l = some (some (b', c')) := e
      rw [hp] at e'
      injection e' with e'
      injection e' with e'
      injection e' with e1 e2
      subst e1; subst e2
      exact ⟨rfl, rfl⟩
    · have e' : E.L l = some none := e
      rw [hp] at e'
      injection e' with e'
      cases e'
def leB (x y : ByteArray) : Bool := decide (bl x ≤ bl y)
def insB (x : ByteArray) : List ByteArray → List ByteArray
  | [] => [x]
  | y :: l => if leB x y = true then x :: y :: l else y :: insB x l
def sortB : List ByteArray → List ByteArray
  | [] => []
  | x :: l => insB x (sortB l)
theorem ba_ext {x y : ByteArray} (h : bl x = bl y) : x = y := by
  cases x; cases y
  simp only [bl] at h
  congr 1
  exact Array.toList_inj.1 h
theorem xy2 (x y : ByteArray) : leB x y = true ∨ leB y x = true := by
  simp only [leB, decide_eq_true_eq]
  exact List.le_total _ _
theorem xm2 {x y z : ByteArray} (h1 : leB x y = true) (h2 : leB y z = true) : leB x z = true := by
  simp only [leB, decide_eq_true_eq] at *
  exact List.le_trans h1 h2
theorem xqr (x : ByteArray) : ∀ l, (insB x l).Perm (x :: l)
  | [] => List.Perm.refl _
  | y :: l => by
    unfold insB
    split
    · exact List.Perm.refl _
    · exact ((xqr x l).cons y).trans (List.Perm.swap x y l)
theorem xhf : ∀ l, (sortB l).Perm l
  | [] => List.Perm.refl _
  | x :: l => (xqr x (sortB l)).trans ((xhf l).cons x)
theorem xjs (x : ByteArray) : ∀ l, l.Pairwise (fun a b => leB a b = true) → (insB x l).Pairwise (fun a b => leB a b = true)
  | [], _ => by simp [insB]
  | y :: l, h => by
    unfold insB
    rw [List.pairwise_cons] at h
    split
    · rename_i hx
      refine List.pairwise_cons.2 ⟨fun z hz => ?_, List.pairwise_cons.2 h⟩
      rcases List.mem_cons.1 hz with rfl | hz
      · exact hx
      · exact xm2 hx (h.1 z hz)
    · rename_i hx
      refine List.pairwise_cons.2 ⟨fun z hz => ?_, xjs x l h.2⟩
      rcases List.mem_cons.1 ((xqr x l).mem_iff.1 hz) with rfl | hz
      · exact (xy2 _ _).resolve_left hx
      · exact h.1 z hz
theorem xpm : ∀ l, (sortB l).Pairwise (fun a b => leB a b = true)
  | [] => List.Pairwise.nil
  | x :: l => xjs x _ (xpm l)
theorem xsz (l : List ByteArray) : (l.map bl).mergeSort (fun x y => decide (x ≤ y)) = (sortB l).map bl := by
  have h1 : ((l.map bl).mergeSort (fun x y => decide (x ≤ y))).Pairwise (fun a b => a ≤ b) := by
    have := List.pairwise_mergeSort (le := fun x y : List UInt8 => decide (x ≤ y)) (fun a b c h1 h2 => by simp only [decide_eq_true_eq] at *; exact List.le_trans h1 h2) (fun a b => by simpa using List.le_total a b) (l.map bl)
    exact this.imp (by intro a b h; simpa using h)
  have h2 : ((sortB l).map bl).Pairwise (fun a b => a ≤ b) := by
    rw [List.pairwise_map]
    exact (xpm l).imp (by intro a b h; simpa [leB] using h)
  refine List.Perm.eq_of_pairwise (le := fun a b : List UInt8 => a ≤ b) (fun a b _ _ h1 h2 => List.le_antisymm h1 h2) h1 h2 ?_
  exact (List.mergeSort_perm _ _).trans (((xhf l).map bl).symm)
theorem x4i (d : Array (List UInt8)) (x : List UInt8) : ∀ m, x ∈ Lib.compactUpTo d m ↔ ∃ j, j < m ∧ d[j]! = x
  | 0 => by simp [Lib.compactUpTo]
  | m + 1 => by
    rw [Lib.compactUpTo_succ, List.mem_append, x4i d x m]
    constructor
    · rintro (⟨j, h1, h2⟩ | h)
      · exact ⟨j, by omega, h2⟩
      · split at h
        · exact ⟨m, by omega, (List.mem_singleton.1 h).symm⟩
        · cases h
    · rintro ⟨j, h1, h2⟩
      by_cases hj : j < m
      · exact .inl ⟨j, hj, h2⟩
      · have : j = m := by omega
        subst this
        by_cases hk : Lib.keeps d j = true
        · rw [if_pos hk]; exact .inr (by simp [h2])
        · unfold Lib.keeps at hk
          simp only [decide_eq_true_eq, not_or, ne_eq, Decidable.not_not] at hk
          exact .inl ⟨j - 1, by omega, by rw [← hk.2]; exact h2⟩
theorem xhl (d : Array (List UInt8)) (hs : ∀ i j, i < j → j < d.size → d[i]! ≤ d[j]!) : ∀ m, m ≤ d.size → (Lib.compactUpTo d m).Pairwise (· < ·)
  | 0, _ => by simp [Lib.compactUpTo]
  | m + 1, hm => by
    rw [Lib.compactUpTo_succ, List.pairwise_append]
    refine ⟨xhl d hs m (by omega), by split <;> simp, fun x hx y hy => ?_⟩
    split at hy
    · rename_i hk
      obtain rfl : y = d[m]! := by simpa using hy
      obtain ⟨j, hj, rfl⟩ := (x4i d x m).1 hx
      unfold Lib.keeps at hk
      simp only [decide_eq_true_eq, ne_eq] at hk
      have hne : ¬ d[m]! = d[m - 1]! := hk.resolve_left (by omega)
      have h1 : d[m - 1]! ≤ d[m]! := hs _ _ (by omega) (by omega)
      have h2 : d[j]! ≤ d[m - 1]! := by
        by_cases e : j = m - 1
        · rw [e]; exact List.le_refl _
        · exact hs _ _ (by omega) (by omega)
      have h3 : d[m - 1]! < d[m]! := by
        rcases Decidable.em (d[m - 1]! < d[m]!) with h | h
        · exact h
        · exact absurd (List.le_antisymm (List.not_lt.1 h) h1) hne
      exact List.lt_of_le_of_lt h2 h3
    · cases hy
def unB (l : List UInt8) : ByteArray := ⟨l.toArray⟩
theorem bl_unB (l : List UInt8) : bl (unB l) = l := by simp [bl, unB]
theorem unB_bl (b : ByteArray) : unB (bl b) = b := by cases b; simp [bl, unB]
def cmpB (l : List ByteArray) : List ByteArray := (Lib.compact (l.map bl)).map unB
theorem x5z (l : List ByteArray) : (cmpB l).map bl = Lib.compact (l.map bl) := by
  unfold cmpB
  rw [List.map_map]
  conv => rhs; rw [← List.map_id (Lib.compact (l.map bl))]
  exact List.map_congr_left fun x _ => bl_unB x
theorem xpz (zs : List (List UInt8)) : (Lib.compact zs).length ≤ zs.length := by
  unfold Lib.compact Lib.compactUpTo
  rw [List.length_map]
  exact Nat.le_trans (List.length_filter_le _ _) (by simp)
theorem xdt (l : List ByteArray) : (cmpB l).length ≤ l.length := by
  have := xpz (l.map bl)
  unfold cmpB
  simpa using this
theorem xd4 (l : List ByteArray) (x : ByteArray) : x ∈ cmpB l ↔ x ∈ l := by
  have h1 : x ∈ cmpB l ↔ bl x ∈ Lib.compact (l.map bl) := by
    unfold cmpB
    rw [List.mem_map]
    constructor
    · rintro ⟨y, hy, rfl⟩; rwa [bl_unB]
    · intro h; exact ⟨_, h, unB_bl x⟩
  rw [h1]
  unfold Lib.compact
  rw [x4i]
  constructor
  · rintro ⟨j, hj, h⟩
    have hj' : j < l.length := by simpa using hj
    have : bl l[j] = bl x := by simpa [hj'] using h
    exact ba_ext this ▸ List.getElem_mem hj'
  · intro h
    obtain ⟨j, hj, rfl⟩ := List.getElem_of_mem h
    exact ⟨j, by simpa using hj, by simp [hj]⟩
theorem xgz (l : List ByteArray) (h : l.Pairwise (fun a b => leB a b = true)) : (cmpB l).Pairwise (fun a b => bl a < bl b) := by
  have := xhl (l.map bl).toArray (fun i j hij hj => by
    have hj' : j < l.length := by simpa using hj
    have hi' : i < l.length := by omega
    have := List.pairwise_iff_getElem.1 h i j hi' hj' hij
    simpa [leB, hi', hj'] using this) (l.map bl).length (by simp)
  have h2 : ((cmpB l).map bl).Pairwise (· < ·) := by
    rw [x5z]; exact this
  rwa [List.pairwise_map] at h2
def xrb (xs : List ByteArray) : Option (List ByteArray) := (ck (xs.length < 4611686018427387904)).bind fun _ => some (sortB xs)
def xcc (xs : List ByteArray) : Option (List ByteArray) := (ck (xs.length ≤ 9223372036854775807)).bind fun _ => some (cmpB xs)
theorem x04 {T l : Nat} (xs r : List ByteArray) (h : xrb xs = some r) : OkI Tryz.prog 80 l [.msl l xs.length] (.tup []) T 1 (xs.map str) (r.map str) := by
  unfold xrb at h
  obtain ⟨h1, h2⟩ := ckE h
  obtain rfl := Option.some.inj h2
  refine xc0 (fun _ _ => .tuple #[]) _ (by kernel_rfl) (fun E A c _ _ _ _ _ => by simp only [VRep, VReps]; exact ⟨[], rfl, rfl⟩) (by rw [(xhf xs).length_eq]; exact Nat.le_refl _) ?_ ?_
  · intro b c w hH hb hc hm
    have := Tryz.slices_Sort_string b 0 c (xs.map bl) w hH hb (by simpa using h1)
    rw [List.length_map] at this
    refine this.mono ?_
    rintro e w' ⟨rfl, n, os, rfl⟩
    refine ⟨rfl, n, os, _, rfl, by rw [List.length_mergeSort]; simp, ?_⟩
    rw [xsz, List.take_of_length_le (by simp)]
  · rintro rfl A c w
    exact Tryz.slices_Sort_string_none A c w
theorem x71 {xs r : List ByteArray} (h : xrb xs = some r) : xs.length = r.length := by
  unfold xrb at h
  obtain ⟨h1, h2⟩ := ckE h
  obtain rfl := Option.some.inj h2
  exact (xhf xs).length_eq.symm
theorem xcz {T l : Nat} (xs r : List ByteArray) (h : xcc xs = some r) : OkI Tryz.prog 81 l [.msl l xs.length] (.msl l r.length) T 1 (xs.map str) (r.map str) := by
  unfold xcc at h
  obtain ⟨h1, h2⟩ := ckE h
  obtain rfl := Option.some.inj h2
  have hcl : (Lib.compact (xs.map bl)).length = (cmpB xs).length := by simp [cmpB]
  refine xc0 (fun A c => .slice A (cmpB xs).length c) _ (by kernel_rfl) (fun E A c k1 k2 k3 k4 k5 => by simp only [VRep]; exact ⟨A, c, k1, rfl, k3, k2, k4, k5⟩) (xdt xs) ?_ ?_
  · intro b c w hH hb hc hm
    have := Tryz.slices_Compact_string b 0 c (xs.map bl) w hH (by simpa using h1) (by simpa using hc)
    rw [List.length_map, hcl] at this
    refine this.mono ?_
    rintro e w' ⟨rfl, q, rfl⟩
    refine ⟨rfl, q, #[], _, (Sort.grow_empty _).symm, ?_, ?_⟩
    · have := xdt xs
      simp [hcl]; omega
    · rw [List.take_append_of_le_length (by omega), x5z, List.take_of_length_le (by omega)]
  · rintro rfl A c w
    exact Tryz.slices_Compact_string_empty A c w
end Go.Proofs.YtapdjibjnfeipaaGreatDoor.AL

/- Models of functions, and that the functions are as their models: written by gen.py. -/
set_option linter.all false
set_option maxRecDepth 100000
namespace Go.Proofs.YtapdjibjnfeipaaGreatDoor.AL
open Go Go.Proofs
def xjc (a0 : List ByteArray) : Option (List ByteArray) := (cloneM 16 a0).bind fun v1 => (xrb v1).bind fun v3 => (xcc v3).bind fun v6 => some v6
def xvf := aI (@EV) (aI (@R9) (@R42))
end Go.Proofs.YtapdjibjnfeipaaGreatDoor.AL

/- name.Sort hands back a row of its own. -/
set_option linter.all false
namespace Go.Proofs.YtapdjibjnfeipaaGreatDoor.AL
open Go Go.Proofs
theorem xkl (a0 : List ByteArray) (r : List ByteArray) (hm0 : xjc a0 = some r) : OkO Tryz.prog 50 [.sl 1 (a0.map str)] 9 1 (r.map str) := by
 refine ⟨x3z r, fun H nx => ?_⟩
 unfold xjc at hm0
 refine acallF xkx (by simp) ?_
 unfold xqs
 obtain ⟨v1, h2, hm0⟩ := bsE hm0
 simp only [xvf, ↓EVd, isCall, sevalprocAttr]
 refine qco (xmv xpj x9c aggN_9 x9t zero_9 rfl (by decide) str _ _ h2 (fun z => by simp only [CLO])) rfl ?_
 obtain ⟨v3, h4, hm0⟩ := bsE hm0
 have e5 := x71 h4
 simp only [xvf, ↓EVd, isCall, sevalprocAttr]
 refine qci (x04 (T := 9) _ _ h4) rfl (by omega) (by simp only [FZ, CLO, xvf, ↓EVd, isCall, sevalprocAttr]) (fun _ _ => by simp only [inK, inKs]) ?_
 obtain ⟨v6, h7, hm0⟩ := bsE hm0
 simp only [e5, xvf, ↓EVd, isCall, sevalprocAttr]
 refine qci (xcz (T := 9) _ _ h7) rfl (by omega) (by simp only [e5, FZ, CLO, xvf, ↓EVd, isCall, sevalprocAttr]) (fun _ hh => by simpa only [inK] using hh) ?_
 obtain rfl := Option.some.inj hm0
 simp only [e5, xvf, ↓EVd, isCall, sevalprocAttr]
 refine .inr ⟨nx + 4, by omega, rfl, if_pos rfl, fun j hj => ?_⟩
 have hne : ¬ j = nx + 4 := by omega
 rw [if_neg hne, if_neg hne, if_neg hne]
end Go.Proofs.YtapdjibjnfeipaaGreatDoor.AL

