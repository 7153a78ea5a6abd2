/- A law of the given program is proved: part 42 of 55. -/
import Derived.Test.YtnmljicimdhpmaaG41
set_option linter.all false
/- Plain laws, part 1: loops; the walk. -/
set_option linter.all false
namespace Go.Proofs.Ytnmljicimdhpmaa.AL
open Go Go.Proofs

/-! ### Loops -/
theorem iter_term {S ρ : Type} {B : S → Option (St S ρ)} {R : ρ → Prop} (I : Nat → S → Prop) (N : Nat) (hs : ∀ i s, I i s → i ≤ N ∧ ((∃ s', B s = some (.nx s') ∧ I (i + 1) s') ∨ ∃ r, B s = some (.out r) ∧ R r)) :
    ∀ (fuel i : Nat) (s : S), I i s → N < fuel + i → ∃ r, iter B fuel s = some r ∧ R r
  | 0, i, s, h, hf => by have := (hs i s h).1; omega
  | fuel + 1, i, s, h, hf => by
    rw [iter_succ]
    rcases (hs i s h).2 with ⟨s', h1, h2⟩ | ⟨r, h1, h2⟩
    · rw [h1]
      exact iter_term I N hs fuel (i + 1) s' h2 (by omega)
    · rw [h1]
      exact ⟨r, rfl, h2⟩
theorem big_eq : big = 1000000000000000000 := rfl
theorem ix_at {α : Type} {xs : List α} {i : Nat} (h : i < xs.length) : ix xs (i : Int) = some xs[i] := by
  unfold ix
  rw [if_pos (by omega)]
  simp [h]
theorem ix_of {α : Type} {xs : List α} {n : Int} (h0 : 0 ≤ n) (h : n < xs.length) : ix xs n = some (xs[n.toNat]'(by omega)) := by
  unfold ix
  rw [if_pos h0]
  simp
theorem wr_suc {i : Nat} (h : i < 4611686018427387904) : wr ((i : Int) + 1) = ((i + 1 : Nat) : Int) := by rw [wr_in (by omega) (by omega)]; omega
theorem ap_of {α : Type} {k : Nat} {xs ys : List α} (h : (xs.length + ys.length) * k ≤ 140737488355328) (hk : 0 < k) : ap k xs ys = some (xs ++ ys) := by
  unfold ap
  have : xs.length + ys.length ≤ (xs.length + ys.length) * k := Nat.le_mul_of_pos_right _ hk
  have h2 : xs.length + ys.length ≤ 9223372036854775807 := by omega
  rw [if_pos ⟨h, h2⟩]
/-- Over the places of a list, from the first to the last. -/
theorem iter_fold {α σ S ρ : Type} {B : S → Option (St S ρ)} (mk : Nat → σ → S) (xs : List α) (step : σ → α → σ) (fin : σ → ρ) (I : Nat → σ → Prop) (hs : ∀ i s (h : i < xs.length), I i s → B (mk i s) = some (.nx (mk (i + 1) (step s xs[i]))) ∧ I (i + 1) (step s xs[i]))
    (he : ∀ s, I xs.length s → B (mk xs.length s) = some (.out (fin s))) {s0 : σ} (h0 : I 0 s0) {fuel : Nat} (hf : xs.length < fuel) : iter B fuel (mk 0 s0) = some (fin (xs.foldl step s0)) ∧ I xs.length (xs.foldl step s0) := by
  have key : ∀ (d i : Nat) (s : σ) (fuel : Nat), d + i = xs.length → I i s → d < fuel → iter B fuel (mk i s) = some (fin ((xs.drop i).foldl step s)) ∧ I xs.length ((xs.drop i).foldl step s) := by
    intro d
    induction d with
    | zero =>
      intro i s fuel hd hi hf
      obtain rfl : i = xs.length := by omega
      cases fuel with
      | zero => omega
      | succ fuel =>
        rw [iter_succ, he s hi]
        simp [hi]
    | succ d ih =>
      intro i s fuel hd hi hf
      cases fuel with
      | zero => omega
      | succ fuel =>
        have hlt : i < xs.length := by omega
        obtain ⟨h1, h2⟩ := hs i s hlt hi
        rw [iter_succ, h1]
        have := ih (i + 1) _ fuel (by omega) h2 (by omega)
        rw [List.drop_eq_getElem_cons hlt]
        exact this
  have := key xs.length 0 s0 fuel (by omega) h0 hf
  simpa using this
/-- While there is more. -/
def wl {σ : Type} (step : Nat → σ → σ) (len : σ → Nat) : Nat → Nat → σ → Nat × σ
  | 0, k, s => (k, s)
  | f + 1, k, s => if k < len s then wl step len f (k + 1) (step k s) else (k, s)
theorem iter_wl {σ S ρ : Type} {B : S → Option (St S ρ)} (mk : Nat → σ → S) (step : Nat → σ → σ) (len : σ → Nat) (fin : Nat → σ → ρ) (I : Nat → σ → Prop) (N : Nat) (hN : ∀ k s, I k s → k ≤ len s ∧ len s ≤ N)
    (hs : ∀ k s, I k s → k < len s → B (mk k s) = some (.nx (mk (k + 1) (step k s))) ∧ I (k + 1) (step k s)) (he : ∀ k s, I k s → ¬ k < len s → B (mk k s) = some (.out (fin k s))) :
    ∀ (f k : Nat) (s : σ) (fuel : Nat), I k s → N < f + k → N < fuel + k → iter B fuel (mk k s) = some (fin (wl step len f k s).1 (wl step len f k s).2) ∧ I (wl step len f k s).1 (wl step len f k s).2 ∧ (wl step len f k s).1 = len (wl step len f k s).2
  | 0, k, s, fuel, hi, hf, hg => by have := hN k s hi; omega
  | f + 1, k, s, fuel, hi, hf, hg => by
    obtain ⟨n1, n2⟩ := hN k s hi
    cases fuel with
    | zero => omega
    | succ fuel =>
      rw [iter_succ]
      unfold wl
      by_cases h : k < len s
      · obtain ⟨h1, h2⟩ := hs k s hi h
        rw [if_pos h, h1]
        exact iter_wl mk step len fin I N hN hs he f (k + 1) _ fuel h2 (by omega) (by omega)
      · rw [if_neg h, he k s hi h]
        exact ⟨rfl, hi, by show k = len s; omega⟩
/-! ### Nodes -/
def zeroNode : Node := ⟨0, 0, 0, 0, [], [], ⟨0, 0, noBytes, ⟨0, 0, 0⟩, 0⟩⟩
def nodeP (b : Branch) (ino : Int) : Node := if ino < 1 then zeroNode else if (b.nodes.length : Int) < ino then zeroNode else (b.nodes[(ino - 1).toNat]?).getD zeroNode
structure PB (b : Branch) : Prop where
  len : b.nodes.length ≤ 24
  ents : ∀ x ∈ b.nodes, x.entries.length ≤ 16
theorem at_eq {b : Branch} (hb : PB b) (ino : Int) : m_ref13_At b ino = some (nodeP b ino) := by
  unfold m_ref13_At nodeP
  split
  · rfl
  · split
    · rfl
    · rename_i h1 h2
      have := hb.len
      rw [wr_in (by omega) (by omega), ix_of (by omega) (by omega)]
      have hlt : (ino - 1).toNat < b.nodes.length := by omega
      simp only [Option.bind_some, List.getElem?_eq_getElem hlt, Option.getD_some]
theorem nodeP_ents {b : Branch} (hb : PB b) (ino : Int) : (nodeP b ino).entries.length ≤ 16 := by
  unfold nodeP
  split
  · simp [zeroNode]
  · split
    · simp [zeroNode]
    · rename_i h1 h2
      have hlt : (ino - 1).toNat < b.nodes.length := by omega
      simp only [List.getElem?_eq_getElem hlt, Option.getD_some]
      exact hb.ents _ (List.getElem_mem hlt)
theorem nodeP_kind {b : Branch} {ino : Int} (h : (nodeP b ino).kind = 1) : 1 ≤ ino ∧ ino ≤ (b.nodes.length : Int) := by
  unfold nodeP at h
  split at h
  · simp [zeroNode] at h
  · split at h
    · simp [zeroNode] at h
    · omega
/-! ### The walk -/
def seenB (ways : List Way) (ino : Int) : Bool := ways.any fun w => decide (w.ino = ino)
abbrev WS := List Way × List Ar2_Int
def eStep (b : Branch) (k : Nat) (ino : Int) (s : WS) (e : Entry) : WS :=
  if (nodeP b e.ino).kind = 1 then if seenB s.1 e.ino = true then (s.1, s.2 ++ [⟨ino, e.slot⟩]) else (s.1 ++ [⟨e.ino, k, e.name⟩], s.2) else s
def wIno (s : WS) (k : Nat) : Int := ((s.1[k]?).getD default).ino
def wStep (b : Branch) (k : Nat) (s : WS) : WS := (nodeP b (wIno s k)).entries.foldl (eStep b k (wIno s k)) s
def wLoop (b : Branch) (k : Nat) (s : WS) : Nat × WS := wl (wStep b) (fun s => s.1.length) 25 k s
def fStep (b : Branch) (t : Nat × WS) (r : Int) : Nat × WS :=
  if (nodeP b r).kind = 1 ∧ seenB t.2.1 r = false then wLoop b t.1 (t.2.1 ++ [⟨r, -1, noBytes⟩], t.2.2) else t
def walkP (b : Branch) (fr : List Int) : Nat × WS := fr.foldl (fStep b) (0, [], [])
/-- Each directory once. -/
structure WI (b : Branch) (ways : List Way) : Prop where
  nd : (ways.map (·.ino)).Nodup
  dir : ∀ w ∈ ways, (nodeP b w.ino).kind = 1
theorem nat_nodup_le : ∀ (n : Nat) (l : List Nat), l.Nodup → (∀ x ∈ l, x < n) → l.length ≤ n
  | 0, l, _, h => by
    cases l with
    | nil => simp
    | cons x l => have := h x (by simp); omega
  | n + 1, l, hd, h => by
    have h1 := nat_nodup_le n (l.erase n) (hd.erase n) (fun x hx => by
      have := (List.Nodup.mem_erase_iff hd).1 hx
      have := h x this.2
      omega)
    have := List.length_erase (a := n) (l := l)
    split at this <;> omega
theorem WI.len {b : Branch} {ways : List Way} (h : WI b ways) : ways.length ≤ b.nodes.length := by
  have h1 : (ways.map fun w => (w.ino - 1).toNat).Nodup := by
    refine List.pairwise_map.2 (List.Pairwise.imp_of_mem ?_ (List.pairwise_map.1 h.nd))
    intro x y hx hy hne e
    have := nodeP_kind (h.dir x hx)
    have := nodeP_kind (h.dir y hy)
    omega
  have := nat_nodup_le b.nodes.length _ h1 (fun x hx => by
    obtain ⟨w, hw, rfl⟩ := List.mem_map.1 hx
    have := nodeP_kind (h.dir w hw)
    omega)
  simpa using this
theorem seenB_iff {ways : List Way} {ino : Int} : seenB ways ino = true ↔ ∃ w ∈ ways, w.ino = ino := by simp [seenB]
theorem WI.push {b : Branch} {ways : List Way} (h : WI b ways) {w : Way} (hk : (nodeP b w.ino).kind = 1) (hs : seenB ways w.ino = false) : WI b (ways ++ [w]) := by
  refine ⟨?_, ?_⟩
  · rw [List.map_append, List.map_cons, List.map_nil]
    refine List.nodup_append.2 ⟨h.nd, by simp, ?_⟩
    intro x hx y hy e
    simp only [List.mem_singleton] at hy
    subst hy; subst e
    obtain ⟨w', hw', e⟩ := List.mem_map.1 hx
    have : seenB ways w.ino = true := seenB_iff.2 ⟨w', hw', e⟩
    rw [hs] at this; cases this
  · intro x hx
    rcases List.mem_append.1 hx with hx | hx
    · exact h.dir x hx
    · simp only [List.mem_singleton] at hx; subst hx; exact hk
/-- What an entry leaves. -/
theorem eStep_inv {b : Branch} {k : Nat} {ino : Int} {s : WS} {e : Entry} (h : WI b s.1) : WI b (eStep b k ino s e).1 ∧ s.1.length ≤ (eStep b k ino s e).1.length ∧ (eStep b k ino s e).2.length ≤ s.2.length + 1 ∧ (∀ j, j < s.1.length → (eStep b k ino s e).1[j]? = s.1[j]?) := by
  unfold eStep
  split
  · rename_i hk
    split
    · exact ⟨h, Nat.le_refl _, by simp, fun _ _ => rfl⟩
    · rename_i hs
      refine ⟨h.push (w := ⟨e.ino, k, e.name⟩) hk (by simpa using hs), by simp, by simp, fun j hj => List.getElem?_append_left hj⟩
  · exact ⟨h, Nat.le_refl _, by omega, fun _ _ => rfl⟩
theorem eFold_inv {b : Branch} {k : Nat} {ino : Int} : ∀ (es : List Entry) {s : WS}, WI b s.1 → WI b (es.foldl (eStep b k ino) s).1 ∧ s.1.length ≤ (es.foldl (eStep b k ino) s).1.length ∧ (es.foldl (eStep b k ino) s).2.length ≤ s.2.length + es.length ∧ (∀ j, j < s.1.length → (es.foldl (eStep b k ino) s).1[j]? = s.1[j]?)
  | [], s, h => ⟨h, Nat.le_refl _, by simp, fun _ _ => rfl⟩
  | e :: es, s, h => by
    obtain ⟨a1, a2, a3, a4⟩ := eStep_inv (k := k) (ino := ino) (e := e) h
    obtain ⟨b1, b2, b3, b4⟩ := eFold_inv es (k := k) (ino := ino) (s := eStep b k ino s e) a1
    rw [List.foldl_cons]
    exact ⟨b1, by omega, by simp only [List.length_cons]; omega, fun j hj => (b4 j (by omega)).trans (a4 j hj)⟩
/-- The state of the great loop. -/
structure LI (b : Branch) (k : Nat) (s : WS) : Prop where
  wi : WI b s.1
  at' : k ≤ s.1.length
  tw : s.2.length ≤ 16 * k
theorem wStep_inv {b : Branch} (hb : PB b) {k : Nat} {s : WS} (h : LI b k s) (hk : k < s.1.length) : LI b (k + 1) (wStep b k s) := by
  obtain ⟨a1, a2, a3, a4⟩ := eFold_inv (b := b) (k := k) (ino := wIno s k) (nodeP b (wIno s k)).entries h.wi
  have := nodeP_ents hb (wIno s k)
  have := h.tw
  refine ⟨a1, ?_, ?_⟩
  · unfold wStep; omega
  · unfold wStep; omega
/-! ### The document's walk -/
theorem place_eq {ways : List Way} (hw : ways.length ≤ 24) (ino : Int) : ∃ r, m_ref13_place ways ino = some r ∧ (0 ≤ r ↔ seenB ways ino = true) := by
  unfold m_ref13_place
  have key := iter_term (B := m_ref13_place_b0 ways ino) (R := fun r => match r with | .inl _ => seenB ways ino = false | .inr i => 0 ≤ i ∧ seenB ways ino = true)
    (fun i s => s = (i : Int) ∧ i ≤ ways.length ∧ ∀ j (h : j < ways.length), j < i → ways[j].ino ≠ ino) ways.length (by
    rintro i s ⟨rfl, hi, hj⟩
    refine ⟨hi, ?_⟩
    by_cases hlt : i < ways.length
    · simp only [m_ref13_place_b0]
      rw [if_pos (by omega), ix_at hlt]
      simp only [Option.bind_some]
      by_cases he : ways[i].ino = ino
      · rw [if_pos he]
        exact .inr ⟨_, rfl, by omega, seenB_iff.2 ⟨_, List.getElem_mem hlt, he⟩⟩
      · rw [if_neg he, wr_suc (by omega)]
        refine .inl ⟨_, rfl, rfl, by omega, fun j h hj' => ?_⟩
        by_cases e : j = i
        · subst e; exact he
        · exact hj j h (by omega)
    · simp only [m_ref13_place_b0]
      rw [if_neg (by omega)]
      refine .inr ⟨_, rfl, ?_⟩
      simp only
      cases hs : seenB ways ino with
      | false => rfl
      | true =>
        obtain ⟨w, hw, e⟩ := seenB_iff.1 hs
        obtain ⟨j, hj', rfl⟩ := List.getElem_of_mem hw
        exact absurd e (hj j hj' (by omega))) big 0 0 ⟨rfl, by omega, fun j _ h => by omega⟩ (by rw [big_eq]; omega)
  obtain ⟨r, h1, h2⟩ := key
  rw [h1]
  cases r with
  | inl u => exact ⟨-1, rfl, by simp only at h2; simp [h2]⟩
  | inr i => exact ⟨i, rfl, by simp only at h2; simp [h2.1, h2.2]⟩
theorem ref_enter {b : Branch} (hb : PB b) {k : Nat} {s : WS} (h : LI b k s) (hk : k < s.1.length) :
    iter (m_ref13_walk_b2 b (k : Int) (nodeP b (wIno s k))) big (s.1, s.2, 0) = some (wStep b k s) := by
  have hlen := nodeP_ents hb (wIno s k)
  have hn := hb.len
  have := (iter_fold (B := m_ref13_walk_b2 b (k : Int) (nodeP b (wIno s k))) (fun (i : Nat) (s : WS) => (s.1, s.2, (i : Int))) (nodeP b (wIno s k)).entries (eStep b k (wIno s k)) (fun s => s)
    (fun i t => WI b t.1 ∧ t.2.length ≤ s.2.length + i ∧ (∀ j, j < s.1.length → t.1[j]? = s.1[j]?)) ?_ ?_ (s0 := s) ⟨h.wi, by omega, fun _ _ => rfl⟩ (fuel := big) (by rw [big_eq]; omega)).1
  · exact this
  · rintro i t hi ⟨w1, w2, w3⟩
    have htl := w1.len
    have hs2 := h.tw
    have hsl := h.wi.len
    obtain ⟨a1, a2, a3, a4⟩ := eStep_inv (k := k) (ino := wIno s k) (e := (nodeP b (wIno s k)).entries[i]) w1
    refine ⟨?_, a1, by omega, fun j hj => (a4 j ?_).trans (w3 j hj)⟩
    rotate_left
    · have := w3 j hj
      rw [List.getElem?_eq_getElem hj] at this
      exact (List.getElem?_eq_some_iff.1 this).1
    simp only [m_ref13_walk_b2]
    rw [if_pos (by omega), ix_at hi]
    simp only [Option.bind_some]
    rw [at_eq hb]
    simp only [Option.bind_some]
    generalize (nodeP b (wIno s k)).entries[i] = e
    unfold eStep
    by_cases hkd : (nodeP b e.ino).kind = 1
    · rw [if_pos hkd, if_pos hkd]
      obtain ⟨r, hr, hr2⟩ := place_eq (ways := t.1) (by omega) e.ino
      rw [hr]
      simp only [Option.bind_some]
      have hkt : t.1[k]? = s.1[k]? := w3 k hk
      have hkl : k < t.1.length := by
        rw [List.getElem?_eq_getElem hk] at hkt
        exact (List.getElem?_eq_some_iff.1 hkt).1
      by_cases hs : seenB t.1 e.ino = true
      · rw [if_pos (hr2.2 hs), if_pos hs, ix_at hkl]
        have he : t.1[k].ino = wIno s k := by
          unfold wIno
          rw [← hkt, List.getElem?_eq_getElem hkl]
          rfl
        simp only [Option.bind_some]
        rw [ap_of (by simp; omega) (by omega), wr_suc (by omega), he]
        rfl
      · rw [if_neg (fun h => hs (hr2.1 h)), if_neg hs, ap_of (by simp; omega) (by omega), wr_suc (by omega)]
        rfl
    · rw [if_neg hkd, if_neg hkd, wr_suc (by omega)]
  · rintro t ⟨w1, w2, w3⟩
    simp only [m_ref13_walk_b2]
    rw [if_neg (by omega)]
theorem ref_loop {b : Branch} (hb : PB b) {k : Nat} {s : WS} (h : LI b k s) :
    iter (m_ref13_walk_b1 b) big (s.1, s.2, (k : Int)) = some ((wLoop b k s).2.1, (wLoop b k s).2.2, ((wLoop b k s).1 : Int)) ∧ LI b (wLoop b k s).1 (wLoop b k s).2 ∧ (wLoop b k s).1 = (wLoop b k s).2.1.length := by
  have hn := hb.len
  refine iter_wl (B := m_ref13_walk_b1 b) (fun (k : Nat) (s : WS) => (s.1, s.2, (k : Int))) (wStep b) (fun s => s.1.length) (fun k s => (s.1, s.2, (k : Int))) (LI b) 24 (fun k s h => ⟨h.at', Nat.le_trans h.wi.len hn⟩) ?_ ?_ 25 k s big h (by omega) (by rw [big_eq]; omega)
  · intro k s h hk
    have := h.wi.len
    refine ⟨?_, wStep_inv hb h hk⟩
    simp only [m_ref13_walk_b1]
    rw [if_pos (by omega), ix_at hk]
    simp only [Option.bind_some]
    rw [at_eq hb]
    simp only [Option.bind_some]
    have he : s.1[k].ino = wIno s k := by unfold wIno; rw [List.getElem?_eq_getElem hk]; rfl
    rw [he, ref_enter hb h hk, wr_suc (by omega)]
    rfl
  · intro k s h hk
    simp only [m_ref13_walk_b1]
    rw [if_neg (by omega)]
theorem wl_done {σ : Type} {step : Nat → σ → σ} {len : σ → Nat} {f k : Nat} {s : σ} (h : ¬ k < len s) : wl step len f k s = (k, s) := by
  cases f with
  | zero => rfl
  | succ f => unfold wl; rw [if_neg h]
structure FI (b : Branch) (t : Nat × WS) : Prop where
  li : LI b t.1 t.2
  all : t.1 = t.2.1.length
theorem LI.push {b : Branch} {k : Nat} {s : WS} (h : LI b k s) {w : Way} (hk : (nodeP b w.ino).kind = 1) (hs : seenB s.1 w.ino = false) : LI b k (s.1 ++ [w], s.2) :=
  ⟨h.wi.push hk hs, by have := h.at'; simp; omega, h.tw⟩
theorem fStep_inv {b : Branch} (hb : PB b) {t : Nat × WS} (h : FI b t) (r : Int) : FI b (fStep b t r) := by
  unfold fStep
  split
  · rename_i hc
    obtain ⟨_, a2, a3⟩ := ref_loop hb (h.li.push (w := ⟨r, -1, noBytes⟩) hc.1 hc.2)
    exact ⟨a2, a3⟩
  · exact h
theorem FI.nil (b : Branch) : FI b (0, [], []) := ⟨⟨⟨by simp, by simp⟩, by simp, by simp⟩, rfl⟩
theorem ref_walk {b : Branch} (hb : PB b) {fr : List Int} (hf : fr.length ≤ 1000) : m_ref13_walk b fr = some (walkP b fr).2 ∧ FI b (walkP b fr) := by
  have hn := hb.len
  have key := iter_fold (B := m_ref13_walk_b0 b fr) (fun (i : Nat) (t : Nat × WS) => (t.2.1, t.2.2, (t.1 : Int), (i : Int))) fr (fStep b) (fun t => (t.2.1, t.2.2)) (fun _ t => FI b t) (by
    intro i t hi h
    have hl := h.li.wi.len
    have ht := h.li.tw
    refine ⟨?_, fStep_inv hb h _⟩
    simp only [m_ref13_walk_b0]
    rw [if_pos (by omega), ix_at hi]
    simp only [Option.bind_some]
    rw [at_eq hb]
    simp only [Option.bind_some]
    unfold fStep
    by_cases hk : (nodeP b fr[i]).kind = 1
    · rw [if_pos hk]
      obtain ⟨r, hr, hr2⟩ := place_eq (ways := t.2.1) (by omega) fr[i]
      rw [hr]
      simp only [Option.bind_some]
      by_cases hs : seenB t.2.1 fr[i] = true
      · rw [if_pos (hr2.2 hs), if_neg (by rw [hs]; simp), wr_suc (by omega)]
      · have hs' : seenB t.2.1 fr[i] = false := by simpa using hs
        rw [if_neg (fun h => hs (hr2.1 h)), if_pos ⟨hk, hs'⟩, ap_of (by simp; omega) (by omega)]
        have := (ref_loop hb (h.li.push (w := ⟨fr[i], -1, noBytes⟩) hk hs')).1
        simp only [Option.bind_some]
        rw [this, wr_suc (by omega)]
        rfl
    · rw [if_neg hk, if_neg (fun h => hk h.1), wr_suc (by omega)]) (by
    intro t h
    simp only [m_ref13_walk_b0]
    rw [if_neg (by omega)]) (FI.nil b) (fuel := big) (by rw [big_eq]; omega)
  refine ⟨?_, key.2⟩
  unfold m_ref13_walk
  have h1 := key.1
  simp only at h1
  rw [show ((0 : Nat) : Int) = 0 from rfl] at h1
  rw [h1]
  rfl
end Go.Proofs.Ytnmljicimdhpmaa.AL

/- Plain laws, part 2: the program's walk; what is common. -/
set_option linter.all false
namespace Go.Proofs.Ytnmljicimdhpmaa.AL
open Go Go.Proofs

theorem mget_mset (m : List (Int × Int)) (k v k' : Int) : mget (mset m k v) k' = if k' = k then v else mget m k' := by
  induction m with
  | nil =>
    unfold mget mset
    by_cases h : k' = k
    · subst h; simp
    · have : (k' == k) = false := by simpa using h
      simp [this, h]
  | cons p m ih =>
    unfold mset
    by_cases h : k = p.1
    · rw [if_pos h]
      unfold mget
      by_cases h' : k' = k
      · subst h'; simp [h]
      · have : (k' == p.1) = false := by simp; omega
        simp [this, h']
    · rw [if_neg h]
      unfold mget at ih ⊢
      by_cases h' : k' = p.1
      · have h2 : ¬ k' = k := by omega
        have : (k' == p.1) = true := by simpa using h'
        simp [this, h2]
      · have : (k' == p.1) = false := by simpa using h'
        simpa [List.find?_cons, this] using ih
abbrev MS := WS × List (Int × Int)
/-- The map tells what has been come to. -/
def SM (t : MS) : Prop := ∀ ino, mget t.2 ino = if seenB t.1.1 ino = true then 1 else 0
def eStepM (b : Branch) (k : Nat) (ino : Int) (t : MS) (e : Entry) : MS :=
  (eStep b k ino t.1 e, if (nodeP b e.ino).kind = 1 ∧ seenB t.1.1 e.ino = false then mset t.2 e.ino 1 else t.2)
theorem seenB_push (ways : List Way) (w : Way) (ino : Int) : seenB (ways ++ [w]) ino = (seenB ways ino || decide (w.ino = ino)) := by simp [seenB]
theorem eStepM_sm {b : Branch} {k : Nat} {ino : Int} {t : MS} {e : Entry} (h : SM t) : SM (eStepM b k ino t e) := by
  intro i
  unfold eStepM eStep
  by_cases hk : (nodeP b e.ino).kind = 1
  · by_cases hs : seenB t.1.1 e.ino = true
    · simp only [hk, hs, true_and, if_true, reduceCtorEq, if_false]
      simpa using h i
    · have hs' : seenB t.1.1 e.ino = false := by simpa using hs
      simp only [hk, hs', true_and, if_true, if_false, Bool.false_eq_true]
      rw [mget_mset, seenB_push, h i]
      by_cases hi : i = e.ino
      · subst hi; simp
      · have : ¬ e.ino = i := fun h => hi h.symm
        simp [hi, this]
  · simp only [hk, false_and, if_false]
    exact h i
theorem foldM_fst (b : Branch) (k : Nat) (ino : Int) : ∀ (es : List Entry) (t : MS), (es.foldl (eStepM b k ino) t).1 = es.foldl (eStep b k ino) t.1
  | [], t => rfl
  | e :: es, t => by rw [List.foldl_cons, List.foldl_cons, foldM_fst b k ino es]; rfl
def wStepM (b : Branch) (k : Nat) (t : MS) : MS := (nodeP b (wIno t.1 k)).entries.foldl (eStepM b k (wIno t.1 k)) t
theorem wStepM_fst (b : Branch) (k : Nat) (t : MS) : (wStepM b k t).1 = wStep b k t.1 := foldM_fst _ _ _ _ _
theorem nodeP_in {b : Branch} {ino : Int} (h1 : ¬ ino < 1) (h2 : ¬ (b.nodes.length : Int) < ino) (hn : b.nodes.length ≤ 24) : ix b.nodes (wr (ino - 1)) = some (nodeP b ino) := by
  rw [wr_in (by omega) (by omega), ix_of (by omega) (by omega)]
  unfold nodeP
  rw [if_neg h1, if_neg h2]
  have hlt : (ino - 1).toNat < b.nodes.length := by omega
  simp only [List.getElem?_eq_getElem hlt, Option.getD_some]
theorem nodeP_out {b : Branch} {ino : Int} (h : ino < 1 ∨ (b.nodes.length : Int) < ino) : nodeP b ino = zeroNode := by
  unfold nodeP
  rcases h with h | h
  · rw [if_pos h]
  · rw [if_pos h]; split <;> rfl
theorem kind_zero : ¬ zeroNode.kind = 1 := by simp [zeroNode]
def wLoopM (b : Branch) (k : Nat) (t : MS) : Nat × MS := wl (wStepM b) (fun t => t.1.1.length) 25 k t
theorem wlM_fst (b : Branch) : ∀ (f k : Nat) (t : MS), (wl (wStepM b) (fun t => t.1.1.length) f k t).1 = (wl (wStep b) (fun s => s.1.length) f k t.1).1 ∧ (wl (wStepM b) (fun t => t.1.1.length) f k t).2.1 = (wl (wStep b) (fun s => s.1.length) f k t.1).2
  | 0, k, t => ⟨rfl, rfl⟩
  | f + 1, k, t => by
    unfold wl
    by_cases h : k < t.1.1.length
    · rw [if_pos h, if_pos h]
      have := wlM_fst b f (k + 1) (wStepM b k t)
      rw [wStepM_fst] at this
      exact this
    · rw [if_neg h, if_neg h]
      exact ⟨rfl, rfl⟩
def fStepM (b : Branch) (t : Nat × MS) (r : Int) : Nat × MS :=
  if (nodeP b r).kind = 1 ∧ seenB t.2.1.1 r = false then wLoopM b t.1 ((t.2.1.1 ++ [⟨r, -1, noBytes⟩], t.2.1.2), mset t.2.2 r 1) else t
theorem fStepM_fst (b : Branch) (t : Nat × MS) (r : Int) : ((fStepM b t r).1, (fStepM b t r).2.1) = fStep b (t.1, t.2.1) r := by
  unfold fStepM fStep
  split
  · have := wlM_fst b 25 t.1 ((t.2.1.1 ++ [⟨r, -1, noBytes⟩], t.2.1.2), mset t.2.2 r 1)
    exact Prod.ext this.1 this.2
  · rfl
theorem SM.push {t : MS} (h : SM t) (r : Int) (hs : seenB t.1.1 r = false) : SM ((t.1.1 ++ [⟨r, -1, noBytes⟩], t.1.2), mset t.2 r 1) := by
  intro i
  rw [mget_mset, seenB_push, h i]
  by_cases hi : i = r
  · subst hi; simp
  · have : ¬ r = i := fun h => hi h.symm
    simp [hi, this]
end Go.Proofs.Ytnmljicimdhpmaa.AL

