/- A law of the given program is proved: part 42 of 50. -/
import Derived.Test.YtnmljicimdhpmaaF41
set_option linter.all false
/- Plain laws, part 1: loops; the walk. -/
set_option linter.all false
namespace Go.Proofs.Ytnmljicimdhpmaa.AL
open Go Go.Proofs

/-! ### Loops -/
theorem iter_term {S ρ : Type} {B : S → Option (St S ρ)} {R : ρ → Prop} (I : Nat → S → Prop) (N : Nat) (hs : ∀ i s, I i s → i ≤ N ∧ ((∃ s', B s = some (.nx s') ∧ I (i + 1) s') ∨ ∃ r, B s = some (.out r) ∧ R r)) :
    ∀ (fuel i : Nat) (s : S), I i s → N < fuel + i → ∃ r, iter B fuel s = some r ∧ R r
  | 0, i, s, h, hf => by have := (hs i s h).1; omega
  | fuel + 1, i, s, h, hf => by
    rw [iter_succ]
    rcases (hs i s h).2 with ⟨s', h1, h2⟩ | ⟨r, h1, h2⟩
    · rw [h1]
      exact iter_term I N hs fuel (i + 1) s' h2 (by omega)
    · rw [h1]
      exact ⟨r, rfl, h2⟩
theorem big_eq : big = 1000000000000000000 := rfl
theorem ix_at {α : Type} {xs : List α} {i : Nat} (h : i < xs.length) : ix xs (i : Int) = some xs[i] := by
  unfold ix
  rw [if_pos (by omega)]
  simp [h]
theorem ix_of {α : Type} {xs : List α} {n : Int} (h0 : 0 ≤ n) (h : n < xs.length) : ix xs n = some (xs[n.toNat]'(by omega)) := by
  unfold ix
  rw [if_pos h0]
  simp
theorem wr_suc {i : Nat} (h : i < 4611686018427387904) : wr ((i : Int) + 1) = ((i + 1 : Nat) : Int) := by rw [wr_in (by omega) (by omega)]; omega
theorem ap_of {α : Type} {k : Nat} {xs ys : List α} (h : (xs.length + ys.length) * k ≤ 140737488355328) (hk : 0 < k) : ap k xs ys = some (xs ++ ys) := by
  unfold ap
  have : xs.length + ys.length ≤ (xs.length + ys.length) * k := Nat.le_mul_of_pos_right _ hk
  have h2 : xs.length + ys.length ≤ 9223372036854775807 := by omega
  rw [if_pos ⟨h, h2⟩]
/-- Over the places of a list, from the first to the last. -/
theorem iter_fold {α σ S ρ : Type} {B : S → Option (St S ρ)} (mk : Nat → σ → S) (xs : List α) (step : σ → α → σ) (fin : σ → ρ) (I : Nat → σ → Prop) (hs : ∀ i s (h : i < xs.length), I i s → B (mk i s) = some (.nx (mk (i + 1) (step s xs[i]))) ∧ I (i + 1) (step s xs[i]))
    (he : ∀ s, I xs.length s → B (mk xs.length s) = some (.out (fin s))) {s0 : σ} (h0 : I 0 s0) {fuel : Nat} (hf : xs.length < fuel) : iter B fuel (mk 0 s0) = some (fin (xs.foldl step s0)) ∧ I xs.length (xs.foldl step s0) := by
  have key : ∀ (d i : Nat) (s : σ) (fuel : Nat), d + i = xs.length → I i s → d < fuel → iter B fuel (mk i s) = some (fin ((xs.drop i).foldl step s)) ∧ I xs.length ((xs.drop i).foldl step s) := by
    intro d
    induction d with
    | zero =>
      intro i s fuel hd hi hf
      obtain rfl : i = xs.length := by omega
      cases fuel with
      | zero => omega
      | succ fuel =>
        rw [iter_succ, he s hi]
        simp [hi]
    | succ d ih =>
      intro i s fuel hd hi hf
      cases fuel with
      | zero => omega
      | succ fuel =>
        have hlt : i < xs.length := by omega
        obtain ⟨h1, h2⟩ := hs i s hlt hi
        rw [iter_succ, h1]
        have := ih (i + 1) _ fuel (by omega) h2 (by omega)
        rw [List.drop_eq_getElem_cons hlt]
        exact this
  have := key xs.length 0 s0 fuel (by omega) h0 hf
  simpa using this
/-- While there is more. -/
def wl {σ : Type} (step : Nat → σ → σ) (len : σ → Nat) : Nat → Nat → σ → Nat × σ
  | 0, k, s => (k, s)
  | f + 1, k, s => if k < len s then wl step len f (k + 1) (step k s) else (k, s)
theorem iter_wl {σ S ρ : Type} {B : S → Option (St S ρ)} (mk : Nat → σ → S) (step : Nat → σ → σ) (len : σ → Nat) (fin : Nat → σ → ρ) (I : Nat → σ → Prop) (N : Nat) (hN : ∀ k s, I k s → k ≤ len s ∧ len s ≤ N)
    (hs : ∀ k s, I k s → k < len s → B (mk k s) = some (.nx (mk (k + 1) (step k s))) ∧ I (k + 1) (step k s)) (he : ∀ k s, I k s → ¬ k < len s → B (mk k s) = some (.out (fin k s))) :
    ∀ (f k : Nat) (s : σ) (fuel : Nat), I k s → N < f + k → N < fuel + k → iter B fuel (mk k s) = some (fin (wl step len f k s).1 (wl step len f k s).2) ∧ I (wl step len f k s).1 (wl step len f k s).2 ∧ (wl step len f k s).1 = len (wl step len f k s).2
  | 0, k, s, fuel, hi, hf, hg => by have := hN k s hi; omega
  | f + 1, k, s, fuel, hi, hf, hg => by
    obtain ⟨n1, n2⟩ := hN k s hi
    cases fuel with
    | zero => omega
    | succ fuel =>
      rw [iter_succ]
      unfold wl
      by_cases h : k < len s
      · obtain ⟨h1, h2⟩ := hs k s hi h
        rw [if_pos h, h1]
        exact iter_wl mk step len fin I N hN hs he f (k + 1) _ fuel h2 (by omega) (by omega)
      · rw [if_neg h, he k s hi h]
        exact ⟨rfl, hi, by show k = len s; omega⟩
/-! ### Nodes -/
def zeroNode : Node := ⟨0, 0, 0, 0, [], [], ⟨0, 0, noBytes, ⟨0, 0, 0⟩, 0⟩⟩
def nodeP (b : Branch) (ino : Int) : Node := if ino < 1 then zeroNode else if (b.nodes.length : Int) < ino then zeroNode else (b.nodes[(ino - 1).toNat]?).getD zeroNode
structure PB (b : Branch) : Prop where
  len : b.nodes.length ≤ 24
  ents : ∀ x ∈ b.nodes, x.entries.length ≤ 16
theorem at_eq {b : Branch} (hb : PB b) (ino : Int) : m_ref13_At b ino = some (nodeP b ino) := by
  unfold m_ref13_At nodeP
  split
  · rfl
  · split
    · rfl
    · rename_i h1 h2
      have := hb.len
      rw [wr_in (by omega) (by omega), ix_of (by omega) (by omega)]
      have hlt : (ino - 1).toNat < b.nodes.length := by omega
      simp only [Option.bind_some, List.getElem?_eq_getElem hlt, Option.getD_some]
theorem nodeP_ents {b : Branch} (hb : PB b) (ino : Int) : (nodeP b ino).entries.length ≤ 16 := by
  unfold nodeP
  split
  · simp [zeroNode]
  · split
    · simp [zeroNode]
    · rename_i h1 h2
      have hlt : (ino - 1).toNat < b.nodes.length := by omega
      simp only [List.getElem?_eq_getElem hlt, Option.getD_some]
      exact hb.ents _ (List.getElem_mem hlt)
theorem nodeP_kind {b : Branch} {ino : Int} (h : (nodeP b ino).kind = 1) : 1 ≤ ino ∧ ino ≤ (b.nodes.length : Int) := by
  unfold nodeP at h
  split at h
  · simp [zeroNode] at h
  · split at h
    · simp [zeroNode] at h
    · omega
/-! ### The walk -/
def seenB (ways : List Way) (ino : Int) : Bool := ways.any fun w => decide (w.ino = ino)
abbrev WS := List Way × List Ar2_Int
def eStep (b : Branch) (k : Nat) (ino : Int) (s : WS) (e : Entry) : WS :=
  if (nodeP b e.ino).kind = 1 then if seenB s.1 e.ino = true then (s.1, s.2 ++ [⟨ino, e.slot⟩]) else (s.1 ++ [⟨e.ino, k, e.name⟩], s.2) else s
def wIno (s : WS) (k : Nat) : Int := ((s.1[k]?).getD default).ino
def wStep (b : Branch) (k : Nat) (s : WS) : WS := (nodeP b (wIno s k)).entries.foldl (eStep b k (wIno s k)) s
def wLoop (b : Branch) (k : Nat) (s : WS) : Nat × WS := wl (wStep b) (fun s => s.1.length) 25 k s
def fStep (b : Branch) (t : Nat × WS) (r : Int) : Nat × WS :=
  if (nodeP b r).kind = 1 ∧ seenB t.2.1 r = false then wLoop b t.1 (t.2.1 ++ [⟨r, -1, noBytes⟩], t.2.2) else t
def walkP (b : Branch) (fr : List Int) : Nat × WS := fr.foldl (fStep b) (0, [], [])
/-- Each directory once. -/
structure WI (b : Branch) (ways : List Way) : Prop where
  nd : (ways.map (·.ino)).Nodup
  dir : ∀ w ∈ ways, (nodeP b w.ino).kind = 1
theorem nat_nodup_le : ∀ (n : Nat) (l : List Nat), l.Nodup → (∀ x ∈ l, x < n) → l.length ≤ n
  | 0, l, _, h => by
    cases l with
    | nil => simp
    | cons x l => have := h x (by simp); omega
  | n + 1, l, hd, h => by
    have h1 := nat_nodup_le n (l.erase n) (hd.erase n) (fun x hx => by
      have := (List.Nodup.mem_erase_iff hd).1 hx
      have := h x this.2
      omega)
    have := List.length_erase (a := n) (l := l)
    split at this <;> omega
theorem WI.len {b : Branch} {ways : List Way} (h : WI b ways) : ways.length ≤ b.nodes.length := by
  have h1 : (ways.map fun w => (w.ino - 1).toNat).Nodup := by
    refine List.pairwise_map.2 (List.Pairwise.imp_of_mem ?_ (List.pairwise_map.1 h.nd))
    intro x y hx hy hne e
    have := nodeP_kind (h.dir x hx)
    have := nodeP_kind (h.dir y hy)
    omega
  have := nat_nodup_le b.nodes.length _ h1 (fun x hx => by
    obtain ⟨w, hw, rfl⟩ := List.mem_map.1 hx
    have := nodeP_kind (h.dir w hw)
    omega)
  simpa using this
theorem seenB_iff {ways : List Way} {ino : Int} : seenB ways ino = true ↔ ∃ w ∈ ways, w.ino = ino := by simp [seenB]
theorem WI.push {b : Branch} {ways : List Way} (h : WI b ways) {w : Way} (hk : (nodeP b w.ino).kind = 1) (hs : seenB ways w.ino = false) : WI b (ways ++ [w]) := by
  refine ⟨?_, ?_⟩
  · rw [List.map_append, List.map_cons, List.map_nil]
    refine List.nodup_append.2 ⟨h.nd, by simp, ?_⟩
    intro x hx y hy e
    simp only [List.mem_singleton] at hy
    subst hy; subst e
    obtain ⟨w', hw', e⟩ := List.mem_map.1 hx
    have : seenB ways w.ino = true := seenB_iff.2 ⟨w', hw', e⟩
    rw [hs] at this; cases this
  · intro x hx
    rcases List.mem_append.1 hx with hx | hx
    · exact h.dir x hx
    · simp only [List.mem_singleton] at hx; subst hx; exact hk
/-- What an entry leaves. -/
theorem eStep_inv {b : Branch} {k : Nat} {ino : Int} {s : WS} {e : Entry} (h : WI b s.1) : WI b (eStep b k ino s e).1 ∧ s.1.length ≤ (eStep b k ino s e).1.length ∧ (eStep b k ino s e).2.length ≤ s.2.length + 1 ∧ (∀ j, j < s.1.length → (eStep b k ino s e).1[j]? = s.1[j]?) := by
  unfold eStep
  split
  · rename_i hk
    split
    · exact ⟨h, Nat.le_refl _, by simp, fun _ _ => rfl⟩
    · rename_i hs
      refine ⟨h.push (w := ⟨e.ino, k, e.name⟩) hk (by simpa using hs), by simp, by simp, fun j hj => List.getElem?_append_left hj⟩
  · exact ⟨h, Nat.le_refl _, by omega, fun _ _ => rfl⟩
theorem eFold_inv {b : Branch} {k : Nat} {ino : Int} : ∀ (es : List Entry) {s : WS}, WI b s.1 → WI b (es.foldl (eStep b k ino) s).1 ∧ s.1.length ≤ (es.foldl (eStep b k ino) s).1.length ∧ (es.foldl (eStep b k ino) s).2.length ≤ s.2.length + es.length ∧ (∀ j, j < s.1.length → (es.foldl (eStep b k ino) s).1[j]? = s.1[j]?)
  | [], s, h => ⟨h, Nat.le_refl _, by simp, fun _ _ => rfl⟩
  | e :: es, s, h => by
    obtain ⟨a1, a2, a3, a4⟩ := eStep_inv (k := k) (ino := ino) (e := e) h
    obtain ⟨b1, b2, b3, b4⟩ := eFold_inv es (k := k) (ino := ino) (s := eStep b k ino s e) a1
    rw [List.foldl_cons]
    exact ⟨b1, by omega, by simp only [List.length_cons]; omega, fun j hj => (b4 j (by omega)).trans (a4 j hj)⟩
/-- The state of the great loop. -/
structure LI (b : Branch) (k : Nat) (s : WS) : Prop where
  wi : WI b s.1
  at' : k ≤ s.1.length
  tw : s.2.length ≤ 16 * k
theorem wStep_inv {b : Branch} (hb : PB b) {k : Nat} {s : WS} (h : LI b k s) (hk : k < s.1.length) : LI b (k + 1) (wStep b k s) := by
  obtain ⟨a1, a2, a3, a4⟩ := eFold_inv (b := b) (k := k) (ino := wIno s k) (nodeP b (wIno s k)).entries h.wi
  have := nodeP_ents hb (wIno s k)
  have := h.tw
  refine ⟨a1, ?_, ?_⟩
  · unfold wStep; omega
  · unfold wStep; omega
/-! ### The document's walk -/
theorem place_eq {ways : List Way} (hw : ways.length ≤ 24) (ino : Int) : ∃ r, m_ref13_place ways ino = some r ∧ (0 ≤ r ↔ seenB ways ino = true) := by
  unfold m_ref13_place
  have key := iter_term (B := m_ref13_place_b0 ways ino) (R := fun r => match r with | .inl _ => seenB ways ino = false | .inr i => 0 ≤ i ∧ seenB ways ino = true)
    (fun i s => s = (i : Int) ∧ i ≤ ways.length ∧ ∀ j (h : j < ways.length), j < i → ways[j].ino ≠ ino) ways.length (by
    rintro i s ⟨rfl, hi, hj⟩
    refine ⟨hi, ?_⟩
    by_cases hlt : i < ways.length
    · simp only [m_ref13_place_b0]
      rw [if_pos (by omega), ix_at hlt]
      simp only [Option.bind_some]
      by_cases he : ways[i].ino = ino
      · rw [if_pos he]
        exact .inr ⟨_, rfl, by omega, seenB_iff.2 ⟨_, List.getElem_mem hlt, he⟩⟩
      · rw [if_neg he, wr_suc (by omega)]
        refine .inl ⟨_, rfl, rfl, by omega, fun j h hj' => ?_⟩
        by_cases e : j = i
        · subst e; exact he
        · exact hj j h (by omega)
    · simp only [m_ref13_place_b0]
      rw [if_neg (by omega)]
      refine .inr ⟨_, rfl, ?_⟩
      simp only
      cases hs : seenB ways ino with
      | false => rfl
      | true =>
        obtain ⟨w, hw, e⟩ := seenB_iff.1 hs
        obtain ⟨j, hj', rfl⟩ := List.getElem_of_mem hw
        exact absurd e (hj j hj' (by omega))) big 0 0 ⟨rfl, by omega, fun j _ h => by omega⟩ (by rw [big_eq]; omega)
  obtain ⟨r, h1, h2⟩ := key
  rw [h1]
  cases r with
  | inl u => exact ⟨-1, rfl, by simp only at h2; simp [h2]⟩
  | inr i => exact ⟨i, rfl, by simp only at h2; simp [h2.1, h2.2]⟩
theorem ref_enter {b : Branch} (hb : PB b) {k : Nat} {s : WS} (h : LI b k s) (hk : k < s.1.length) :
    iter (m_ref13_walk_b2 b (k : Int) (nodeP b (wIno s k))) big (s.1, s.2, 0) = some (wStep b k s) := by
  have hlen := nodeP_ents hb (wIno s k)
  have hn := hb.len
  have := (iter_fold (B := m_ref13_walk_b2 b (k : Int) (nodeP b (wIno s k))) (fun (i : Nat) (s : WS) => (s.1, s.2, (i : Int))) (nodeP b (wIno s k)).entries (eStep b k (wIno s k)) (fun s => s)
    (fun i t => WI b t.1 ∧ t.2.length ≤ s.2.length + i ∧ (∀ j, j < s.1.length → t.1[j]? = s.1[j]?)) ?_ ?_ (s0 := s) ⟨h.wi, by omega, fun _ _ => rfl⟩ (fuel := big) (by rw [big_eq]; omega)).1
  · exact this
  · rintro i t hi ⟨w1, w2, w3⟩
    have htl := w1.len
    have hs2 := h.tw
    have hsl := h.wi.len
    obtain ⟨a1, a2, a3, a4⟩ := eStep_inv (k := k) (ino := wIno s k) (e := (nodeP b (wIno s k)).entries[i]) w1
    refine ⟨?_, a1, by omega, fun j hj => (a4 j ?_).trans (w3 j hj)⟩
    rotate_left
    · have := w3 j hj
      rw [List.getElem?_eq_getElem hj] at this
      exact (List.getElem?_eq_some_iff.1 this).1
    simp only [m_ref13_walk_b2]
    rw [if_pos (by omega), ix_at hi]
    simp only [Option.bind_some]
    rw [at_eq hb]
    simp only [Option.bind_some]
    generalize (nodeP b (wIno s k)).entries[i] = e
    unfold eStep
    by_cases hkd : (nodeP b e.ino).kind = 1
    · rw [if_pos hkd, if_pos hkd]
      obtain ⟨r, hr, hr2⟩ := place_eq (ways := t.1) (by omega) e.ino
      rw [hr]
      simp only [Option.bind_some]
      have hkt : t.1[k]? = s.1[k]? := w3 k hk
      have hkl : k < t.1.length := by
        rw [List.getElem?_eq_getElem hk] at hkt
        exact (List.getElem?_eq_some_iff.1 hkt).1
      by_cases hs : seenB t.1 e.ino = true
      · rw [if_pos (hr2.2 hs), if_pos hs, ix_at hkl]
        have he : t.1[k].ino = wIno s k := by
          unfold wIno
          rw [← hkt, List.getElem?_eq_getElem hkl]
          rfl
        simp only [Option.bind_some]
        rw [ap_of (by simp; omega) (by omega), wr_suc (by omega), he]
        rfl
      · rw [if_neg (fun h => hs (hr2.1 h)), if_neg hs, ap_of (by simp; omega) (by omega), wr_suc (by omega)]
        rfl
    · rw [if_neg hkd, if_neg hkd, wr_suc (by omega)]
  · rintro t ⟨w1, w2, w3⟩
    simp only [m_ref13_walk_b2]
    rw [if_neg (by omega)]
theorem ref_loop {b : Branch} (hb : PB b) {k : Nat} {s : WS} (h : LI b k s) :
    iter (m_ref13_walk_b1 b) big (s.1, s.2, (k : Int)) = some ((wLoop b k s).2.1, (wLoop b k s).2.2, ((wLoop b k s).1 : Int)) ∧ LI b (wLoop b k s).1 (wLoop b k s).2 ∧ (wLoop b k s).1 = (wLoop b k s).2.1.length := by
  have hn := hb.len
  refine iter_wl (B := m_ref13_walk_b1 b) (fun (k : Nat) (s : WS) => (s.1, s.2, (k : Int))) (wStep b) (fun s => s.1.length) (fun k s => (s.1, s.2, (k : Int))) (LI b) 24 (fun k s h => ⟨h.at', Nat.le_trans h.wi.len hn⟩) ?_ ?_ 25 k s big h (by omega) (by rw [big_eq]; omega)
  · intro k s h hk
    have := h.wi.len
    refine ⟨?_, wStep_inv hb h hk⟩
    simp only [m_ref13_walk_b1]
    rw [if_pos (by omega), ix_at hk]
    simp only [Option.bind_some]
    rw [at_eq hb]
    simp only [Option.bind_some]
    have he : s.1[k].ino = wIno s k := by unfold wIno; rw [List.getElem?_eq_getElem hk]; rfl
    rw [he, ref_enter hb h hk, wr_suc (by omega)]
    rfl
  · intro k s h hk
    simp only [m_ref13_walk_b1]
    rw [if_neg (by omega)]
theorem wl_done {σ : Type} {step : Nat → σ → σ} {len : σ → Nat} {f k : Nat} {s : σ} (h : ¬ k < len s) : wl step len f k s = (k, s) := by
  cases f with
  | zero => rfl
  | succ f => unfold wl; rw [if_neg h]
structure FI (b : Branch) (t : Nat × WS) : Prop where
  li : LI b t.1 t.2
  all : t.1 = t.2.1.length
theorem LI.push {b : Branch} {k : Nat} {s : WS} (h : LI b k s) {w : Way} (hk : (nodeP b w.ino).kind = 1) (hs : seenB s.1 w.ino = false) : LI b k (s.1 ++ [w], s.2) :=
  ⟨h.wi.push hk hs, by have := h.at'; simp; omega, h.tw⟩
theorem fStep_inv {b : Branch} (hb : PB b) {t : Nat × WS} (h : FI b t) (r : Int) : FI b (fStep b t r) := by
  unfold fStep
  split
  · rename_i hc
    obtain ⟨_, a2, a3⟩ := ref_loop hb (h.li.push (w := ⟨r, -1, noBytes⟩) hc.1 hc.2)
    exact ⟨a2, a3⟩
  · exact h
theorem FI.nil (b : Branch) : FI b (0, [], []) := ⟨⟨⟨by simp, by simp⟩, by simp, by simp⟩, rfl⟩
theorem ref_walk {b : Branch} (hb : PB b) {fr : List Int} (hf : fr.length ≤ 1000) : m_ref13_walk b fr = some (walkP b fr).2 ∧ FI b (walkP b fr) := by
  have hn := hb.len
  have key := iter_fold (B := m_ref13_walk_b0 b fr) (fun (i : Nat) (t : Nat × WS) => (t.2.1, t.2.2, (t.1 : Int), (i : Int))) fr (fStep b) (fun t => (t.2.1, t.2.2)) (fun _ t => FI b t) (by
    intro i t hi h
    have hl := h.li.wi.len
    have ht := h.li.tw
    refine ⟨?_, fStep_inv hb h _⟩
    simp only [m_ref13_walk_b0]
    rw [if_pos (by omega), ix_at hi]
    simp only [Option.bind_some]
    rw [at_eq hb]
    simp only [Option.bind_some]
    unfold fStep
    by_cases hk : (nodeP b fr[i]).kind = 1
    · rw [if_pos hk]
      obtain ⟨r, hr, hr2⟩ := place_eq (ways := t.2.1) (by omega) fr[i]
      rw [hr]
      simp only [Option.bind_some]
      by_cases hs : seenB t.2.1 fr[i] = true
      · rw [if_pos (hr2.2 hs), if_neg (by rw [hs]; simp), wr_suc (by omega)]
      · have hs' : seenB t.2.1 fr[i] = false := by simpa using hs
        rw [if_neg (fun h => hs (hr2.1 h)), if_pos ⟨hk, hs'⟩, ap_of (by simp; omega) (by omega)]
        have := (ref_loop hb (h.li.push (w := ⟨fr[i], -1, noBytes⟩) hk hs')).1
        simp only [Option.bind_some]
        rw [this, wr_suc (by omega)]
        rfl
    · rw [if_neg hk, if_neg (fun h => hk h.1), wr_suc (by omega)]) (by
    intro t h
    simp only [m_ref13_walk_b0]
    rw [if_neg (by omega)]) (FI.nil b) (fuel := big) (by rw [big_eq]; omega)
  refine ⟨?_, key.2⟩
  unfold m_ref13_walk
  have h1 := key.1
  simp only at h1
  rw [show ((0 : Nat) : Int) = 0 from rfl] at h1
  rw [h1]
  rfl
end Go.Proofs.Ytnmljicimdhpmaa.AL

/- slices.Reverse, in place. -/
set_option linter.all false
namespace Go.Proofs.Ytnmljicimdhpmaa.AL
open Go Go.Proofs Go.RowKit
def revAC (S E : TypeId) : AC := (.seq (.region [⟨.move (.tmp 0), some 4, none⟩,
  ⟨.call (Go.Call.mk (.builtin .len) #[.tmp 4] #[S]), some 5, none⟩,
  ⟨.binOp .sub 3 (.tmp 5) (.const (Value.int .i64 1)) 3, some 6, none⟩,
  ⟨.assign (.const (Value.int .i64 0)), some 2, none⟩,
  ⟨.assign (.tmp 6), some 3, none⟩])
 (.block 0 (.loop (.seq (.seq (.region [⟨.move (.tmp 2), some 7, none⟩,
  ⟨.move (.tmp 3), some 8, none⟩,
  ⟨.binOp .lss 3 (.tmp 7) (.tmp 8) 3, some 9, none⟩])
 (.cond (.tmp 9) .skip
 (.exit 0)))
 (.seq (.block 1 (.draw [⟨.move (.tmp 0), some 14, none⟩,
  ⟨.move (.tmp 2), some 15, none⟩,
  ⟨.move (.tmp 0), some 16, none⟩,
  ⟨.move (.tmp 3), some 17, none⟩,
  ⟨.move (.tmp 0), some 18, none⟩,
  ⟨.move (.tmp 3), some 19, none⟩,
  ⟨.indexAddr S (.tmp 18) (.tmp 19), some 20, none⟩,
  ⟨.load E (.tmp 20), some 21, none⟩,
  ⟨.move (.tmp 0), some 22, none⟩,
  ⟨.move (.tmp 2), some 23, none⟩,
  ⟨.indexAddr S (.tmp 22) (.tmp 23), some 24, none⟩,
  ⟨.load E (.tmp 24), some 25, none⟩,
  ⟨.indexAddr S (.tmp 14) (.tmp 15), some 26, none⟩,
  ⟨.store E (.tmp 26) (.tmp 21), none, none⟩,
  ⟨.indexAddr S (.tmp 16) (.tmp 17), some 27, none⟩,
  ⟨.store E (.tmp 27) (.tmp 25), none, none⟩] [0, 0, 0, 0, 0, 0, 48, 112, 0, 0, 768, 1792, 4083, 8179, 16383, 32767] [false, false, false, false, false, false, false, true, false, false, false, true, false, true, false, true]))
 (.region [⟨.move (.tmp 2), some 10, none⟩,
  ⟨.binOp .add 3 (.tmp 10) (.const (Value.int .i64 1)) 3, some 11, none⟩,
  ⟨.move (.tmp 3), some 12, none⟩,
  ⟨.binOp .sub 3 (.tmp 12) (.const (Value.int .i64 1)) 3, some 13, none⟩,
  ⟨.assign (.tmp 11), some 2, none⟩,
  ⟨.assign (.tmp 13), some 3, none⟩]))))))
def revM {α : Type} (l : List α) : Option (List α) := (ck (l.length < 4611686018427387904)).bind fun _ => some l.reverse
theorem revM_len {α : Type} {l r : List α} (h : revM l = some r) : r.length = l.length := by
  obtain ⟨_, h⟩ := ckE h
  obtain rfl := Option.some.inj h
  simp
theorem rev_ok {α : Type} {P : Program} {g : FuncId} {S E n : Nat} {b : Bool} (hf : FnC P g 28 [] (revAC S E)) (hS : elemOfT P S = some E) (hE : aggN P E = some (b, n)) (hmix : P.follows .mixedOrders = true) (enc : α → AV) (l r : List α) (hr : revM l = some r) (hx : ∀ x, closed (enc x) = true)
    (hld : ∀ x, evalLd P E (enc x) 0 = some (enc x)) (hst : ∀ x y, stAV (enc x) 0 (enc y) = some (enc y)) (hsz : ∀ x, hasSize (enc x) n = true) (q : Nat) : OkI P g q [.msl q l.length] (.tup []) E n (l.map enc) (r.map enc) := by
  unfold revM at hr
  obtain ⟨hlen, hr⟩ := ckE hr
  obtain rfl := Option.some.inj hr
  have i1 : ∀ (l len : Nat) (k : IntKind) (n' : Int), evalIndexAddr P S (.msl l len) (.val (.int k n')) = if 0 ≤ n' ∧ n' < len then some (.loc l n n'.toNat 0) else none := fun l len k n' => indexAddr_msl _ hS hE l len k n'
  have s1 : ∀ (V : Nat → Option AO) (l sz i off : Nat) (v : AV), evalStore P E V (.loc l sz i off) v = if hasSize v n = true then (rowT (V l) sz i).bind fun p => (stAV p.2.2 off v).map fun x' => [(l, some (.row p.1 sz (p.2.1.set i x')))] else none := fun V l sz i off v => store_loc _ hE V l sz i off v
  have l1 : ∀ (l m : Nat), evalLen P S (.msl l m) = some (int m) := fun l m => len_msl _ hS l m
  refine ⟨closeds_map enc hx _, fun H nx hq hH => acallF hf (by simp) ?_⟩
  unfold revAC
  simp only [l1, EV, ↓EVd, isCall, sevalprocAttr]
  refine cwp_loop (fun s => s.T 0 = .msl q l.length ∧ (∃ i : Nat, ∃ z : List α, s.T 2 = int i ∧ s.T 3 = int ((l.length : Int) - 1 - i) ∧ 2 * i ≤ l.length + 1 ∧ z.length = l.length ∧ s.H q = some (.row E n (z.map enc)) ∧ ∀ k, k < l.length → z[k]? = if k < i ∨ l.length - i ≤ k then l[l.length - 1 - k]? else l[k]?) ∧ nx ≤ s.nx ∧ ∀ j, j < nx → j ≠ q → s.H j = H j) (fun s => (iv (s.T 3) + 1).toNat) ?_ ?_
  · have w1 : IntKind.i64.wrap ((l.length : Int) - 1) = (l.length : Int) - 1 := Go.IntWalk.i64_in _ (by omega)
    simp only [w1, EV, ↓EVd, isCall, sevalprocAttr]
    refine ⟨⟨0, l, by simp, by simp, by omega, rfl, hH, fun k hk => by rw [if_neg (by omega)]⟩, by omega, fun j h1 h2 => trivial⟩
  · rintro ⟨T, H', nx'⟩ ⟨k0, ⟨i, z, k2, k3, k4, k5, k6, k7⟩, k8, k9⟩
    simp only at k0 k2 k3 k6 k8 k9
    apply cw_cwp
    have w1 : IntKind.i64.wrap ((i : Int) + 1) = ((i + 1 : Nat) : Int) := Go.IntWalk.i64_in _ (by omega)
    have w2 : IntKind.i64.wrap ((l.length : Int) - 1 - i - 1) = (l.length : Int) - 1 - ((i + 1 : Nat) : Int) := by rw [Go.IntWalk.i64_in _ (by omega)]; omega
    by_cases hc : (i : Int) < (l.length : Int) - 1 - i
    · have e1 : ((i : Int) < (l.length : Int) - 1 - i) = True := eq_true hc
      have e2 : ((0 : Int) ≤ (i : Int)) = True := eq_true (by omega)
      have e3 : ((i : Int) < (l.length : Int)) = True := eq_true (by omega)
      have e4 : ((0 : Int) ≤ (l.length : Int) - 1 - i) = True := eq_true (by omega)
      have e5 : ((l.length : Int) - 1 - i < (l.length : Int)) = True := eq_true (by omega)
      obtain ⟨j, hj⟩ : ∃ j : Nat, ((l.length : Int) - 1 - i).toNat = j := ⟨_, rfl⟩
      have hi0 : ((i : Int)).toNat = i := by omega
      have hjl : j < z.length := by omega
      have hil : i < z.length := by omega
      have hij : i ≠ j := by omega
      have z1 : (z.map enc)[j]? = some (enc z[j]) := by simp [hjl]
      have z2 : (z.map enc)[i]? = some (enc z[i]) := by simp [hil]
      have z3 : ((z.set i z[j]).map enc)[j]? = some (enc z[j]) := by rw [List.getElem?_map, List.getElem?_set_ne hij]; simp [hjl]
      have kq := lq (show q < nx' by omega)
      dsimp only [Lq] at kq
      have d1 := hld z[j]
      have d2 := hld z[i]
      have d3 := hst z[i] z[j]
      have d4 := hst z[j] z[i]
      have d5 := hsz z[j]
      have d6 := hsz z[i]
      simp only [i1, s1, kq, k0, k2, k3, k6, e1, e2, e3, e4, e5, hj, hi0, z1, z2, z3, d1, d2, d3, d4, d5, d6, w1, w2, hmix, EV, ↓EVd, isCall, sevalprocAttr]
      refine ⟨⟨⟨i + 1, (z.set i z[j]).set j z[i], by simp, by simp, by omega, by simp [k5], by simp, ?_⟩, by omega, ?_⟩, by omega⟩
      · intro k hk
        have hz1 : z[j]? = l[j]? := by rw [k7 j (by omega), if_neg (by omega)]
        have hz2 : z[i]? = l[i]? := by rw [k7 i (by omega), if_neg (by omega)]
        by_cases a1 : k = j
        · subst a1
          rw [List.getElem?_set_self (by simpa using hjl), if_pos (by omega), show l.length - 1 - k = i by omega, ← hz2, List.getElem?_eq_getElem hil]
        · rw [List.getElem?_set_ne (Ne.symm a1)]
          by_cases a2 : k = i
          · subst a2
            rw [List.getElem?_set_self hil, if_pos (by omega), show l.length - 1 - k = j by omega, ← hz1, List.getElem?_eq_getElem hjl]
          · rw [List.getElem?_set_ne (Ne.symm a2), k7 k hk]
            by_cases a3 : k < i ∨ l.length - i ≤ k
            · rw [if_pos a3, if_pos (by omega)]
            · rw [if_neg a3, if_neg (by omega)]
      · intro j' h1 h2
        simp only [upd_at, if_neg h2]
        exact k9 j' h1 h2
    · have e1 : ((i : Int) < (l.length : Int) - 1 - i) = False := eq_false hc
      simp only [k0, k2, k3, e1, EV, ↓EVd, isCall, sevalprocAttr]
      refine ⟨?_, k9⟩
      rw [k6]
      congr 2
      congr 1
      refine List.ext_getElem? fun k => ?_
      by_cases hk : k < l.length
      · rw [k7 k hk, List.getElem?_reverse hk]
        by_cases a3 : k < i ∨ l.length - i ≤ k
        · rw [if_pos a3]
        · rw [if_neg a3, show l.length - 1 - k = k by omega]
      · rw [List.getElem?_eq_none (by omega), List.getElem?_eq_none (by simp; omega)]
end Go.Proofs.Ytnmljicimdhpmaa.AL

/- Models of functions, and that the functions are as their models: written by gen.py. -/
set_option linter.all false
set_option maxRecDepth 100000
namespace Go.Proofs.Ytnmljicimdhpmaa.AL
open Go Go.Proofs
def m_walk_Path_b0 (a0 : List Way) : (Int × List ByteArray) → Option (St (Int × List ByteArray) (List ByteArray))
 | (v2, v4) => if 0 ≤ v2 then if v2 < (a0.length : Int) then (ix a0 v2).bind fun v12 => if v12.up < 0 then some (.out v4)
 else if v2 ≤ v12.up then some (.out v4)
 else (ap 16 v4 ([v12.name] : List ByteArray)).bind fun _ => some (.nx (v12.up, (v4 ++ ([v12.name] : List ByteArray))))
 else some (.out v4)
 else some (.out v4)
def m_walk_Path (a0 : List Way) (a1 : Int) : Option (List ByteArray) := (iter (m_walk_Path_b0 a0) big (a1, [])).bind fun o => (match o with
 | v7 => (revM v7).bind fun v23 => some v23)
def Y_walk_Path := And.intro (And.intro (And.intro ((@EV)) ((@R3))) (And.intro ((@R9)) ((@R49)))) (And.intro (And.intro ((@R52)) ((@R60))) (And.intro ((@DWay)) ((@mixed))))
set_option maxHeartbeats 2000000 in
theorem ok_walk_Path (a0 : List Way) (a1 : Int) (r : List ByteArray) (hm0 : m_walk_Path a0 a1 = some r) : Ok Try.prog 36 [.sl 3 (a0.map encWay), int a1] (.sl 1 (r.map str)) := by
 unfold m_walk_Path at hm0
 refine okG fc_walk_Path ?_
 unfold c_walk_Path
 obtain ⟨o0, ho0, hm0⟩ := bsE hm0
 simp only [Y_walk_Path, ↓EVd, isCall, sevalprocAttr]
 refine cwp_cx 0 (fun s => ∃ v7 : List ByteArray, ∃ l6 : Nat, (s.T 5 = .msl l6 v7.length ∧ s.H l6 = some (.row 9 1 (v7.map str)) ∧ Lq l6 s.nx) ∧ v7 = o0) ?_ fun J0_0 hJ0_0 => ?_
 · rintro T0 H0 x5 ⟨v7, l6, kk0_0, rfl⟩
   dsimp only [Lq, Nq] at kk0_0
   try dsimp only at hm0
   obtain ⟨v23, h24, hm0⟩ := bsE hm0
   have e25 := revM_len h24
   simp only [kk0_0, e25, Y_walk_Path, ↓EVd, isCall, sevalprocAttr]
   refine qci (rev_ok fc_slices_Reverse_string_string elemOfT_60 aggN_9 mixed str _ _ h24 (fun z => by simp only [CLO]) (fun z => by simp only [Y_walk_Path, ↓EVd, isCall, sevalprocAttr]) (fun z w => by simp only [Y_walk_Path, ↓EVd, isCall, sevalprocAttr]) (fun z => by simp only [Y_walk_Path, ↓EVd, isCall, sevalprocAttr]) _) rfl (by simp only [kk0_0, e25, FZ, CLO, Y_walk_Path, ↓EVd, isCall, sevalprocAttr]) (by simp only [kk0_0, e25, FZ, CLO, Y_walk_Path, ↓EVd, isCall, sevalprocAttr]) (fun _ _ => by simp only [inK, inKs]) ?_
   obtain rfl := Option.some.inj hm0
   simp only [kk0_0, e25, Y_walk_Path, ↓EVd, isCall, sevalprocAttr]
   all_goals first | done | rfl | exact frzR_e (by simp only [kk0_0, e25, FZ, CLO, Y_walk_Path, ↓EVd, isCall, sevalprocAttr])
 refine cwp_lp ho0 (fun (v2, v4) s => ∃ l3 : Nat, s.T 0 = .sl 3 (a0.map encWay) ∧ s.T 1 = int v2 ∧ s.T 5 = .msl l3 v4.length ∧ s.H l3 = some (.row 9 1 (v4.map str)) ∧ Lq l3 s.nx) ?_ ?_
 · refine TI.by (Tn.adopt 5 9 1 (by simp only [Y_walk_Path, ↓EVd, isCall, sevalprocAttr])) ?_
   refine TI.here ⟨2, ?_, ?_, ?_, ?_, ?_⟩
   all_goals try simp only [Y_walk_Path, ↓EVd, isCall, sevalprocAttr]
   all_goals first | omega | exact lq (by omega) | exact nq (by omega) | rfl | (congr 1; omega)
 rintro I0 ⟨v2, v4⟩ T0 H0 x1 st0 ⟨l3, kk0⟩ hm1 hI0 hO0
 dsimp only [Lq, Nq] at kk0
 simp only [m_walk_Path_b0] at hm1
 rcases iteE hm1 with ⟨e9, hm1⟩ | ⟨e9, hm1⟩
 · rcases iteE hm1 with ⟨e11, hm1⟩ | ⟨e11, hm1⟩
   · obtain ⟨v12, e14, hm1⟩ := ixE encWay hm1
     rcases iteE hm1 with ⟨e16, hm1⟩ | ⟨e16, hm1⟩
     · obtain rfl := Option.some.inj hm1
       simp only [kk0, e9, e11, e14, e16, Y_walk_Path, ↓EVd, isCall, sevalprocAttr]
       refine TI.here (hJ0_0 _ ⟨v4, l3, ⟨?_, ?_, ?_⟩, hO0 _ rfl⟩)
       all_goals try simp only [kk0, e9, e11, e14, e16, Y_walk_Path, ↓EVd, isCall, sevalprocAttr]
       all_goals first | omega | exact lq (by omega) | exact nq (by omega) | rfl | (congr 1; omega)
     rcases iteE hm1 with ⟨e18, hm1⟩ | ⟨e18, hm1⟩
     · obtain rfl := Option.some.inj hm1
       simp only [kk0, e9, e11, e14, e16, e18, Y_walk_Path, ↓EVd, isCall, sevalprocAttr]
       refine TI.here (hJ0_0 _ ⟨v4, l3, ⟨?_, ?_, ?_⟩, hO0 _ rfl⟩)
       all_goals try simp only [kk0, e9, e11, e14, e16, e18, Y_walk_Path, ↓EVd, isCall, sevalprocAttr]
       all_goals first | omega | exact lq (by omega) | exact nq (by omega) | rfl | (congr 1; omega)
     obtain ⟨e21, hm1⟩ := apE hm1
     try simp only [ZL] at e21
     obtain rfl := Option.some.inj hm1
     simp only [kk0, e9, e11, e14, e16, e18, e21, Y_walk_Path, ↓EVd, isCall, sevalprocAttr]
     refine TI.here (hI0 _ rfl _ ⟨(x1 + 27), ?_, ?_, ?_, ?_, ?_⟩)
     all_goals try simp only [kk0, e9, e11, e14, e16, e18, e21, Y_walk_Path, ↓EVd, isCall, sevalprocAttr]
     all_goals first | omega | exact lq (by omega) | exact nq (by omega) | rfl | (congr 1; omega)
   obtain rfl := Option.some.inj hm1
   simp only [kk0, e9, e11, Y_walk_Path, ↓EVd, isCall, sevalprocAttr]
   refine TI.here (hJ0_0 _ ⟨v4, l3, ⟨?_, ?_, ?_⟩, hO0 _ rfl⟩)
   all_goals try simp only [kk0, e9, e11, Y_walk_Path, ↓EVd, isCall, sevalprocAttr]
   all_goals first | omega | exact lq (by omega) | exact nq (by omega) | rfl | (congr 1; omega)
 obtain rfl := Option.some.inj hm1
 simp only [kk0, e9, Y_walk_Path, ↓EVd, isCall, sevalprocAttr]
 refine TI.here (hJ0_0 _ ⟨v4, l3, ⟨?_, ?_, ?_⟩, hO0 _ rfl⟩)
 all_goals try simp only [kk0, e9, Y_walk_Path, ↓EVd, isCall, sevalprocAttr]
 all_goals first | omega | exact lq (by omega) | exact nq (by omega) | rfl | (congr 1; omega)
def m_slices_Equal_string_string_b0 (a0 : List ByteArray) (a1 : List ByteArray) : Int → Option (St (Int) ((Unit) ⊕ (Bool)))
 | v4 => if v4 < (a0.length : Int) then (ix a0 v4).bind fun v8 => (ix a1 v4).bind fun v11 => if v8 = v11 then some (.nx (wr (v4 + 1)))
 else some (.out (.inr false))
 else some (.out (.inl ()))
def m_slices_Equal_string_string (a0 : List ByteArray) (a1 : List ByteArray) : Option (Bool) := if (a0.length : Int) = (a1.length : Int) then (iter (m_slices_Equal_string_string_b0 a0 a1) big 0).bind fun o => (match o with
 | (.inl _) => some true
 | (.inr r) => some r)
 else some false
def Y_slices_Equal_string_string := And.intro (And.intro ((@EV)) ((@R3))) (And.intro ((@R9)) (And.intro ((@R60)) ((@mixed))))
set_option maxHeartbeats 2000000 in
theorem ok_slices_Equal_string_string (a0 : List ByteArray) (a1 : List ByteArray) (r : Bool) (hm0 : m_slices_Equal_string_string a0 a1 = some r) : Ok Try.prog 35 [.sl 1 (a0.map str), .sl 1 (a1.map str)] (bool r) := by
 unfold m_slices_Equal_string_string at hm0
 refine okG fc_slices_Equal_string_string ?_
 unfold c_slices_Equal_string_string
 rcases iteE hm0 with ⟨e2, hm0⟩ | ⟨e2, hm0⟩
 · obtain ⟨o0, ho0, hm0⟩ := bsE hm0
   simp only [e2, Y_slices_Equal_string_string, ↓EVd, isCall, sevalprocAttr]
   refine cwp_cx 0 (fun s => (.inl ()) = o0) ?_ fun J0_0 hJ0_0 => ?_
   · rintro T0 H0 x5 rfl
     try dsimp only at hm0
     obtain rfl := Option.some.inj hm0
     simp only [e2, Y_slices_Equal_string_string, ↓EVd, isCall, sevalprocAttr]
     all_goals first | done | rfl
   refine cwp_lp ho0 (fun v4 s => s.T 0 = .sl 1 (a0.map str) ∧ s.T 1 = .sl 1 (a1.map str) ∧ s.T 12 = int (a0.length : Int) ∧ s.T 13 = int v4) ?_ ?_
   · refine TI.here ⟨?_, ?_, ?_, ?_⟩
     all_goals try simp only [e2, Y_slices_Equal_string_string, ↓EVd, isCall, sevalprocAttr]
     all_goals first | omega | exact lq (by omega) | exact nq (by omega) | rfl | (congr 1; omega)
   rintro I0 v4 T0 H0 x3 st0 kk0 hm1 hI0 hO0
   dsimp only [Lq, Nq] at kk0
   simp only [m_slices_Equal_string_string_b0] at hm1
   rcases iteE hm1 with ⟨e7, hm1⟩ | ⟨e7, hm1⟩
   · obtain ⟨v8, e10, hm1⟩ := ixE str hm1
     obtain ⟨v11, e13, hm1⟩ := ixE str hm1
     rcases iteE hm1 with ⟨e15, hm1⟩ | ⟨e15, hm1⟩
     · obtain rfl := Option.some.inj hm1
       simp only [kk0, e2, e7, e10, e13, e15, Y_slices_Equal_string_string, ↓EVd, isCall, sevalprocAttr]
       refine TI.here (hI0 _ rfl _ ⟨?_, ?_, ?_, ?_⟩)
       all_goals try simp only [kk0, e2, e7, e10, e13, e15, Y_slices_Equal_string_string, ↓EVd, isCall, sevalprocAttr]
       all_goals first | omega | exact lq (by omega) | exact nq (by omega) | rfl | (congr 1; omega)
     obtain rfl := Option.some.inj hm1
     obtain rfl := hO0 _ rfl
     try dsimp only at hm0
     obtain rfl := Option.some.inj hm0
     simp only [kk0, e2, e7, e10, e13, e15, Y_slices_Equal_string_string, ↓EVd, isCall, sevalprocAttr]
     all_goals first | done | rfl
   obtain rfl := Option.some.inj hm1
   simp only [kk0, e2, e7, Y_slices_Equal_string_string, ↓EVd, isCall, sevalprocAttr]
   refine TI.here (hJ0_0 _ (hO0 _ rfl))
 obtain rfl := Option.some.inj hm0
 simp only [e2, Y_slices_Equal_string_string, ↓EVd, isCall, sevalprocAttr]
 all_goals first | done | rfl
end Go.Proofs.Ytnmljicimdhpmaa.AL

