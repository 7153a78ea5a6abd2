/- What any node of any stack should say of copies, and which say otherwise, is what the document says: part 42 of 49. -/
import Derived.Test.YtnmljicimdhpmaaA41
set_option linter.all false
/- Plain laws, part 1: loops; the walk. -/
set_option linter.all false
namespace Go.Proofs.Ytnmljicimdhpmaa.AL
open Go Go.Proofs

/-! ### Loops -/
theorem iter_term {S ρ : Type} {B : S → Option (St S ρ)} {R : ρ → Prop} (I : Nat → S → Prop) (N : Nat) (hs : ∀ i s, I i s → i ≤ N ∧ ((∃ s', B s = some (.nx s') ∧ I (i + 1) s') ∨ ∃ r, B s = some (.out r) ∧ R r)) :
    ∀ (fuel i : Nat) (s : S), I i s → N < fuel + i → ∃ r, iter B fuel s = some r ∧ R r
  | 0, i, s, h, hf => by have := (hs i s h).1; omega
  | fuel + 1, i, s, h, hf => by
    rw [iter_succ]
    rcases (hs i s h).2 with ⟨s', h1, h2⟩ | ⟨r, h1, h2⟩
    · rw [h1]
      exact iter_term I N hs fuel (i + 1) s' h2 (by omega)
    · rw [h1]
      exact ⟨r, rfl, h2⟩
theorem big_eq : big = 1000000000000000000 := rfl
theorem ix_at {α : Type} {xs : List α} {i : Nat} (h : i < xs.length) : ix xs (i : Int) = some xs[i] := by
  unfold ix
  rw [if_pos (by omega)]
  simp [h]
theorem ix_of {α : Type} {xs : List α} {n : Int} (h0 : 0 ≤ n) (h : n < xs.length) : ix xs n = some (xs[n.toNat]'(by omega)) := by
  unfold ix
  rw [if_pos h0]
  simp
theorem wr_suc {i : Nat} (h : i < 4611686018427387904) : wr ((i : Int) + 1) = ((i + 1 : Nat) : Int) := by rw [wr_in (by omega) (by omega)]; omega
theorem ap_of {α : Type} {k : Nat} {xs ys : List α} (h : (xs.length + ys.length) * k ≤ 140737488355328) (hk : 0 < k) : ap k xs ys = some (xs ++ ys) := by
  unfold ap
  have : xs.length + ys.length ≤ (xs.length + ys.length) * k := Nat.le_mul_of_pos_right _ hk
  have h2 : xs.length + ys.length ≤ 9223372036854775807 := by omega
  rw [if_pos ⟨h, h2⟩]
/-- Over the places of a list, from the first to the last. -/
theorem iter_fold {α σ S ρ : Type} {B : S → Option (St S ρ)} (mk : Nat → σ → S) (xs : List α) (step : σ → α → σ) (fin : σ → ρ) (I : Nat → σ → Prop) (hs : ∀ i s (h : i < xs.length), I i s → B (mk i s) = some (.nx (mk (i + 1) (step s xs[i]))) ∧ I (i + 1) (step s xs[i]))
    (he : ∀ s, I xs.length s → B (mk xs.length s) = some (.out (fin s))) {s0 : σ} (h0 : I 0 s0) {fuel : Nat} (hf : xs.length < fuel) : iter B fuel (mk 0 s0) = some (fin (xs.foldl step s0)) ∧ I xs.length (xs.foldl step s0) := by
  have key : ∀ (d i : Nat) (s : σ) (fuel : Nat), d + i = xs.length → I i s → d < fuel → iter B fuel (mk i s) = some (fin ((xs.drop i).foldl step s)) ∧ I xs.length ((xs.drop i).foldl step s) := by
    intro d
    induction d with
    | zero =>
      intro i s fuel hd hi hf
      obtain rfl : i = xs.length := by omega
      cases fuel with
      | zero => omega
      | succ fuel =>
        rw [iter_succ, he s hi]
        simp [hi]
    | succ d ih =>
      intro i s fuel hd hi hf
      cases fuel with
      | zero => omega
      | succ fuel =>
        have hlt : i < xs.length := by omega
        obtain ⟨h1, h2⟩ := hs i s hlt hi
        rw [iter_succ, h1]
        have := ih (i + 1) _ fuel (by omega) h2 (by omega)
        rw [List.drop_eq_getElem_cons hlt]
        exact this
  have := key xs.length 0 s0 fuel (by omega) h0 hf
  simpa using this
/-- While there is more. -/
def wl {σ : Type} (step : Nat → σ → σ) (len : σ → Nat) : Nat → Nat → σ → Nat × σ
  | 0, k, s => (k, s)
  | f + 1, k, s => if k < len s then wl step len f (k + 1) (step k s) else (k, s)
theorem iter_wl {σ S ρ : Type} {B : S → Option (St S ρ)} (mk : Nat → σ → S) (step : Nat → σ → σ) (len : σ → Nat) (fin : Nat → σ → ρ) (I : Nat → σ → Prop) (N : Nat) (hN : ∀ k s, I k s → k ≤ len s ∧ len s ≤ N)
    (hs : ∀ k s, I k s → k < len s → B (mk k s) = some (.nx (mk (k + 1) (step k s))) ∧ I (k + 1) (step k s)) (he : ∀ k s, I k s → ¬ k < len s → B (mk k s) = some (.out (fin k s))) :
    ∀ (f k : Nat) (s : σ) (fuel : Nat), I k s → N < f + k → N < fuel + k → iter B fuel (mk k s) = some (fin (wl step len f k s).1 (wl step len f k s).2) ∧ I (wl step len f k s).1 (wl step len f k s).2 ∧ (wl step len f k s).1 = len (wl step len f k s).2
  | 0, k, s, fuel, hi, hf, hg => by have := hN k s hi; omega
  | f + 1, k, s, fuel, hi, hf, hg => by
    obtain ⟨n1, n2⟩ := hN k s hi
    cases fuel with
    | zero => omega
    | succ fuel =>
      rw [iter_succ]
      unfold wl
      by_cases h : k < len s
      · obtain ⟨h1, h2⟩ := hs k s hi h
        rw [if_pos h, h1]
        exact iter_wl mk step len fin I N hN hs he f (k + 1) _ fuel h2 (by omega) (by omega)
      · rw [if_neg h, he k s hi h]
        exact ⟨rfl, hi, by show k = len s; omega⟩
/-! ### Nodes -/
def zeroNode : Node := ⟨0, 0, 0, 0, [], [], ⟨0, 0, noBytes, ⟨0, 0, 0⟩, 0⟩⟩
def nodeP (b : Branch) (ino : Int) : Node := if ino < 1 then zeroNode else if (b.nodes.length : Int) < ino then zeroNode else (b.nodes[(ino - 1).toNat]?).getD zeroNode
structure PB (b : Branch) : Prop where
  len : b.nodes.length ≤ 24
  ents : ∀ x ∈ b.nodes, x.entries.length ≤ 16
theorem at_eq {b : Branch} (hb : PB b) (ino : Int) : m_ref13_At b ino = some (nodeP b ino) := by
  unfold m_ref13_At nodeP
  split
  · rfl
  · split
    · rfl
    · rename_i h1 h2
      have := hb.len
      rw [wr_in (by omega) (by omega), ix_of (by omega) (by omega)]
      have hlt : (ino - 1).toNat < b.nodes.length := by omega
      simp only [Option.bind_some, List.getElem?_eq_getElem hlt, Option.getD_some]
theorem nodeP_ents {b : Branch} (hb : PB b) (ino : Int) : (nodeP b ino).entries.length ≤ 16 := by
  unfold nodeP
  split
  · simp [zeroNode]
  · split
    · simp [zeroNode]
    · rename_i h1 h2
      have hlt : (ino - 1).toNat < b.nodes.length := by omega
      simp only [List.getElem?_eq_getElem hlt, Option.getD_some]
      exact hb.ents _ (List.getElem_mem hlt)
theorem nodeP_kind {b : Branch} {ino : Int} (h : (nodeP b ino).kind = 1) : 1 ≤ ino ∧ ino ≤ (b.nodes.length : Int) := by
  unfold nodeP at h
  split at h
  · simp [zeroNode] at h
  · split at h
    · simp [zeroNode] at h
    · omega
/-! ### The walk -/
def seenB (ways : List Way) (ino : Int) : Bool := ways.any fun w => decide (w.ino = ino)
abbrev WS := List Way × List Ar2_Int
def eStep (b : Branch) (k : Nat) (ino : Int) (s : WS) (e : Entry) : WS :=
  if (nodeP b e.ino).kind = 1 then if seenB s.1 e.ino = true then (s.1, s.2 ++ [⟨ino, e.slot⟩]) else (s.1 ++ [⟨e.ino, k, e.name⟩], s.2) else s
def wIno (s : WS) (k : Nat) : Int := ((s.1[k]?).getD default).ino
def wStep (b : Branch) (k : Nat) (s : WS) : WS := (nodeP b (wIno s k)).entries.foldl (eStep b k (wIno s k)) s
def wLoop (b : Branch) (k : Nat) (s : WS) : Nat × WS := wl (wStep b) (fun s => s.1.length) 25 k s
def fStep (b : Branch) (t : Nat × WS) (r : Int) : Nat × WS :=
  if (nodeP b r).kind = 1 ∧ seenB t.2.1 r = false then wLoop b t.1 (t.2.1 ++ [⟨r, -1, noBytes⟩], t.2.2) else t
def walkP (b : Branch) (fr : List Int) : Nat × WS := fr.foldl (fStep b) (0, [], [])
/-- Each directory once. -/
structure WI (b : Branch) (ways : List Way) : Prop where
  nd : (ways.map (·.ino)).Nodup
  dir : ∀ w ∈ ways, (nodeP b w.ino).kind = 1
theorem nat_nodup_le : ∀ (n : Nat) (l : List Nat), l.Nodup → (∀ x ∈ l, x < n) → l.length ≤ n
  | 0, l, _, h => by
    cases l with
    | nil => simp
    | cons x l => have := h x (by simp); omega
  | n + 1, l, hd, h => by
    have h1 := nat_nodup_le n (l.erase n) (hd.erase n) (fun x hx => by
      have := (List.Nodup.mem_erase_iff hd).1 hx
      have := h x this.2
      omega)
    have := List.length_erase (a := n) (l := l)
    split at this <;> omega
theorem WI.len {b : Branch} {ways : List Way} (h : WI b ways) : ways.length ≤ b.nodes.length := by
  have h1 : (ways.map fun w => (w.ino - 1).toNat).Nodup := by
    refine List.pairwise_map.2 (List.Pairwise.imp_of_mem ?_ (List.pairwise_map.1 h.nd))
    intro x y hx hy hne e
    have := nodeP_kind (h.dir x hx)
    have := nodeP_kind (h.dir y hy)
    omega
  have := nat_nodup_le b.nodes.length _ h1 (fun x hx => by
    obtain ⟨w, hw, rfl⟩ := List.mem_map.1 hx
    have := nodeP_kind (h.dir w hw)
    omega)
  simpa using this
theorem seenB_iff {ways : List Way} {ino : Int} : seenB ways ino = true ↔ ∃ w ∈ ways, w.ino = ino := by simp [seenB]
theorem WI.push {b : Branch} {ways : List Way} (h : WI b ways) {w : Way} (hk : (nodeP b w.ino).kind = 1) (hs : seenB ways w.ino = false) : WI b (ways ++ [w]) := by
  refine ⟨?_, ?_⟩
  · rw [List.map_append, List.map_cons, List.map_nil]
    refine List.nodup_append.2 ⟨h.nd, by simp, ?_⟩
    intro x hx y hy e
    simp only [List.mem_singleton] at hy
    subst hy; subst e
    obtain ⟨w', hw', e⟩ := List.mem_map.1 hx
    have : seenB ways w.ino = true := seenB_iff.2 ⟨w', hw', e⟩
    rw [hs] at this; cases this
  · intro x hx
    rcases List.mem_append.1 hx with hx | hx
    · exact h.dir x hx
    · simp only [List.mem_singleton] at hx; subst hx; exact hk
/-- What an entry leaves. -/
theorem eStep_inv {b : Branch} {k : Nat} {ino : Int} {s : WS} {e : Entry} (h : WI b s.1) : WI b (eStep b k ino s e).1 ∧ s.1.length ≤ (eStep b k ino s e).1.length ∧ (eStep b k ino s e).2.length ≤ s.2.length + 1 ∧ (∀ j, j < s.1.length → (eStep b k ino s e).1[j]? = s.1[j]?) := by
  unfold eStep
  split
  · rename_i hk
    split
    · exact ⟨h, Nat.le_refl _, by simp, fun _ _ => rfl⟩
    · rename_i hs
      refine ⟨h.push (w := ⟨e.ino, k, e.name⟩) hk (by simpa using hs), by simp, by simp, fun j hj => List.getElem?_append_left hj⟩
  · exact ⟨h, Nat.le_refl _, by omega, fun _ _ => rfl⟩
theorem eFold_inv {b : Branch} {k : Nat} {ino : Int} : ∀ (es : List Entry) {s : WS}, WI b s.1 → WI b (es.foldl (eStep b k ino) s).1 ∧ s.1.length ≤ (es.foldl (eStep b k ino) s).1.length ∧ (es.foldl (eStep b k ino) s).2.length ≤ s.2.length + es.length ∧ (∀ j, j < s.1.length → (es.foldl (eStep b k ino) s).1[j]? = s.1[j]?)
  | [], s, h => ⟨h, Nat.le_refl _, by simp, fun _ _ => rfl⟩
  | e :: es, s, h => by
    obtain ⟨a1, a2, a3, a4⟩ := eStep_inv (k := k) (ino := ino) (e := e) h
    obtain ⟨b1, b2, b3, b4⟩ := eFold_inv es (k := k) (ino := ino) (s := eStep b k ino s e) a1
    rw [List.foldl_cons]
    exact ⟨b1, by omega, by simp only [List.length_cons]; omega, fun j hj => (b4 j (by omega)).trans (a4 j hj)⟩
/-- The state of the great loop. -/
structure LI (b : Branch) (k : Nat) (s : WS) : Prop where
  wi : WI b s.1
  at' : k ≤ s.1.length
  tw : s.2.length ≤ 16 * k
theorem wStep_inv {b : Branch} (hb : PB b) {k : Nat} {s : WS} (h : LI b k s) (hk : k < s.1.length) : LI b (k + 1) (wStep b k s) := by
  obtain ⟨a1, a2, a3, a4⟩ := eFold_inv (b := b) (k := k) (ino := wIno s k) (nodeP b (wIno s k)).entries h.wi
  have := nodeP_ents hb (wIno s k)
  have := h.tw
  refine ⟨a1, ?_, ?_⟩
  · unfold wStep; omega
  · unfold wStep; omega
/-! ### The document's walk -/
theorem place_eq {ways : List Way} (hw : ways.length ≤ 24) (ino : Int) : ∃ r, m_ref13_place ways ino = some r ∧ (0 ≤ r ↔ seenB ways ino = true) := by
  unfold m_ref13_place
  have key := iter_term (B := m_ref13_place_b0 ways ino) (R := fun r => match r with | .inl _ => seenB ways ino = false | .inr i => 0 ≤ i ∧ seenB ways ino = true)
    (fun i s => s = (i : Int) ∧ i ≤ ways.length ∧ ∀ j (h : j < ways.length), j < i → ways[j].ino ≠ ino) ways.length (by
    rintro i s ⟨rfl, hi, hj⟩
    refine ⟨hi, ?_⟩
    by_cases hlt : i < ways.length
    · simp only [m_ref13_place_b0]
      rw [if_pos (by omega), ix_at hlt]
      simp only [Option.bind_some]
      by_cases he : ways[i].ino = ino
      · rw [if_pos he]
        exact .inr ⟨_, rfl, by omega, seenB_iff.2 ⟨_, List.getElem_mem hlt, he⟩⟩
      · rw [if_neg he, wr_suc (by omega)]
        refine .inl ⟨_, rfl, rfl, by omega, fun j h hj' => ?_⟩
        by_cases e : j = i
        · subst e; exact he
        · exact hj j h (by omega)
    · simp only [m_ref13_place_b0]
      rw [if_neg (by omega)]
      refine .inr ⟨_, rfl, ?_⟩
      simp only
      cases hs : seenB ways ino with
      | false => rfl
      | true =>
        obtain ⟨w, hw, e⟩ := seenB_iff.1 hs
        obtain ⟨j, hj', rfl⟩ := List.getElem_of_mem hw
        exact absurd e (hj j hj' (by omega))) big 0 0 ⟨rfl, by omega, fun j _ h => by omega⟩ (by rw [big_eq]; omega)
  obtain ⟨r, h1, h2⟩ := key
  rw [h1]
  cases r with
  | inl u => exact ⟨-1, rfl, by simp only at h2; simp [h2]⟩
  | inr i => exact ⟨i, rfl, by simp only at h2; simp [h2.1, h2.2]⟩
theorem ref_enter {b : Branch} (hb : PB b) {k : Nat} {s : WS} (h : LI b k s) (hk : k < s.1.length) :
    iter (m_ref13_walk_b2 b (k : Int) (nodeP b (wIno s k))) big (s.1, s.2, 0) = some (wStep b k s) := by
  have hlen := nodeP_ents hb (wIno s k)
  have hn := hb.len
  have := (iter_fold (B := m_ref13_walk_b2 b (k : Int) (nodeP b (wIno s k))) (fun (i : Nat) (s : WS) => (s.1, s.2, (i : Int))) (nodeP b (wIno s k)).entries (eStep b k (wIno s k)) (fun s => s)
    (fun i t => WI b t.1 ∧ t.2.length ≤ s.2.length + i ∧ (∀ j, j < s.1.length → t.1[j]? = s.1[j]?)) ?_ ?_ (s0 := s) ⟨h.wi, by omega, fun _ _ => rfl⟩ (fuel := big) (by rw [big_eq]; omega)).1
  · exact this
  · rintro i t hi ⟨w1, w2, w3⟩
    have htl := w1.len
    have hs2 := h.tw
    have hsl := h.wi.len
    obtain ⟨a1, a2, a3, a4⟩ := eStep_inv (k := k) (ino := wIno s k) (e := (nodeP b (wIno s k)).entries[i]) w1
    refine ⟨?_, a1, by omega, fun j hj => (a4 j ?_).trans (w3 j hj)⟩
    rotate_left
    · have := w3 j hj
      rw [List.getElem?_eq_getElem hj] at this
      exact (List.getElem?_eq_some_iff.1 this).1
    simp only [m_ref13_walk_b2]
    rw [if_pos (by omega), ix_at hi]
    simp only [Option.bind_some]
    rw [at_eq hb]
    simp only [Option.bind_some]
    generalize (nodeP b (wIno s k)).entries[i] = e
    unfold eStep
    by_cases hkd : (nodeP b e.ino).kind = 1
    · rw [if_pos hkd, if_pos hkd]
      obtain ⟨r, hr, hr2⟩ := place_eq (ways := t.1) (by omega) e.ino
      rw [hr]
      simp only [Option.bind_some]
      have hkt : t.1[k]? = s.1[k]? := w3 k hk
      have hkl : k < t.1.length := by
        rw [List.getElem?_eq_getElem hk] at hkt
        exact (List.getElem?_eq_some_iff.1 hkt).1
      by_cases hs : seenB t.1 e.ino = true
      · rw [if_pos (hr2.2 hs), if_pos hs, ix_at hkl]
        have he : t.1[k].ino = wIno s k := by
          unfold wIno
          rw [← hkt, List.getElem?_eq_getElem hkl]
          rfl
        simp only [Option.bind_some]
        rw [ap_of (by simp; omega) (by omega), wr_suc (by omega), he]
        rfl
      · rw [if_neg (fun h => hs (hr2.1 h)), if_neg hs, ap_of (by simp; omega) (by omega), wr_suc (by omega)]
        rfl
    · rw [if_neg hkd, if_neg hkd, wr_suc (by omega)]
  · rintro t ⟨w1, w2, w3⟩
    simp only [m_ref13_walk_b2]
    rw [if_neg (by omega)]
theorem ref_loop {b : Branch} (hb : PB b) {k : Nat} {s : WS} (h : LI b k s) :
    iter (m_ref13_walk_b1 b) big (s.1, s.2, (k : Int)) = some ((wLoop b k s).2.1, (wLoop b k s).2.2, ((wLoop b k s).1 : Int)) ∧ LI b (wLoop b k s).1 (wLoop b k s).2 ∧ (wLoop b k s).1 = (wLoop b k s).2.1.length := by
  have hn := hb.len
  refine iter_wl (B := m_ref13_walk_b1 b) (fun (k : Nat) (s : WS) => (s.1, s.2, (k : Int))) (wStep b) (fun s => s.1.length) (fun k s => (s.1, s.2, (k : Int))) (LI b) 24 (fun k s h => ⟨h.at', Nat.le_trans h.wi.len hn⟩) ?_ ?_ 25 k s big h (by omega) (by rw [big_eq]; omega)
  · intro k s h hk
    have := h.wi.len
    refine ⟨?_, wStep_inv hb h hk⟩
    simp only [m_ref13_walk_b1]
    rw [if_pos (by omega), ix_at hk]
    simp only [Option.bind_some]
    rw [at_eq hb]
    simp only [Option.bind_some]
    have he : s.1[k].ino = wIno s k := by unfold wIno; rw [List.getElem?_eq_getElem hk]; rfl
    rw [he, ref_enter hb h hk, wr_suc (by omega)]
    rfl
  · intro k s h hk
    simp only [m_ref13_walk_b1]
    rw [if_neg (by omega)]
theorem wl_done {σ : Type} {step : Nat → σ → σ} {len : σ → Nat} {f k : Nat} {s : σ} (h : ¬ k < len s) : wl step len f k s = (k, s) := by
  cases f with
  | zero => rfl
  | succ f => unfold wl; rw [if_neg h]
structure FI (b : Branch) (t : Nat × WS) : Prop where
  li : LI b t.1 t.2
  all : t.1 = t.2.1.length
theorem LI.push {b : Branch} {k : Nat} {s : WS} (h : LI b k s) {w : Way} (hk : (nodeP b w.ino).kind = 1) (hs : seenB s.1 w.ino = false) : LI b k (s.1 ++ [w], s.2) :=
  ⟨h.wi.push hk hs, by have := h.at'; simp; omega, h.tw⟩
theorem fStep_inv {b : Branch} (hb : PB b) {t : Nat × WS} (h : FI b t) (r : Int) : FI b (fStep b t r) := by
  unfold fStep
  split
  · rename_i hc
    obtain ⟨_, a2, a3⟩ := ref_loop hb (h.li.push (w := ⟨r, -1, noBytes⟩) hc.1 hc.2)
    exact ⟨a2, a3⟩
  · exact h
theorem FI.nil (b : Branch) : FI b (0, [], []) := ⟨⟨⟨by simp, by simp⟩, by simp, by simp⟩, rfl⟩
theorem ref_walk {b : Branch} (hb : PB b) {fr : List Int} (hf : fr.length ≤ 1000) : m_ref13_walk b fr = some (walkP b fr).2 ∧ FI b (walkP b fr) := by
  have hn := hb.len
  have key := iter_fold (B := m_ref13_walk_b0 b fr) (fun (i : Nat) (t : Nat × WS) => (t.2.1, t.2.2, (t.1 : Int), (i : Int))) fr (fStep b) (fun t => (t.2.1, t.2.2)) (fun _ t => FI b t) (by
    intro i t hi h
    have hl := h.li.wi.len
    have ht := h.li.tw
    refine ⟨?_, fStep_inv hb h _⟩
    simp only [m_ref13_walk_b0]
    rw [if_pos (by omega), ix_at hi]
    simp only [Option.bind_some]
    rw [at_eq hb]
    simp only [Option.bind_some]
    unfold fStep
    by_cases hk : (nodeP b fr[i]).kind = 1
    · rw [if_pos hk]
      obtain ⟨r, hr, hr2⟩ := place_eq (ways := t.2.1) (by omega) fr[i]
      rw [hr]
      simp only [Option.bind_some]
      by_cases hs : seenB t.2.1 fr[i] = true
      · rw [if_pos (hr2.2 hs), if_neg (by rw [hs]; simp), wr_suc (by omega)]
      · have hs' : seenB t.2.1 fr[i] = false := by simpa using hs
        rw [if_neg (fun h => hs (hr2.1 h)), if_pos ⟨hk, hs'⟩, ap_of (by simp; omega) (by omega)]
        have := (ref_loop hb (h.li.push (w := ⟨fr[i], -1, noBytes⟩) hk hs')).1
        simp only [Option.bind_some]
        rw [this, wr_suc (by omega)]
        rfl
    · rw [if_neg hk, if_neg (fun h => hk h.1), wr_suc (by omega)]) (by
    intro t h
    simp only [m_ref13_walk_b0]
    rw [if_neg (by omega)]) (FI.nil b) (fuel := big) (by rw [big_eq]; omega)
  refine ⟨?_, key.2⟩
  unfold m_ref13_walk
  have h1 := key.1
  simp only at h1
  rw [show ((0 : Nat) : Int) = 0 from rfl] at h1
  rw [h1]
  rfl
end Go.Proofs.Ytnmljicimdhpmaa.AL

/- Plain laws, part 2: the program's walk is the document's. -/
set_option linter.all false
namespace Go.Proofs.Ytnmljicimdhpmaa.AL
open Go Go.Proofs

theorem mget_mset (m : List (Int × Int)) (k v k' : Int) : mget (mset m k v) k' = if k' = k then v else mget m k' := by
  induction m with
  | nil =>
    unfold mget mset
    by_cases h : k' = k
    · subst h; simp
    · have : (k' == k) = false := by simpa using h
      simp [this, h]
  | cons p m ih =>
    unfold mset
    by_cases h : k = p.1
    · rw [if_pos h]
      unfold mget
      by_cases h' : k' = k
      · subst h'; simp [h]
      · have : (k' == p.1) = false := by simp; omega
        simp [this, h']
    · rw [if_neg h]
      unfold mget at ih ⊢
      by_cases h' : k' = p.1
      · have h2 : ¬ k' = k := by omega
        have : (k' == p.1) = true := by simpa using h'
        simp [this, h2]
      · have : (k' == p.1) = false := by simpa using h'
        simpa [List.find?_cons, this] using ih
abbrev MS := WS × List (Int × Int)
/-- The map tells what has been come to. -/
def SM (t : MS) : Prop := ∀ ino, mget t.2 ino = if seenB t.1.1 ino = true then 1 else 0
def eStepM (b : Branch) (k : Nat) (ino : Int) (t : MS) (e : Entry) : MS :=
  (eStep b k ino t.1 e, if (nodeP b e.ino).kind = 1 ∧ seenB t.1.1 e.ino = false then mset t.2 e.ino 1 else t.2)
theorem seenB_push (ways : List Way) (w : Way) (ino : Int) : seenB (ways ++ [w]) ino = (seenB ways ino || decide (w.ino = ino)) := by simp [seenB]
theorem eStepM_sm {b : Branch} {k : Nat} {ino : Int} {t : MS} {e : Entry} (h : SM t) : SM (eStepM b k ino t e) := by
  intro i
  unfold eStepM eStep
  by_cases hk : (nodeP b e.ino).kind = 1
  · by_cases hs : seenB t.1.1 e.ino = true
    · simp only [hk, hs, true_and, if_true, reduceCtorEq, if_false]
      simpa using h i
    · have hs' : seenB t.1.1 e.ino = false := by simpa using hs
      simp only [hk, hs', true_and, if_true, if_false, Bool.false_eq_true]
      rw [mget_mset, seenB_push, h i]
      by_cases hi : i = e.ino
      · subst hi; simp
      · have : ¬ e.ino = i := fun h => hi h.symm
        simp [hi, this]
  · simp only [hk, false_and, if_false]
    exact h i
theorem foldM_fst (b : Branch) (k : Nat) (ino : Int) : ∀ (es : List Entry) (t : MS), (es.foldl (eStepM b k ino) t).1 = es.foldl (eStep b k ino) t.1
  | [], t => rfl
  | e :: es, t => by rw [List.foldl_cons, List.foldl_cons, foldM_fst b k ino es]; rfl
def wStepM (b : Branch) (k : Nat) (t : MS) : MS := (nodeP b (wIno t.1 k)).entries.foldl (eStepM b k (wIno t.1 k)) t
theorem wStepM_fst (b : Branch) (k : Nat) (t : MS) : (wStepM b k t).1 = wStep b k t.1 := foldM_fst _ _ _ _ _
theorem nodeP_in {b : Branch} {ino : Int} (h1 : ¬ ino < 1) (h2 : ¬ (b.nodes.length : Int) < ino) (hn : b.nodes.length ≤ 24) : ix b.nodes (wr (ino - 1)) = some (nodeP b ino) := by
  rw [wr_in (by omega) (by omega), ix_of (by omega) (by omega)]
  unfold nodeP
  rw [if_neg h1, if_neg h2]
  have hlt : (ino - 1).toNat < b.nodes.length := by omega
  simp only [List.getElem?_eq_getElem hlt, Option.getD_some]
theorem nodeP_out {b : Branch} {ino : Int} (h : ino < 1 ∨ (b.nodes.length : Int) < ino) : nodeP b ino = zeroNode := by
  unfold nodeP
  rcases h with h | h
  · rw [if_pos h]
  · rw [if_pos h]; split <;> rfl
theorem kind_zero : ¬ zeroNode.kind = 1 := by simp [zeroNode]
theorem my_enter {b : Branch} (hb : PB b) {k : Nat} {t : MS} (h : LI b k t.1) (hm : SM t) (hk : k < t.1.1.length) (w : Way) (hw : w.ino = wIno t.1 k) :
    iter (m_walk_Reach_b5 b (k : Int) w (nodeP b (wIno t.1 k))) big (0, t.1.1, t.1.2, t.2) = some ((wStepM b k t).1.1, (wStepM b k t).2, (wStepM b k t).1.2) ∧ SM (wStepM b k t) := by
  have hlen := nodeP_ents hb (wIno t.1 k)
  have hn := hb.len
  have key := (iter_fold (B := m_walk_Reach_b5 b (k : Int) w (nodeP b (wIno t.1 k))) (fun (i : Nat) (s : MS) => ((i : Int), s.1.1, s.1.2, s.2)) (nodeP b (wIno t.1 k)).entries (eStepM b k (wIno t.1 k)) (fun s => (s.1.1, s.2, s.1.2))
    (fun i u => WI b u.1.1 ∧ u.1.2.length ≤ t.1.2.length + i ∧ SM u) (by
    rintro i u hi ⟨w1, w2, w3⟩
    have htl := w1.len
    have hs2 := h.tw
    have hsl := h.wi.len
    have hat := h.at'
    obtain ⟨a1, a2, a3, a4⟩ := eStep_inv (k := k) (ino := wIno t.1 k) (e := (nodeP b (wIno t.1 k)).entries[i]) w1
    refine ⟨?_, a1, by show (eStep _ _ _ _ _).2.length ≤ _; omega, eStepM_sm w3⟩
    simp only [m_walk_Reach_b5]
    rw [if_pos (by omega), ix_at hi]
    simp only [Option.bind_some]
    generalize (nodeP b (wIno t.1 k)).entries[i] = e
    unfold eStepM eStep
    by_cases h1 : e.ino < 1
    · rw [if_pos h1, nodeP_out (.inl h1), if_neg kind_zero, if_neg (fun h => kind_zero h.1), wr_suc (by omega)]
    · rw [if_neg h1]
      by_cases h2 : (b.nodes.length : Int) < e.ino
      · rw [if_pos h2, nodeP_out (.inr h2), if_neg kind_zero, if_neg (fun h => kind_zero h.1), wr_suc (by omega)]
      · rw [if_neg h2, nodeP_in h1 h2 hn]
        simp only [Option.bind_some]
        by_cases hkd : (nodeP b e.ino).kind = 1
        · rw [if_pos hkd, if_pos hkd]
          have hg := w3 e.ino
          by_cases hs : seenB u.1.1 e.ino = true
          · rw [if_pos (by rw [hg, if_pos hs]; omega), if_pos hs, if_neg (by rw [hs]; simp), ap_of (by simp; omega) (by omega), wr_suc (by omega), hw]
            rfl
          · have hs' : seenB u.1.1 e.ino = false := by simpa using hs
            rw [if_neg (by rw [hg, if_neg hs]; omega), if_neg hs, if_pos ⟨hkd, hs'⟩, ap_of (by simp; omega) (by omega), wr_suc (by omega), hg, if_neg hs, wr_in (by omega) (by omega)]
            rfl
        · rw [if_neg hkd, if_neg hkd, if_neg (fun h => hkd h.1), wr_suc (by omega)]) (by
    rintro u ⟨w1, w2, w3⟩
    simp only [m_walk_Reach_b5]
    rw [if_neg (by omega)]) (s0 := t) ⟨h.wi, by omega, hm⟩ (fuel := big) (by rw [big_eq]; omega))
  exact ⟨key.1, key.2.2.2⟩
def wLoopM (b : Branch) (k : Nat) (t : MS) : Nat × MS := wl (wStepM b) (fun t => t.1.1.length) 25 k t
theorem wlM_fst (b : Branch) : ∀ (f k : Nat) (t : MS), (wl (wStepM b) (fun t => t.1.1.length) f k t).1 = (wl (wStep b) (fun s => s.1.length) f k t.1).1 ∧ (wl (wStepM b) (fun t => t.1.1.length) f k t).2.1 = (wl (wStep b) (fun s => s.1.length) f k t.1).2
  | 0, k, t => ⟨rfl, rfl⟩
  | f + 1, k, t => by
    unfold wl
    by_cases h : k < t.1.1.length
    · rw [if_pos h, if_pos h]
      have := wlM_fst b f (k + 1) (wStepM b k t)
      rw [wStepM_fst] at this
      exact this
    · rw [if_neg h, if_neg h]
      exact ⟨rfl, rfl⟩
theorem my_loop {b : Branch} (hb : PB b) {k : Nat} {t : MS} (h : LI b k t.1) (hm : SM t) :
    iter (m_walk_Reach_b2 b) (big + 1) ((k : Int), t.1.1, t.1.2, t.2) = some ((wLoopM b k t).2.1.1, (wLoopM b k t).2.2, (wLoopM b k t).2.1.2, ((wLoopM b k t).1 : Int)) ∧ (LI b (wLoopM b k t).1 (wLoopM b k t).2.1 ∧ SM (wLoopM b k t).2) ∧ (wLoopM b k t).1 = (wLoopM b k t).2.1.1.length := by
  have hn := hb.len
  refine iter_wl (B := m_walk_Reach_b2 b) (fun (k : Nat) (t : MS) => ((k : Int), t.1.1, t.1.2, t.2)) (wStepM b) (fun t => t.1.1.length) (fun k t => (t.1.1, t.2, t.1.2, (k : Int))) (fun k t => LI b k t.1 ∧ SM t) 24 (fun k s h => ⟨h.1.at', Nat.le_trans h.1.wi.len hn⟩) ?_ ?_ 25 k t (big + 1) ⟨h, hm⟩ (by omega) (by rw [big_eq]; omega)
  · rintro k t ⟨h, hm⟩ hk
    have hl := h.wi.len
    have he : t.1.1[k].ino = wIno t.1 k := by unfold wIno; rw [List.getElem?_eq_getElem hk]; rfl
    obtain ⟨r1, r2⟩ := nodeP_kind (h.wi.dir _ (List.getElem_mem hk))
    obtain ⟨e1, e2⟩ := my_enter hb h hm hk t.1.1[k] he
    refine ⟨?_, by rw [wStepM_fst]; exact wStep_inv hb h hk, e2⟩
    simp only [m_walk_Reach_b2]
    rw [if_pos (by omega), ix_at hk]
    simp only [Option.bind_some]
    rw [if_neg (by omega), if_neg (by omega), nodeP_in (by omega) (by omega) hn, he]
    simp only [Option.bind_some]
    rw [e1, wr_suc (by omega)]
    rfl
  · rintro k t ⟨h, hm⟩ hk
    simp only [m_walk_Reach_b2]
    rw [if_neg (by omega)]
def fStepM (b : Branch) (t : Nat × MS) (r : Int) : Nat × MS :=
  if (nodeP b r).kind = 1 ∧ seenB t.2.1.1 r = false then wLoopM b t.1 ((t.2.1.1 ++ [⟨r, -1, noBytes⟩], t.2.1.2), mset t.2.2 r 1) else t
theorem fStepM_fst (b : Branch) (t : Nat × MS) (r : Int) : ((fStepM b t r).1, (fStepM b t r).2.1) = fStep b (t.1, t.2.1) r := by
  unfold fStepM fStep
  split
  · have := wlM_fst b 25 t.1 ((t.2.1.1 ++ [⟨r, -1, noBytes⟩], t.2.1.2), mset t.2.2 r 1)
    exact Prod.ext this.1 this.2
  · rfl
theorem SM.push {t : MS} (h : SM t) (r : Int) (hs : seenB t.1.1 r = false) : SM ((t.1.1 ++ [⟨r, -1, noBytes⟩], t.1.2), mset t.2 r 1) := by
  intro i
  rw [mget_mset, seenB_push, h i]
  by_cases hi : i = r
  · subst hi; simp
  · have : ¬ r = i := fun h => hi h.symm
    simp [hi, this]
theorem my_push {b : Branch} (hb : PB b) {t : Nat × MS} (h : FI b (t.1, t.2.1)) (hm : SM t.2) (r : Int) :
    m_walk_Reach_p1 b t.2.1.1 t.2.2 r = some (if (nodeP b r).kind = 1 ∧ seenB t.2.1.1 r = false then (t.2.1.1 ++ [⟨r, -1, noBytes⟩], mset t.2.2 r 1) else (t.2.1.1, t.2.2)) := by
  have hn := hb.len
  have hl := h.li.wi.len
  simp only at hl
  unfold m_walk_Reach_p1
  by_cases h1 : r < 1
  · rw [if_pos h1, nodeP_out (.inl h1), if_neg (fun h => kind_zero h.1)]
  · rw [if_neg h1]
    by_cases h2 : (b.nodes.length : Int) < r
    · rw [if_pos h2, nodeP_out (.inr h2), if_neg (fun h => kind_zero h.1)]
    · rw [if_neg h2, nodeP_in h1 h2 hn]
      simp only [Option.bind_some]
      by_cases hk : (nodeP b r).kind = 1
      · rw [if_pos hk]
        have hg := hm r
        by_cases hs : seenB t.2.1.1 r = true
        · rw [if_pos (by rw [hg, if_pos hs]; omega), if_neg (by rw [hs]; simp)]
        · have hs' : seenB t.2.1.1 r = false := by simpa using hs
          rw [if_neg (by rw [hg, if_neg hs]; omega), if_pos ⟨hk, hs'⟩, ap_of (by simp; omega) (by omega), hg, if_neg hs, wr_in (by omega) (by omega)]
          rfl
      · rw [if_neg hk, if_neg (fun h => hk h.1)]
theorem my_walk {b : Branch} (hb : PB b) {fr : List Int} (hf : fr.length ≤ 1000) : ∃ M, iter (m_walk_Reach_b0 b fr) big (0, 0, [], [], ([] : List (Int × Int))) = some ((walkP b fr).2.1, M, (walkP b fr).2.2) := by
  have hn := hb.len
  have key := iter_fold (B := m_walk_Reach_b0 b fr) (fun (i : Nat) (t : Nat × MS) => ((t.1 : Int), (i : Int), t.2.1.1, t.2.1.2, t.2.2)) fr (fStepM b) (fun t => (t.2.1.1, t.2.2, t.2.1.2)) (fun _ t => FI b (t.1, t.2.1) ∧ SM t.2) (by
    rintro i t hi ⟨h, hm⟩
    have hl := h.li.wi.len
    have hi2 : FI b ((fStepM b t fr[i]).1, (fStepM b t fr[i]).2.1) := by rw [fStepM_fst]; exact fStep_inv hb h _
    simp only [m_walk_Reach_b0]
    rw [if_pos (by omega), ix_at hi]
    simp only [Option.bind_some]
    rw [my_push hb h hm]
    unfold fStepM at hi2 ⊢
    by_cases hc : (nodeP b fr[i]).kind = 1 ∧ seenB t.2.1.1 fr[i] = false
    · rw [if_pos hc] at hi2
      rw [if_pos hc, if_pos hc]
      have hp := h.li.push (w := ⟨fr[i], -1, noBytes⟩) hc.1 hc.2
      obtain ⟨q1, q2, q3⟩ := my_loop hb (k := t.1) (t := ((t.2.1.1 ++ [⟨fr[i], -1, noBytes⟩], t.2.1.2), mset t.2.2 fr[i] 1)) hp (hm.push _ hc.2)
      simp only [Option.bind_some]
      simp only at q1
      rw [q1, wr_suc (by omega)]
      exact ⟨rfl, hi2, q2.2⟩
    · rw [if_neg hc] at hi2
      rw [if_neg hc, if_neg hc]
      obtain ⟨q1, q2, q3⟩ := my_loop hb (k := t.1) (t := t.2) h.li hm
      have hd : wLoopM b t.1 t.2 = (t.1, t.2) := wl_done (by have := h.all; simp only at this; omega)
      rw [hd] at q1
      simp only [Option.bind_some]
      simp only at q1
      rw [q1, wr_suc (by omega)]
      exact ⟨rfl, hi2, hm⟩) (by
    rintro t ⟨h, hm⟩
    simp only [m_walk_Reach_b0]
    rw [if_neg (by omega)]) (s0 := (0, (([], []), []))) ⟨FI.nil b, fun i => by simp [mget, seenB]⟩ (fuel := big) (by rw [big_eq]; omega)
  have hfst : ∀ (l : List Int) (t : Nat × MS), ((l.foldl (fStepM b) t).1, (l.foldl (fStepM b) t).2.1) = l.foldl (fStep b) (t.1, t.2.1) := by
    intro l
    induction l with
    | nil => intro t; rfl
    | cons x l ih => intro t; rw [List.foldl_cons, List.foldl_cons, ih, fStepM_fst]
  have h2 := hfst fr (0, (([], []), []))
  have h3 : (fr.foldl (fStepM b) (0, (([], []), []))).2.1 = (walkP b fr).2 := by
    unfold walkP
    rw [← h2]
  refine ⟨(fr.foldl (fStepM b) (0, (([], []), []))).2.2, ?_⟩
  have h1 := key.1
  rw [← h3]
  exact h1
end Go.Proofs.Ytnmljicimdhpmaa.AL

/- Plain laws, part 3: what is reached. -/
set_option linter.all false
namespace Go.Proofs.Ytnmljicimdhpmaa.AL
open Go Go.Proofs

def setT (bs : List Bool) (L : List Nat) : List Bool := L.foldl (fun bs i => bs.set i true) bs
theorem setT_append (bs : List Bool) (L M : List Nat) : setT bs (L ++ M) = setT (setT bs L) M := by unfold setT; rw [List.foldl_append]
theorem setT_len (L : List Nat) : ∀ bs : List Bool, (setT bs L).length = bs.length := by
  induction L with
  | nil => intro bs; rfl
  | cons i L ih => intro bs; show (setT (bs.set i true) L).length = _; rw [ih]; simp
theorem setT_get : ∀ (L : List Nat) (bs : List Bool) (j : Nat), (setT bs L)[j]? = if j ∈ L then (bs[j]?).map (fun _ => true) else bs[j]?
  | [], bs, j => by simp [setT]
  | i :: L, bs, j => by
    show (setT (bs.set i true) L)[j]? = _
    rw [setT_get L]
    have hs : (bs.set i true)[j]? = if i = j then (bs[j]?).map (fun _ => true) else bs[j]? := by
      rw [List.getElem?_set]
      by_cases e : i = j
      · subst e
        by_cases h : i < bs.length
        · simp [h]
        · simp [h]
      · simp [e]
    rw [hs]
    by_cases h1 : j ∈ L
    · rw [if_pos h1, if_pos (List.mem_cons_of_mem _ h1)]
      split
      · cases bs[j]? <;> rfl
      · rfl
    · rw [if_neg h1]
      by_cases e : i = j
      · subst e; simp
      · have : ¬ j ∈ i :: L := by simp [h1]; omega
        rw [if_neg e, if_neg this]
theorem setT_ext {bs : List Bool} {L M : List Nat} (h : ∀ j, j ∈ L ↔ j ∈ M) : setT bs L = setT bs M := by
  refine List.ext_getElem? fun j => ?_
  rw [setT_get, setT_get]
  by_cases hj : j ∈ L
  · rw [if_pos hj, if_pos ((h j).1 hj)]
  · rw [if_neg hj, if_neg (fun k => hj ((h j).2 k))]
def idxE (n : Nat) (e : Entry) : List Nat := if 1 ≤ e.ino ∧ e.ino ≤ (n : Int) then [(e.ino - 1).toNat] else []
theorem stepE_setT {bs : List Bool} {n : Nat} (h : bs.length = n) (e : Entry) : stepE bs e = setT bs (idxE n e) := by
  unfold stepE idxE
  rw [h]
  split <;> rfl
theorem foldE_setT {n : Nat} : ∀ (es : List Entry) {bs : List Bool}, bs.length = n → es.foldl stepE bs = setT bs (es.flatMap (idxE n))
  | [], bs, h => rfl
  | e :: es, bs, h => by
    rw [List.foldl_cons, List.flatMap_cons, setT_append, stepE_setT h]
    exact foldE_setT es (by rw [setT_len]; exact h)
theorem foldW_setT : ∀ (ws : List Way) (bs : List Bool), ws.foldl stepW bs = setT bs (ws.map fun w => (w.ino - 1).toNat)
  | [], bs => rfl
  | w :: ws, bs => by rw [List.foldl_cons, foldW_setT ws]; rfl
/-- What is reached. -/
def reachL (b : Branch) (ways : List Way) : List Nat := ways.flatMap fun w => (w.ino - 1).toNat :: (nodeP b w.ino).entries.flatMap (idxE b.nodes.length)
def reachW (b : Branch) (ways : List Way) : List Bool := setT (List.replicate b.nodes.length false) (reachL b ways)
def reachP (b : Branch) (fr : List Int) : List Bool := reachW b (walkP b fr).2.1
theorem reachP_len (b : Branch) (fr : List Int) : (reachP b fr).length = b.nodes.length := by unfold reachP reachW; rw [setT_len]; simp
theorem nodeAt_eq {b : Branch} (hb : PB b) (ino : Int) : nodeAt b ino = some (nodeP b ino) := at_eq hb ino
theorem my_reach {b : Branch} (hb : PB b) {ways : List Way} (h : WI b ways) : m_walk_trail_reach b ways = some (reachW b ways) := by
  have hn := hb.len
  have hl := h.len
  unfold m_walk_trail_reach
  have hc : b.nodes.length ≤ 281474976710656 ∧ ways.length < 4611686018427387904 ∧ (∀ w ∈ ways, 1 ≤ w.ino ∧ w.ino ≤ (b.nodes.length : Int)) ∧ (∀ w ∈ ways, (nodeAt b w.ino).isSome = true) ∧ ∀ w ∈ ways, ((nodeAt b w.ino).getD default).entries.length < 4611686018427387904 := by
    refine ⟨by omega, by omega, fun w hw => nodeP_kind (h.dir w hw), fun w hw => by rw [nodeAt_eq hb]; rfl, fun w hw => ?_⟩
    rw [nodeAt_eq hb]
    have := nodeP_ents hb w.ino
    simp only [Option.getD_some]
    omega
  have hck : ck (b.nodes.length ≤ 281474976710656 ∧ ways.length < 4611686018427387904 ∧ (∀ w ∈ ways, 1 ≤ w.ino ∧ w.ino ≤ (b.nodes.length : Int)) ∧ (∀ w ∈ ways, (nodeAt b w.ino).isSome = true) ∧ ∀ w ∈ ways, ((nodeAt b w.ino).getD default).entries.length < 4611686018427387904) = some () := by
    unfold ck
    rw [if_pos hc]
  rw [hck]
  simp only [Option.bind_some]
  have hnd : (fun w : Way => (nodeAt b w.ino).getD default) = fun w => nodeP b w.ino := by funext w; rw [nodeAt_eq hb]; rfl
  rw [hnd]
  unfold reachM reachW entsN
  rw [List.take_length, foldW_setT, foldE_setT (n := b.nodes.length) _ (by rw [setT_len]; simp), ← setT_append]
  congr 1
  refine setT_ext fun j => ?_
  unfold reachL
  simp only [List.mem_append, List.mem_map, List.mem_flatMap, List.mem_cons]
  constructor
  · rintro (⟨w, hw, rfl⟩ | ⟨e, ⟨w, hw, he⟩, hj⟩)
    · exact ⟨w, hw, .inl rfl⟩
    · exact ⟨w, hw, .inr ⟨e, he, hj⟩⟩
  · rintro ⟨w, hw, rfl | ⟨e, he, hj⟩⟩
    · exact .inl ⟨w, hw, rfl⟩
    · exact .inr ⟨e, ⟨w, hw, he⟩, hj⟩
theorem walkReach_eq {b : Branch} (hb : PB b) {fr : List Int} (hf : fr.length ≤ 1000) : m_walk_Reach b fr = some (reachP b fr) := by
  obtain ⟨M, hM⟩ := my_walk hb hf
  unfold m_walk_Reach
  rw [hM]
  simp only [Option.bind_some]
  rw [my_reach hb (ref_walk hb hf).2.li.wi]
  rfl
theorem refReach_eq {b : Branch} (hb : PB b) {fr : List Int} (hf : fr.length ≤ 1000) : m_ref13_Reach b fr = some (reachP b fr) := by
  have hn := hb.len
  obtain ⟨h1, h2⟩ := ref_walk hb hf
  have hwi := h2.li.wi
  have hl := hwi.len
  unfold m_ref13_Reach m_ref13_Dirs
  have hck : ck (0 ≤ (b.nodes.length : Int) ∧ (b.nodes.length : Int) ≤ (b.nodes.length : Int) ∧ (1 : Int) * (b.nodes.length : Int) ≤ 281474976710656 ∧ (b.nodes.length : Int) ≤ 9223372036854775807) = some () := by
    unfold ck
    rw [if_pos (by omega)]
  rw [hck, h1]
  simp only [Option.bind_some]
  unfold reachP
  generalize (walkP b fr).2.1 = ways at hwi hl
  have inner : ∀ (x : Node) (bs : List Bool), x.entries.length ≤ 16 → bs.length = b.nodes.length → iter (m_ref13_Reach_b1 x) big (0, bs) = some (x.entries.foldl stepE bs) := by
    intro x bs hx hbs
    refine (iter_fold (B := m_ref13_Reach_b1 x) (fun (i : Nat) (s : List Bool) => ((i : Int), s)) x.entries stepE (fun s => s) (fun _ s => s.length = b.nodes.length) (by
      intro i s hi hs
      refine ⟨?_, by rw [stepE_len]; exact hs⟩
      simp only [m_ref13_Reach_b1]
      rw [if_pos (by omega), ix_at hi]
      simp only [Option.bind_some]
      unfold stepE
      by_cases c1 : 1 ≤ x.entries[i].ino
      · rw [if_pos c1]
        by_cases c2 : x.entries[i].ino ≤ (s.length : Int)
        · rw [if_pos c2, if_pos ⟨c1, c2⟩, wr_in (n := x.entries[i].ino - 1) (by omega) (by omega), ix_of (by omega) (by omega), wr_suc (by omega)]
          rfl
        · rw [if_neg c2, if_neg (fun h => c2 h.2), wr_suc (by omega)]
      · rw [if_neg c1, if_neg (fun h => c1 h.1), wr_suc (by omega)]) (by
      intro s hs
      simp only [m_ref13_Reach_b1]
      rw [if_neg (by omega)]) hbs (fuel := big) (by rw [big_eq]; omega)).1
  have outer := (iter_fold (B := m_ref13_Reach_b0 b ways) (fun (i : Nat) (s : List Bool) => ((i : Int), s)) ways (fun bs w => (nodeP b w.ino).entries.foldl stepE (stepW bs w)) (fun s => s) (fun _ s => s.length = b.nodes.length) (by
      intro i s hi hs
      obtain ⟨r1, r2⟩ := nodeP_kind (hwi.dir _ (List.getElem_mem hi))
      refine ⟨?_, by rw [foldE_len, stepW_len]; exact hs⟩
      simp only [m_ref13_Reach_b0]
      rw [if_pos (by omega), ix_at hi]
      simp only [Option.bind_some]
      rw [wr_in (n := ways[i].ino - 1) (by omega) (by omega), ix_of (by omega) (by omega)]
      simp only [Option.bind_some]
      rw [at_eq hb]
      simp only [Option.bind_some]
      rw [inner _ _ (nodeP_ents hb _) (by simp [hs]), wr_suc (by omega)]
      rfl) (by
      intro s hs
      simp only [m_ref13_Reach_b0]
      rw [if_neg (by omega)]) (s0 := List.replicate b.nodes.length false) (by simp) (fuel := big) (by rw [big_eq]; omega)).1
  simp only [Int.toNat_natCast] at outer ⊢
  rw [show ((0 : Nat) : Int) = 0 from rfl] at outer
  rw [outer]
  simp only [Option.bind_some]
  congr 1
  unfold reachW
  have : ∀ (ws : List Way) (bs : List Bool), bs.length = b.nodes.length → ws.foldl (fun bs w => (nodeP b w.ino).entries.foldl stepE (stepW bs w)) bs = setT bs (reachL b ws) := by
    intro ws
    induction ws with
    | nil => intro bs _; rfl
    | cons w ws ih =>
      intro bs hbs
      rw [List.foldl_cons, ih _ (by rw [foldE_len, stepW_len]; exact hbs), foldE_setT (n := b.nodes.length) _ (by rw [stepW_len]; exact hbs)]
      unfold reachL
      rw [List.flatMap_cons, setT_append]
      rfl
  exact this ways _ (by simp)
end Go.Proofs.Ytnmljicimdhpmaa.AL

/- Plain laws, part 4: the guards. -/
set_option linter.all false
namespace Go.Proofs.Ytnmljicimdhpmaa.AL
open Go Go.Proofs

/-! ### Whether one is so -/
theorem contains_tot {α : Type} {p : α → Option Bool} {f : α → Bool} : ∀ (l : List α), (∀ x ∈ l, p x = some (f x)) → l.length < 1000000 → containsM p l = some (l.any f) := by
  have key : ∀ (l : List α) (i : Nat), (∀ x ∈ l, p x = some (f x)) → ∃ r, idxM p l i = some r ∧ (0 ≤ r ↔ l.any f = true) := by
    intro l
    induction l with
    | nil => intro i _; exact ⟨-1, rfl, by simp⟩
    | cons x l ih =>
      intro i h
      unfold idxM
      rw [h x (by simp)]
      simp only [Option.bind_some]
      by_cases hx : f x = true
      · rw [if_pos hx]; exact ⟨_, rfl, by simp [hx]⟩
      · rw [if_neg hx]
        obtain ⟨r, h1, h2⟩ := ih (i + 1) (fun y hy => h y (by simp [hy]))
        exact ⟨r, h1, by rw [h2]; simp [hx]⟩
  intro l h hl
  obtain ⟨r, h1, h2⟩ := key l 0 h
  unfold containsM indexM ck
  rw [if_pos (by omega)]
  simp only [Option.bind_some]
  rw [h1]
  simp only [Option.bind_some]
  congr 1
  cases ha : l.any f with
  | true => simp [h2.2 ha]
  | false =>
    have : ¬ 0 ≤ r := fun h => by have := h2.1 h; rw [ha] at this; cases this
    simp [this]
theorem tot_fun {α : Type} {p : α → Option Bool} (h : ∀ x, ∃ r, p x = some r) : ∃ f : α → Bool, ∀ x, p x = some (f x) := ⟨fun x => Classical.choose (h x), fun x => Classical.choose_spec (h x)⟩
/-! ### Names -/
theorem letter_tot (n : Int) : ∃ r, m_ref03_letter n = some r := by
  unfold m_ref03_letter
  repeat' split
  all_goals exact ⟨_, rfl⟩
theorem right_tot (s : ByteArray) : ∃ r, m_ref03_Right s = some r := by
  unfold m_ref03_Right
  by_cases h1 : (s.size : Int) < 1
  · rw [if_pos h1]; exact ⟨_, rfl⟩
  rw [if_neg h1]
  by_cases h2 : 12 < (s.size : Int)
  · rw [if_pos h2]; exact ⟨_, rfl⟩
  rw [if_neg h2]
  split
  · exact ⟨_, rfl⟩
  split
  · exact ⟨_, rfl⟩
  obtain ⟨r, h3, _⟩ := iter_term (B := m_ref03_Right_b0 s) (R := fun _ => True) (fun i t => t = (i : Int) ∧ i ≤ s.size) s.size (by
    rintro i t ⟨rfl, hi⟩
    refine ⟨hi, ?_⟩
    simp only [m_ref03_Right_b0]
    by_cases hlt : i < s.size
    · rw [if_pos (by omega)]
      have hx : ixB s (i : Int) = some s[i] := by
        unfold ixB
        rw [if_pos (by omega)]
        simp [hlt]
      rw [hx]
      simp only [Option.bind_some]
      obtain ⟨r, hr⟩ := letter_tot (s[i].toNat : Int)
      rw [hr]
      simp only [Option.bind_some]
      split
      · exact .inr ⟨_, rfl, trivial⟩
      · rw [wr_suc (by omega)]
        exact .inl ⟨_, rfl, rfl, by omega⟩
    · rw [if_neg (by omega)]
      exact .inr ⟨_, rfl, trivial⟩) big 0 0 ⟨rfl, by omega⟩ (by rw [big_eq]; omega)
  rw [h3]
  cases r with
  | inl u => exact ⟨_, rfl⟩
  | inr r => exact ⟨_, rfl⟩
theorem odd_tot (e : Entry) : ∃ r, m_plain_odd e = some r := by
  unfold m_plain_odd
  obtain ⟨r, hr⟩ := right_tot e.name
  rw [hr]
  exact ⟨_, rfl⟩
/-! ### Nodes -/
structure NB (x : Node) : Prop where
  ents : x.entries.length ≤ 16
  has0 : 0 ≤ x.attr.has
  has1 : x.attr.has ≤ 31
theorem node_tot (x : Node) : ∃ r, m_plain_Node x = some r ∧ (r = true → NB x) := by
  unfold m_plain_Node
  obtain ⟨r, h3, h4⟩ := iter_term (B := m_plain_Node_b0 x) (R := fun r => match r with | .inl _ => True | .inr r => r = false) (fun i t => t = (i : Int) ∧ i ≤ x.entries.length ∧ ∀ (h : 0 < i) (h' : i - 1 < x.entries.length), (i : Int) - 1 ≤ x.entries[i - 1].slot ∧ x.entries[i - 1].slot < 16) 16 (by
    rintro i t ⟨rfl, hi, hp⟩
    refine ⟨?_, ?_⟩
    · by_cases h0 : 0 < i
      · have := hp h0 (by omega); omega
      · omega
    simp only [m_plain_Node_b0]
    by_cases hlt : i < x.entries.length
    · have hi16 : i ≤ 16 := by
        by_cases h0 : 0 < i
        · have := hp h0 (by omega); omega
        · omega
      rw [if_pos (by omega), ix_at hlt]
      simp only [Option.bind_some]
      by_cases c1 : x.entries[i].slot < 0
      · rw [if_pos c1]; exact .inr ⟨_, rfl, rfl⟩
      rw [if_neg c1]
      by_cases c2 : 16 ≤ x.entries[i].slot
      · rw [if_pos c2]; exact .inr ⟨_, rfl, rfl⟩
      rw [if_neg c2]
      by_cases c3 : 0 < i
      · have hw : wr ((i : Int) - 1) = ((i - 1 : Nat) : Int) := by rw [wr_in (by omega) (by omega)]; omega
        have hlt' : i - 1 < x.entries.length := by omega
        rw [if_pos (by omega), hw, ix_at hlt']
        simp only [Option.bind_some]
        by_cases c4 : x.entries[i].slot ≤ x.entries[i - 1].slot
        · rw [if_pos c4]; exact .inr ⟨_, rfl, rfl⟩
        · rw [if_neg c4, wr_suc (by omega)]
          refine .inl ⟨_, rfl, rfl, by omega, fun h h' => ?_⟩
          have := hp c3 hlt'
          simp only [Nat.add_sub_cancel]
          omega
      · rw [if_neg (by omega), wr_suc (by omega)]
        refine .inl ⟨_, rfl, rfl, by omega, fun h h' => ?_⟩
        simp only [Nat.add_sub_cancel]
        omega
    · rw [if_neg (by omega)]
      exact .inr ⟨_, rfl, trivial⟩) big 0 0 ⟨rfl, by omega, fun h => by omega⟩ (by rw [big_eq]; omega)
  rw [h3]
  cases r with
  | inr r => simp only at h4; subst h4; exact ⟨_, rfl, fun h => by cases h⟩
  | inl u =>
    simp only [Option.bind_some]
    repeat' (first
      | exact ⟨_, rfl, fun h => by cases h⟩
      | split)
    rename_i c1 c2 c3 c4 c5 c6 c7 c8 c9
    obtain ⟨f, hf⟩ := tot_fun odd_tot
    rw [contains_tot (f := f) x.entries (fun y _ => hf y) (by omega)]
    exact ⟨_, rfl, fun _ => ⟨by omega, c5, c6⟩⟩
theorem branch_tot (b : Branch) : ∃ r, m_plain_Branch b 24 = some r ∧ (r = true → b.nodes.length ≤ 24 ∧ ∀ x ∈ b.nodes, NB x) := by
  unfold m_plain_Branch
  by_cases h : (b.nodes.length : Int) ≤ 24
  · rw [if_pos h]
    have ht : ∀ x, ∃ r, m_plain_Branch_1 x = some r := fun x => by
      obtain ⟨r, h1, _⟩ := node_tot x
      unfold m_plain_Branch_1
      rw [h1]
      exact ⟨_, rfl⟩
    obtain ⟨f, hf⟩ := tot_fun ht
    rw [contains_tot (f := f) b.nodes (fun y _ => hf y) (by omega)]
    refine ⟨_, rfl, fun hr => ⟨by omega, fun x hx => ?_⟩⟩
    have hx' : f x = false := by
      simp only [Bool.not_eq_true', List.any_eq_false] at hr
      simpa using hr x hx
    obtain ⟨r, h1, h2⟩ := node_tot x
    have := hf x
    unfold m_plain_Branch_1 at this
    rw [h1, hx'] at this
    simp only [Option.bind_some, Option.some.injEq, Bool.not_eq_false'] at this
    exact h2 this
  · rw [if_neg h]
    exact ⟨_, rfl, fun h => by cases h⟩
structure SB (s : Stack) : Prop where
  low : s.lowers.length ≤ 3
  up : s.upper.nodes.length ≤ 24 ∧ ∀ x ∈ s.upper.nodes, NB x
  lows : ∀ b ∈ s.lowers, b.nodes.length ≤ 24 ∧ ∀ x ∈ b.nodes, NB x
theorem stack_tot (s : Stack) : ∃ r, m_plain_Stack s 24 = some r ∧ (r = true → SB s) := by
  unfold m_plain_Stack
  by_cases h : (s.lowers.length : Int) ≤ 3
  · rw [if_pos h]
    obtain ⟨r, h1, h2⟩ := branch_tot s.upper
    rw [h1]
    simp only [Option.bind_some]
    cases r with
    | false => exact ⟨false, by simp, fun h => by cases h⟩
    | true =>
      rw [if_pos rfl]
      have ht : ∀ x, ∃ r, m_plain_Stack_1 x 24 = some r := fun x => by
        obtain ⟨r, h1, _⟩ := branch_tot x
        unfold m_plain_Stack_1
        rw [h1]
        exact ⟨_, rfl⟩
      obtain ⟨f, hf⟩ := tot_fun ht
      rw [contains_tot (f := f) s.lowers (fun y _ => hf y) (by omega)]
      refine ⟨_, rfl, fun hr => ⟨by omega, h2 rfl, fun x hx => ?_⟩⟩
      have hx' : f x = false := by
        simp only [Bool.not_eq_true', List.any_eq_false] at hr
        simpa using hr x hx
      obtain ⟨r, h1, h2⟩ := branch_tot x
      have := hf x
      unfold m_plain_Stack_1 at this
      rw [h1, hx'] at this
      simp only [Option.bind_some, Option.some.injEq, Bool.not_eq_false'] at this
      exact h2 this
  · rw [if_neg h]
    exact ⟨_, rfl, fun h => by cases h⟩
theorem SB.pb {s : Stack} (h : SB s) : PB s.upper := ⟨h.up.1, fun x hx => (h.up.2 x hx).ents⟩
end Go.Proofs.Ytnmljicimdhpmaa.AL

