/- A law of the given program is proved: part 43 of 55. -/
import Derived.Test.YtnmljicimdhpmaaG42
set_option linter.all false
/- Plain laws, part 2: the program's walk is the document's: as walk_Reach has it. -/
set_option linter.all false
namespace Go.Proofs.Ytnmljicimdhpmaa.AL
open Go Go.Proofs

end Go.Proofs.Ytnmljicimdhpmaa.AL

/- Plain laws, part 3: what is reached. -/
set_option linter.all false
namespace Go.Proofs.Ytnmljicimdhpmaa.AL
open Go Go.Proofs

def setT (bs : List Bool) (L : List Nat) : List Bool := L.foldl (fun bs i => bs.set i true) bs
theorem setT_append (bs : List Bool) (L M : List Nat) : setT bs (L ++ M) = setT (setT bs L) M := by unfold setT; rw [List.foldl_append]
theorem setT_len (L : List Nat) : ∀ bs : List Bool, (setT bs L).length = bs.length := by
  induction L with
  | nil => intro bs; rfl
  | cons i L ih => intro bs; show (setT (bs.set i true) L).length = _; rw [ih]; simp
theorem setT_get : ∀ (L : List Nat) (bs : List Bool) (j : Nat), (setT bs L)[j]? = if j ∈ L then (bs[j]?).map (fun _ => true) else bs[j]?
  | [], bs, j => by simp [setT]
  | i :: L, bs, j => by
    show (setT (bs.set i true) L)[j]? = _
    rw [setT_get L]
    have hs : (bs.set i true)[j]? = if i = j then (bs[j]?).map (fun _ => true) else bs[j]? := by
      rw [List.getElem?_set]
      by_cases e : i = j
      · subst e
        by_cases h : i < bs.length
        · simp [h]
        · simp [h]
      · simp [e]
    rw [hs]
    by_cases h1 : j ∈ L
    · rw [if_pos h1, if_pos (List.mem_cons_of_mem _ h1)]
      split
      · cases bs[j]? <;> rfl
      · rfl
    · rw [if_neg h1]
      by_cases e : i = j
      · subst e; simp
      · have : ¬ j ∈ i :: L := by simp [h1]; omega
        rw [if_neg e, if_neg this]
theorem setT_ext {bs : List Bool} {L M : List Nat} (h : ∀ j, j ∈ L ↔ j ∈ M) : setT bs L = setT bs M := by
  refine List.ext_getElem? fun j => ?_
  rw [setT_get, setT_get]
  by_cases hj : j ∈ L
  · rw [if_pos hj, if_pos ((h j).1 hj)]
  · rw [if_neg hj, if_neg (fun k => hj ((h j).2 k))]
def idxE (n : Nat) (e : Entry) : List Nat := if 1 ≤ e.ino ∧ e.ino ≤ (n : Int) then [(e.ino - 1).toNat] else []
theorem stepE_setT {bs : List Bool} {n : Nat} (h : bs.length = n) (e : Entry) : stepE bs e = setT bs (idxE n e) := by
  unfold stepE idxE
  rw [h]
  split <;> rfl
theorem foldE_setT {n : Nat} : ∀ (es : List Entry) {bs : List Bool}, bs.length = n → es.foldl stepE bs = setT bs (es.flatMap (idxE n))
  | [], bs, h => rfl
  | e :: es, bs, h => by
    rw [List.foldl_cons, List.flatMap_cons, setT_append, stepE_setT h]
    exact foldE_setT es (by rw [setT_len]; exact h)
theorem foldW_setT : ∀ (ws : List Way) (bs : List Bool), ws.foldl stepW bs = setT bs (ws.map fun w => (w.ino - 1).toNat)
  | [], bs => rfl
  | w :: ws, bs => by rw [List.foldl_cons, foldW_setT ws]; rfl
/-- What is reached. -/
def reachL (b : Branch) (ways : List Way) : List Nat := ways.flatMap fun w => (w.ino - 1).toNat :: (nodeP b w.ino).entries.flatMap (idxE b.nodes.length)
def reachW (b : Branch) (ways : List Way) : List Bool := setT (List.replicate b.nodes.length false) (reachL b ways)
def reachP (b : Branch) (fr : List Int) : List Bool := reachW b (walkP b fr).2.1
theorem reachP_len (b : Branch) (fr : List Int) : (reachP b fr).length = b.nodes.length := by unfold reachP reachW; rw [setT_len]; simp
theorem nodeAt_eq {b : Branch} (hb : PB b) (ino : Int) : nodeAt b ino = some (nodeP b ino) := at_eq hb ino
theorem my_reach {b : Branch} (hb : PB b) {ways : List Way} (h : WI b ways) : m_walk_trail_reach b ways = some (reachW b ways) := by
  have hn := hb.len
  have hl := h.len
  unfold m_walk_trail_reach
  have hc : b.nodes.length ≤ 281474976710656 ∧ ways.length < 4611686018427387904 ∧ (∀ w ∈ ways, 1 ≤ w.ino ∧ w.ino ≤ (b.nodes.length : Int)) ∧ (∀ w ∈ ways, (nodeAt b w.ino).isSome = true) ∧ ∀ w ∈ ways, ((nodeAt b w.ino).getD default).entries.length < 4611686018427387904 := by
    refine ⟨by omega, by omega, fun w hw => nodeP_kind (h.dir w hw), fun w hw => by rw [nodeAt_eq hb]; rfl, fun w hw => ?_⟩
    rw [nodeAt_eq hb]
    have := nodeP_ents hb w.ino
    simp only [Option.getD_some]
    omega
  have hck : ck (b.nodes.length ≤ 281474976710656 ∧ ways.length < 4611686018427387904 ∧ (∀ w ∈ ways, 1 ≤ w.ino ∧ w.ino ≤ (b.nodes.length : Int)) ∧ (∀ w ∈ ways, (nodeAt b w.ino).isSome = true) ∧ ∀ w ∈ ways, ((nodeAt b w.ino).getD default).entries.length < 4611686018427387904) = some () := by
    unfold ck
    rw [if_pos hc]
  rw [hck]
  simp only [Option.bind_some]
  have hnd : (fun w : Way => (nodeAt b w.ino).getD default) = fun w => nodeP b w.ino := by funext w; rw [nodeAt_eq hb]; rfl
  rw [hnd]
  unfold reachM reachW entsN
  rw [List.take_length, foldW_setT, foldE_setT (n := b.nodes.length) _ (by rw [setT_len]; simp), ← setT_append]
  congr 1
  refine setT_ext fun j => ?_
  unfold reachL
  simp only [List.mem_append, List.mem_map, List.mem_flatMap, List.mem_cons]
  constructor
  · rintro (⟨w, hw, rfl⟩ | ⟨e, ⟨w, hw, he⟩, hj⟩)
    · exact ⟨w, hw, .inl rfl⟩
    · exact ⟨w, hw, .inr ⟨e, he, hj⟩⟩
  · rintro ⟨w, hw, rfl | ⟨e, he, hj⟩⟩
    · exact .inl ⟨w, hw, rfl⟩
    · exact .inr ⟨e, ⟨w, hw, he⟩, hj⟩
theorem refReach_eq {b : Branch} (hb : PB b) {fr : List Int} (hf : fr.length ≤ 1000) : m_ref13_Reach b fr = some (reachP b fr) := by
  have hn := hb.len
  obtain ⟨h1, h2⟩ := ref_walk hb hf
  have hwi := h2.li.wi
  have hl := hwi.len
  unfold m_ref13_Reach m_ref13_Dirs
  have hck : ck (0 ≤ (b.nodes.length : Int) ∧ (b.nodes.length : Int) ≤ (b.nodes.length : Int) ∧ (1 : Int) * (b.nodes.length : Int) ≤ 281474976710656 ∧ (b.nodes.length : Int) ≤ 9223372036854775807) = some () := by
    unfold ck
    rw [if_pos (by omega)]
  rw [hck, h1]
  simp only [Option.bind_some]
  unfold reachP
  generalize (walkP b fr).2.1 = ways at hwi hl
  have inner : ∀ (x : Node) (bs : List Bool), x.entries.length ≤ 16 → bs.length = b.nodes.length → iter (m_ref13_Reach_b1 x) big (0, bs) = some (x.entries.foldl stepE bs) := by
    intro x bs hx hbs
    refine (iter_fold (B := m_ref13_Reach_b1 x) (fun (i : Nat) (s : List Bool) => ((i : Int), s)) x.entries stepE (fun s => s) (fun _ s => s.length = b.nodes.length) (by
      intro i s hi hs
      refine ⟨?_, by rw [stepE_len]; exact hs⟩
      simp only [m_ref13_Reach_b1]
      rw [if_pos (by omega), ix_at hi]
      simp only [Option.bind_some]
      unfold stepE
      by_cases c1 : 1 ≤ x.entries[i].ino
      · rw [if_pos c1]
        by_cases c2 : x.entries[i].ino ≤ (s.length : Int)
        · rw [if_pos c2, if_pos ⟨c1, c2⟩, wr_in (n := x.entries[i].ino - 1) (by omega) (by omega), ix_of (by omega) (by omega), wr_suc (by omega)]
          rfl
        · rw [if_neg c2, if_neg (fun h => c2 h.2), wr_suc (by omega)]
      · rw [if_neg c1, if_neg (fun h => c1 h.1), wr_suc (by omega)]) (by
      intro s hs
      simp only [m_ref13_Reach_b1]
      rw [if_neg (by omega)]) hbs (fuel := big) (by rw [big_eq]; omega)).1
  have outer := (iter_fold (B := m_ref13_Reach_b0 b ways) (fun (i : Nat) (s : List Bool) => ((i : Int), s)) ways (fun bs w => (nodeP b w.ino).entries.foldl stepE (stepW bs w)) (fun s => s) (fun _ s => s.length = b.nodes.length) (by
      intro i s hi hs
      obtain ⟨r1, r2⟩ := nodeP_kind (hwi.dir _ (List.getElem_mem hi))
      refine ⟨?_, by rw [foldE_len, stepW_len]; exact hs⟩
      simp only [m_ref13_Reach_b0]
      rw [if_pos (by omega), ix_at hi]
      simp only [Option.bind_some]
      rw [wr_in (n := ways[i].ino - 1) (by omega) (by omega), ix_of (by omega) (by omega)]
      simp only [Option.bind_some]
      rw [at_eq hb]
      simp only [Option.bind_some]
      rw [inner _ _ (nodeP_ents hb _) (by simp [hs]), wr_suc (by omega)]
      rfl) (by
      intro s hs
      simp only [m_ref13_Reach_b0]
      rw [if_neg (by omega)]) (s0 := List.replicate b.nodes.length false) (by simp) (fuel := big) (by rw [big_eq]; omega)).1
  simp only [Int.toNat_natCast] at outer ⊢
  rw [show ((0 : Nat) : Int) = 0 from rfl] at outer
  rw [outer]
  simp only [Option.bind_some]
  congr 1
  unfold reachW
  have : ∀ (ws : List Way) (bs : List Bool), bs.length = b.nodes.length → ws.foldl (fun bs w => (nodeP b w.ino).entries.foldl stepE (stepW bs w)) bs = setT bs (reachL b ws) := by
    intro ws
    induction ws with
    | nil => intro bs _; rfl
    | cons w ws ih =>
      intro bs hbs
      rw [List.foldl_cons, ih _ (by rw [foldE_len, stepW_len]; exact hbs), foldE_setT (n := b.nodes.length) _ (by rw [stepW_len]; exact hbs)]
      unfold reachL
      rw [List.flatMap_cons, setT_append]
      rfl
  exact this ways _ (by simp)
end Go.Proofs.Ytnmljicimdhpmaa.AL

/- Plain laws: the pruned layer is walked as the layer is. -/
set_option linter.all false
namespace Go.Proofs.Ytnmljicimdhpmaa.AL
open Go Go.Proofs

/-- What a walk may still add from place k on. -/
structure Le (k : Nat) (s t : WS) : Prop where
  pw : s.1 <+: t.1
  pt : s.2 <+: t.2
  new : ∀ p ∈ t.2, p ∈ s.2 ∨ ∃ j, k ≤ j ∧ ∃ w, t.1[j]? = some w ∧ w.ino = p.c0
theorem pre_at {α : Type} {xs ys : List α} (h : xs <+: ys) {j : Nat} {w : α} (e : xs[j]? = some w) : ys[j]? = some w := by
  obtain ⟨zs, rfl⟩ := h
  rw [List.getElem?_append_left (List.getElem?_eq_some_iff.1 e).1]
  exact e
theorem Le.refl (k : Nat) (s : WS) : Le k s s := ⟨List.prefix_refl _, List.prefix_refl _, fun p h => .inl h⟩
theorem Le.trans {k k' : Nat} {s t u : WS} (h : Le k s t) (h' : Le k' t u) (hk : k ≤ k') : Le k s u := ⟨h.pw.trans h'.pw, h.pt.trans h'.pt, fun p hp => by
  rcases h'.new p hp with h1 | ⟨j, h1, w, h2⟩
  · rcases h.new p h1 with h2 | ⟨j, h2, w, h3, h4⟩
    · exact .inl h2
    · exact .inr ⟨j, h2, w, pre_at h'.pw h3, h4⟩
  · exact .inr ⟨j, by omega, w, h2⟩⟩
theorem eStep_pre (b : Branch) (k : Nat) (ino : Int) (s : WS) (e : Entry) : s.1 <+: (eStep b k ino s e).1 ∧ s.2 <+: (eStep b k ino s e).2 ∧ ∀ p ∈ (eStep b k ino s e).2, p ∈ s.2 ∨ p = ⟨ino, e.slot⟩ := by
  unfold eStep
  split
  · split
    · exact ⟨List.prefix_refl _, List.prefix_append _ _, fun p hp => by simpa using hp⟩
    · exact ⟨List.prefix_append _ _, List.prefix_refl _, fun p hp => .inl hp⟩
  · exact ⟨List.prefix_refl _, List.prefix_refl _, fun p hp => .inl hp⟩
theorem eFold_pre (b : Branch) (k : Nat) (ino : Int) : ∀ (es : List Entry) (s : WS), s.1 <+: (es.foldl (eStep b k ino) s).1 ∧ s.2 <+: (es.foldl (eStep b k ino) s).2 ∧ ∀ p ∈ (es.foldl (eStep b k ino) s).2, p ∈ s.2 ∨ ∃ e ∈ es, p = ⟨ino, e.slot⟩
  | [], s => ⟨List.prefix_refl _, List.prefix_refl _, fun p hp => .inl hp⟩
  | e :: es, s => by
    obtain ⟨a1, a2, a3⟩ := eStep_pre b k ino s e
    obtain ⟨b1, b2, b3⟩ := eFold_pre b k ino es (eStep b k ino s e)
    rw [List.foldl_cons]
    refine ⟨a1.trans b1, a2.trans b2, fun p hp => ?_⟩
    rcases b3 p hp with h | ⟨e', h1, h2⟩
    · rcases a3 p h with h | h
      · exact .inl h
      · exact .inr ⟨e, by simp, h⟩
    · exact .inr ⟨e', by simp [h1], h2⟩
theorem wIno_at {s : WS} {k : Nat} {w : Way} (h : s.1[k]? = some w) : wIno s k = w.ino := by unfold wIno; rw [h]; rfl
theorem wStep_le (b : Branch) {k : Nat} {s : WS} (hk : k < s.1.length) : Le k s (wStep b k s) := by
  obtain ⟨a1, a2, a3⟩ := eFold_pre b k (wIno s k) (nodeP b (wIno s k)).entries s
  refine ⟨a1, a2, fun p hp => ?_⟩
  rcases a3 p hp with h | ⟨e, h1, rfl⟩
  · exact .inl h
  · exact .inr ⟨k, Nat.le_refl _, s.1[k], pre_at a1 (List.getElem?_eq_getElem hk), (wIno_at (List.getElem?_eq_getElem hk)).symm⟩
theorem wl_le (b : Branch) : ∀ (f k : Nat) (s : WS), Le k s (wl (wStep b) (fun s => s.1.length) f k s).2 ∧ k ≤ (wl (wStep b) (fun s => s.1.length) f k s).1
  | 0, k, s => ⟨Le.refl _ _, Nat.le_refl _⟩
  | f + 1, k, s => by
    unfold wl
    split
    · rename_i hk
      obtain ⟨h1, h2⟩ := wl_le b f (k + 1) (wStep b k s)
      exact ⟨(wStep_le b hk).trans h1 (by omega), by omega⟩
    · exact ⟨Le.refl _ _, Nat.le_refl _⟩
theorem fStep_le (b : Branch) (t : Nat × WS) (r : Int) : Le t.1 t.2 (fStep b t r).2 ∧ t.1 ≤ (fStep b t r).1 := by
  unfold fStep
  split
  · obtain ⟨h1, h2⟩ := wl_le b 25 t.1 (t.2.1 ++ [⟨r, -1, noBytes⟩], t.2.2)
    exact ⟨Le.trans (t := (t.2.1 ++ [⟨r, -1, noBytes⟩], t.2.2)) ⟨List.prefix_append _ _, List.prefix_refl _, fun p h => .inl h⟩ h1 (Nat.le_refl _), h2⟩
  · exact ⟨Le.refl _ _, Nat.le_refl _⟩
theorem fFold_le (b : Branch) : ∀ (l : List Int) (t : Nat × WS), Le t.1 t.2 (l.foldl (fStep b) t).2 ∧ t.1 ≤ (l.foldl (fStep b) t).1
  | [], t => ⟨Le.refl _ _, Nat.le_refl _⟩
  | r :: l, t => by
    obtain ⟨h1, h2⟩ := fStep_le b t r
    obtain ⟨h3, h4⟩ := fFold_le b l (fStep b t r)
    rw [List.foldl_cons]
    exact ⟨h1.trans h3 h2, by omega⟩
/-! ### What has been told twice -/
def Past (b : Branch) (k : Nat) (s : WS) : Prop := ∀ p ∈ s.2, ∃ j, j < k ∧ ∃ w, s.1[j]? = some w ∧ w.ino = p.c0 ∧ ∃ e ∈ (nodeP b w.ino).entries, e.slot = p.c1 ∧ seenB s.1 e.ino = true
theorem seen_pre {xs ys : List Way} (h : xs <+: ys) {i : Int} (hs : seenB xs i = true) : seenB ys i = true := by
  obtain ⟨w, hw, e⟩ := seenB_iff.1 hs
  exact seenB_iff.2 ⟨w, h.subset hw, e⟩
theorem Past.pre {b : Branch} {k : Nat} {ws ws' : List Way} {ts : List Ar2_Int} (h : Past b k (ws, ts)) (hp : ws <+: ws') : Past b k (ws', ts) := fun p hpm => by
  obtain ⟨j, h1, w, h2, h3, e, h4, h5, h6⟩ := h p hpm
  exact ⟨j, h1, w, pre_at hp h2, h3, e, h4, h5, seen_pre hp h6⟩
theorem Past.mono {b : Branch} {k k' : Nat} {s : WS} (h : Past b k s) (hk : k ≤ k') : Past b k' s := fun p hpm => by
  obtain ⟨j, h1, h2⟩ := h p hpm
  exact ⟨j, by omega, h2⟩
theorem eFold_past {b : Branch} {k : Nat} {w : Way} : ∀ (es : List Entry) (s : WS), s.1[k]? = some w → (∀ e ∈ es, e ∈ (nodeP b w.ino).entries) → Past b (k + 1) s → Past b (k + 1) (es.foldl (eStep b k w.ino) s)
  | [], s, _, _, h => h
  | e :: es, s, hw, he, h => by
    rw [List.foldl_cons]
    refine eFold_past es _ (pre_at (eStep_pre b k w.ino s e).1 hw) (fun e' h' => he e' (by simp [h'])) ?_
    unfold eStep
    split
    · split
      · rename_i hs
        intro p hp
        rcases List.mem_append.1 hp with hp | hp
        · exact h p hp
        · simp only [List.mem_singleton] at hp
          subst hp
          exact ⟨k, by omega, w, hw, rfl, e, he e (by simp), rfl, hs⟩
      · exact Past.pre (ws := s.1) h (List.prefix_append _ _)
    · exact h
theorem wStep_past {b : Branch} {k : Nat} {s : WS} (hk : k < s.1.length) (h : Past b k s) : Past b (k + 1) (wStep b k s) := by
  have e := List.getElem?_eq_getElem hk
  unfold wStep
  rw [wIno_at e]
  exact eFold_past _ s e (fun _ h => h) (h.mono (by omega))
theorem wl_past {b : Branch} : ∀ (f k : Nat) (s : WS), Past b k s → Past b (wl (wStep b) (fun s => s.1.length) f k s).1 (wl (wStep b) (fun s => s.1.length) f k s).2
  | 0, k, s, h => h
  | f + 1, k, s, h => by
    unfold wl
    split
    · rename_i hk; exact wl_past f (k + 1) _ (wStep_past hk h)
    · exact h
theorem fStep_past {b : Branch} {t : Nat × WS} (h : Past b t.1 t.2) (r : Int) : Past b (fStep b t r).1 (fStep b t r).2 := by
  unfold fStep
  split
  · exact wl_past 25 t.1 _ (Past.pre (ws := t.2.1) h (List.prefix_append _ _))
  · exact h
theorem fFold_past {b : Branch} : ∀ (l : List Int) (t : Nat × WS), Past b t.1 t.2 → Past b (l.foldl (fStep b) t).1 (l.foldl (fStep b) t).2
  | [], t, h => h
  | r :: l, t, h => by rw [List.foldl_cons]; exact fFold_past l _ (fStep_past h r)
/-! ### The walk of the pruned layer -/
def SlotsUp (b : Branch) : Prop := ∀ i, ((nodeP b i).entries.map (·.slot)).Nodup
def keepE (T : List Ar2_Int) (ino : Int) (e : Entry) : Bool := !(T.any fun q => decide (q = (⟨ino, e.slot⟩ : Ar2_Int)))
theorem keepE_no {T : List Ar2_Int} {ino : Int} {e : Entry} : keepE T ino e = false ↔ (⟨ino, e.slot⟩ : Ar2_Int) ∈ T := by simp [keepE]
theorem keepE_yes {T : List Ar2_Int} {ino : Int} {e : Entry} : keepE T ino e = true ↔ ¬ (⟨ino, e.slot⟩ : Ar2_Int) ∈ T := by rw [← Bool.not_eq_false, keepE_no]
structure Cut (b c : Branch) (F : WS) : Prop where
  k : ∀ i, (nodeP c i).kind = 1 → (nodeP b i).kind = 1
  w : ∀ w ∈ F.1, (nodeP c w.ino).entries = (nodeP b w.ino).entries.filter (keepE F.2 w.ino)
  kw : ∀ w ∈ F.1, (nodeP c w.ino).kind = (nodeP b w.ino).kind
  ke : ∀ w ∈ F.1, ∀ e ∈ (nodeP b w.ino).entries, (nodeP c e.ino).kind = (nodeP b e.ino).kind
theorem cut_fold {b c : Branch} {T : List Ar2_Int} {k : Nat} {ino : Int} : ∀ (es : List Entry) (s : WS), (∀ e ∈ es, (nodeP c e.ino).kind = (nodeP b e.ino).kind) → (es.map (·.slot)).Nodup → (∀ e ∈ es, ¬ (⟨ino, e.slot⟩ : Ar2_Int) ∈ s.2) →
    (∀ p ∈ T, p.c0 = ino → p ∈ (es.foldl (eStep b k ino) s).2) → (∀ p ∈ (es.foldl (eStep b k ino) s).2, p ∈ T) → (es.filter (keepE T ino)).foldl (eStep c k ino) (s.1, []) = ((es.foldl (eStep b k ino) s).1, [])
  | [], s, _, _, _, _, _ => rfl
  | e :: es, s, hk, hn, hs, h1, h2 => by
    rw [List.foldl_cons] at h1 h2
    rw [List.foldl_cons]
    obtain ⟨n1, n2⟩ := List.nodup_cons.1 (show (e.slot :: es.map (·.slot)).Nodup from hn)
    have hslot : ∀ e' ∈ es, ¬ e'.slot = e.slot := fun e' he' h => n1 (List.mem_map.2 ⟨e', he', h⟩)
    obtain ⟨a1, a2, a3⟩ := eStep_pre b k ino s e
    obtain ⟨b1, b2, b3⟩ := eFold_pre b k ino es (eStep b k ino s e)
    have ih := cut_fold es (eStep b k ino s e) (fun x hx => hk x (by simp [hx])) n2 (by
      intro e' he' hm
      rcases a3 _ hm with h | h
      · exact hs e' (by simp [he']) h
      · exact hslot e' he' (congrArg Ar2_Int.c1 h)) h1 h2
    by_cases hc : (nodeP b e.ino).kind = 1 ∧ seenB s.1 e.ino = true
    · have e1 : eStep b k ino s e = (s.1, s.2 ++ [⟨ino, e.slot⟩]) := by unfold eStep; rw [if_pos hc.1, if_pos hc.2]
      have hT : (⟨ino, e.slot⟩ : Ar2_Int) ∈ T := h2 _ (b2.subset (by rw [e1]; simp))
      rw [List.filter_cons, keepE_no.2 hT, if_neg (by simp)]
      have e0 : (eStep b k ino s e).1 = s.1 := by rw [e1]
      rw [e0] at ih
      exact ih
    · have e2 : (eStep b k ino s e).2 = s.2 := by
        unfold eStep
        by_cases hk1 : (nodeP b e.ino).kind = 1
        · rw [if_pos hk1, if_neg (fun h => hc ⟨hk1, h⟩)]
        · rw [if_neg hk1]
      have hT : ¬ (⟨ino, e.slot⟩ : Ar2_Int) ∈ T := by
        intro hT
        rcases b3 _ (h1 _ hT rfl) with h | ⟨e', he', h⟩
        · rw [e2] at h; exact hs e (by simp) h
        · exact hslot e' he' (congrArg Ar2_Int.c1 h).symm
      rw [List.filter_cons, keepE_yes.2 hT, if_pos rfl, List.foldl_cons]
      have e3 : eStep c k ino (s.1, []) e = ((eStep b k ino s e).1, []) := by
        unfold eStep
        rw [hk e (by simp)]
        by_cases hk1 : (nodeP b e.ino).kind = 1
        · rw [if_pos hk1, if_pos hk1, if_neg (fun h => hc ⟨hk1, h⟩), if_neg (fun h => hc ⟨hk1, h⟩)]
        · rw [if_neg hk1, if_neg hk1]
      rw [e3]
      exact ih
theorem ino_inj {b : Branch} {ways : List Way} (h : WI b ways) {i j : Nat} {w w' : Way} (h1 : ways[i]? = some w) (h2 : ways[j]? = some w') (e : w.ino = w'.ino) : i = j := by
  have a1 : (ways.map (·.ino))[i]? = some w.ino := by rw [List.getElem?_map, h1]; rfl
  have a2 : (ways.map (·.ino))[j]? = some w.ino := by rw [List.getElem?_map, h2, e]; rfl
  obtain ⟨l1, b1⟩ := List.getElem?_eq_some_iff.1 a1
  obtain ⟨l2, b2⟩ := List.getElem?_eq_some_iff.1 a2
  have hp := List.pairwise_iff_getElem.1 h.nd
  rcases Nat.lt_trichotomy i j with hlt | rfl | hlt
  · exact absurd (b1.trans b2.symm) (hp i j l1 l2 hlt)
  · rfl
  · exact absurd (b2.trans b1.symm) (hp j i l2 l1 hlt)
theorem cut_step {b c : Branch} (hsl : SlotsUp b) {F : WS} (hF : WI b F.1) (hc : Cut b c F) {k : Nat} {s : WS} (hk : k < s.1.length) (hp : Past b k s) (hle : Le (k + 1) (wStep b k s) F) : wStep c k (s.1, []) = ((wStep b k s).1, []) := by
  have e := List.getElem?_eq_getElem hk
  have hle0 := (wStep_le b hk).trans hle (by omega)
  have hFk := pre_at hle0.pw e
  have hm : s.1[k] ∈ F.1 := List.mem_of_getElem? hFk
  have e1 : wIno s k = s.1[k].ino := wIno_at e
  have e2 : wIno ((s.1, []) : WS) k = s.1[k].ino := wIno_at e
  have key := cut_fold (b := b) (c := c) (T := F.2) (k := k) (ino := s.1[k].ino) (nodeP b s.1[k].ino).entries s (hc.ke _ hm) (hsl _) ?_ ?_ ?_
  · unfold wStep
    rw [e1, e2, hc.w _ hm]
    exact key
  · intro x hx hmem
    obtain ⟨j, h1, w, h2, h3, _⟩ := hp _ hmem
    have := ino_inj hF (pre_at hle0.pw h2) hFk h3
    omega
  · intro p hpT hpi
    rcases hle.new p hpT with h | ⟨j, h1, w, h2, h3⟩
    · unfold wStep at h
      rw [e1] at h
      exact h
    · have := ino_inj hF h2 hFk (h3.trans hpi)
      omega
  · intro p hpm
    refine hle.pt.subset ?_
    unfold wStep
    rw [e1]
    exact hpm
theorem cut_wl {b c : Branch} (hb : PB b) (hsl : SlotsUp b) {F : WS} (hF : WI b F.1) (hc : Cut b c F) : ∀ (f k : Nat) (s : WS), Past b k s → Le (wl (wStep b) (fun s => s.1.length) f k s).1 (wl (wStep b) (fun s => s.1.length) f k s).2 F → wl (wStep c) (fun s => s.1.length) f k (s.1, []) = ((wl (wStep b) (fun s => s.1.length) f k s).1, ((wl (wStep b) (fun s => s.1.length) f k s).2.1, []))
  | 0, k, s, _, _ => rfl
  | f + 1, k, s, hp, hle => by
    unfold wl at hle ⊢
    by_cases hk : k < s.1.length
    · rw [if_pos hk] at hle ⊢
      rw [if_pos hk]
      obtain ⟨g1, g2⟩ := wl_le b f (k + 1) (wStep b k s)
      rw [cut_step hsl hF hc hk hp (g1.trans hle g2)]
      exact cut_wl hb hsl hF hc f (k + 1) _ (wStep_past hk hp) hle
    · rw [if_neg hk, if_neg hk]
theorem cut_f {b c : Branch} (hb : PB b) (hsl : SlotsUp b) {F : WS} (hF : WI b F.1) (hc : Cut b c F) {t : Nat × WS} (r : Int) (hp : Past b t.1 t.2) (hle : Le (fStep b t r).1 (fStep b t r).2 F) : fStep c (t.1, (t.2.1, [])) r = ((fStep b t r).1, ((fStep b t r).2.1, [])) := by
  unfold fStep at hle ⊢
  by_cases h : (nodeP b r).kind = 1 ∧ seenB t.2.1 r = false
  · rw [if_pos h] at hle ⊢
    have hmem : (⟨r, -1, noBytes⟩ : Way) ∈ F.1 := hle.pw.subset ((wl_le b 25 t.1 (t.2.1 ++ [⟨r, -1, noBytes⟩], t.2.2)).1.pw.subset (by simp))
    have hk : (nodeP c r).kind = 1 := (hc.kw _ hmem).trans h.1
    rw [if_pos ⟨hk, h.2⟩]
    exact cut_wl hb hsl hF hc 25 t.1 (t.2.1 ++ [(⟨r, -1, noBytes⟩ : Way)], t.2.2) (Past.pre (ws := t.2.1) (ws' := t.2.1 ++ [(⟨r, -1, noBytes⟩ : Way)]) hp (List.prefix_append _ _)) hle
  · rw [if_neg h, if_neg (fun h' => h ⟨hc.k _ h'.1, h'.2⟩)]
theorem cut_fold_f {b c : Branch} (hb : PB b) (hsl : SlotsUp b) {F : WS} (hF : WI b F.1) (hc : Cut b c F) : ∀ (l : List Int) (t : Nat × WS), Past b t.1 t.2 → (l.foldl (fStep b) t).2 = F → l.foldl (fStep c) (t.1, (t.2.1, [])) = ((l.foldl (fStep b) t).1, (F.1, []))
  | [], t, _, h => by simp only [List.foldl_nil] at h ⊢; rw [h]
  | r :: l, t, hp, h => by
    rw [List.foldl_cons] at h ⊢
    rw [List.foldl_cons]
    have hle : Le (fStep b t r).1 (fStep b t r).2 F := by
      have := (fFold_le b l (fStep b t r)).1
      rw [h] at this
      exact this
    rw [cut_f hb hsl hF hc r hp hle]
    exact cut_fold_f hb hsl hF hc l _ (fStep_past hp r) h
theorem cut_walk {b c : Branch} (hb : PB b) (hsl : SlotsUp b) {fr : List Int} (hf : fr.length ≤ 1000) (hc : Cut b c (walkP b fr).2) : walkP c fr = ((walkP b fr).1, ((walkP b fr).2.1, [])) :=
  cut_fold_f hb hsl (ref_walk hb hf).2.li.wi hc fr (0, [], []) (fun p hp => by simp at hp) rfl
theorem past_walk {b : Branch} (fr : List Int) : Past b (walkP b fr).1 (walkP b fr).2 := fFold_past fr _ (fun p hp => by simp at hp)
end Go.Proofs.Ytnmljicimdhpmaa.AL

/- slices.Reverse, in place. -/
set_option linter.all false
namespace Go.Proofs.Ytnmljicimdhpmaa.AL
open Go Go.Proofs Go.RowKit
end Go.Proofs.Ytnmljicimdhpmaa.AL

/- Models of functions, and that the functions are as their models: written by gen.py. -/
set_option linter.all false
set_option maxRecDepth 100000
namespace Go.Proofs.Ytnmljicimdhpmaa.AL
open Go Go.Proofs
end Go.Proofs.Ytnmljicimdhpmaa.AL

