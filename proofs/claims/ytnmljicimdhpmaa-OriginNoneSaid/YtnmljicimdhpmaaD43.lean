/- A law of the given program is proved: part 43 of 51. -/
import Derived.Test.YtnmljicimdhpmaaD42
set_option linter.all false
/- Plain laws, part 2: the program's walk is the document's: as walk_Reach has it. -/
set_option linter.all false
namespace Go.Proofs.Ytnmljicimdhpmaa.AL
open Go Go.Proofs

theorem my_enter_walk_Reach {b : Branch} (hb : PB b) {k : Nat} {t : MS} (h : LI b k t.1) (hm : SM t) (hk : k < t.1.1.length) (w : Way) (hw : w.ino = wIno t.1 k) :
    iter (m_walk_Reach_b5 b (k : Int) w (nodeP b (wIno t.1 k))) big (0, t.1.1, t.1.2, t.2) = some ((wStepM b k t).1.1, (wStepM b k t).2, (wStepM b k t).1.2) ∧ SM (wStepM b k t) := by
  have hlen := nodeP_ents hb (wIno t.1 k)
  have hn := hb.len
  have key := (iter_fold (B := m_walk_Reach_b5 b (k : Int) w (nodeP b (wIno t.1 k))) (fun (i : Nat) (s : MS) => ((i : Int), s.1.1, s.1.2, s.2)) (nodeP b (wIno t.1 k)).entries (eStepM b k (wIno t.1 k)) (fun s => (s.1.1, s.2, s.1.2))
    (fun i u => WI b u.1.1 ∧ u.1.2.length ≤ t.1.2.length + i ∧ SM u) (by
    rintro i u hi ⟨w1, w2, w3⟩
    have htl := w1.len
    have hs2 := h.tw
    have hsl := h.wi.len
    have hat := h.at'
    obtain ⟨a1, a2, a3, a4⟩ := eStep_inv (k := k) (ino := wIno t.1 k) (e := (nodeP b (wIno t.1 k)).entries[i]) w1
    refine ⟨?_, a1, by show (eStep _ _ _ _ _).2.length ≤ _; omega, eStepM_sm w3⟩
    simp only [m_walk_Reach_b5]
    rw [if_pos (by omega), ix_at hi]
    simp only [Option.bind_some]
    generalize (nodeP b (wIno t.1 k)).entries[i] = e
    unfold eStepM eStep
    by_cases h1 : e.ino < 1
    · rw [if_pos h1, nodeP_out (.inl h1), if_neg kind_zero, if_neg (fun h => kind_zero h.1), wr_suc (by omega)]
    · rw [if_neg h1]
      by_cases h2 : (b.nodes.length : Int) < e.ino
      · rw [if_pos h2, nodeP_out (.inr h2), if_neg kind_zero, if_neg (fun h => kind_zero h.1), wr_suc (by omega)]
      · rw [if_neg h2, nodeP_in h1 h2 hn]
        simp only [Option.bind_some]
        by_cases hkd : (nodeP b e.ino).kind = 1
        · rw [if_pos hkd, if_pos hkd]
          have hg := w3 e.ino
          by_cases hs : seenB u.1.1 e.ino = true
          · rw [if_pos (by rw [hg, if_pos hs]; omega), if_pos hs, if_neg (by rw [hs]; simp), ap_of (by simp; omega) (by omega), wr_suc (by omega), hw]
            rfl
          · have hs' : seenB u.1.1 e.ino = false := by simpa using hs
            rw [if_neg (by rw [hg, if_neg hs]; omega), if_neg hs, if_pos ⟨hkd, hs'⟩, ap_of (by simp; omega) (by omega), wr_suc (by omega), hg, if_neg hs, wr_in (by omega) (by omega)]
            rfl
        · rw [if_neg hkd, if_neg hkd, if_neg (fun h => hkd h.1), wr_suc (by omega)]) (by
    rintro u ⟨w1, w2, w3⟩
    simp only [m_walk_Reach_b5]
    rw [if_neg (by omega)]) (s0 := t) ⟨h.wi, by omega, hm⟩ (fuel := big) (by rw [big_eq]; omega))
  exact ⟨key.1, key.2.2.2⟩
theorem my_loop_walk_Reach {b : Branch} (hb : PB b) {k : Nat} {t : MS} (h : LI b k t.1) (hm : SM t) :
    iter (m_walk_Reach_b2 b) (big + 1) ((k : Int), t.1.1, t.1.2, t.2) = some ((wLoopM b k t).2.1.1, (wLoopM b k t).2.2, (wLoopM b k t).2.1.2, ((wLoopM b k t).1 : Int)) ∧ (LI b (wLoopM b k t).1 (wLoopM b k t).2.1 ∧ SM (wLoopM b k t).2) ∧ (wLoopM b k t).1 = (wLoopM b k t).2.1.1.length := by
  have hn := hb.len
  refine iter_wl (B := m_walk_Reach_b2 b) (fun (k : Nat) (t : MS) => ((k : Int), t.1.1, t.1.2, t.2)) (wStepM b) (fun t => t.1.1.length) (fun k t => (t.1.1, t.2, t.1.2, (k : Int))) (fun k t => LI b k t.1 ∧ SM t) 24 (fun k s h => ⟨h.1.at', Nat.le_trans h.1.wi.len hn⟩) ?_ ?_ 25 k t (big + 1) ⟨h, hm⟩ (by omega) (by rw [big_eq]; omega)
  · rintro k t ⟨h, hm⟩ hk
    have hl := h.wi.len
    have he : t.1.1[k].ino = wIno t.1 k := by unfold wIno; rw [List.getElem?_eq_getElem hk]; rfl
    obtain ⟨r1, r2⟩ := nodeP_kind (h.wi.dir _ (List.getElem_mem hk))
    obtain ⟨e1, e2⟩ := my_enter_walk_Reach hb h hm hk t.1.1[k] he
    refine ⟨?_, by rw [wStepM_fst]; exact wStep_inv hb h hk, e2⟩
    simp only [m_walk_Reach_b2]
    rw [if_pos (by omega), ix_at hk]
    simp only [Option.bind_some]
    rw [if_neg (by omega), if_neg (by omega), nodeP_in (by omega) (by omega) hn, he]
    simp only [Option.bind_some]
    rw [e1, wr_suc (by omega)]
    rfl
  · rintro k t ⟨h, hm⟩ hk
    simp only [m_walk_Reach_b2]
    rw [if_neg (by omega)]
theorem my_push_walk_Reach {b : Branch} (hb : PB b) {t : Nat × MS} (h : FI b (t.1, t.2.1)) (hm : SM t.2) (r : Int) :
    m_walk_Reach_p1 b t.2.1.1 t.2.2 r = some (if (nodeP b r).kind = 1 ∧ seenB t.2.1.1 r = false then (t.2.1.1 ++ [⟨r, -1, noBytes⟩], mset t.2.2 r 1) else (t.2.1.1, t.2.2)) := by
  have hn := hb.len
  have hl := h.li.wi.len
  simp only at hl
  unfold m_walk_Reach_p1
  by_cases h1 : r < 1
  · rw [if_pos h1, nodeP_out (.inl h1), if_neg (fun h => kind_zero h.1)]
  · rw [if_neg h1]
    by_cases h2 : (b.nodes.length : Int) < r
    · rw [if_pos h2, nodeP_out (.inr h2), if_neg (fun h => kind_zero h.1)]
    · rw [if_neg h2, nodeP_in h1 h2 hn]
      simp only [Option.bind_some]
      by_cases hk : (nodeP b r).kind = 1
      · rw [if_pos hk]
        have hg := hm r
        by_cases hs : seenB t.2.1.1 r = true
        · rw [if_pos (by rw [hg, if_pos hs]; omega), if_neg (by rw [hs]; simp)]
        · have hs' : seenB t.2.1.1 r = false := by simpa using hs
          rw [if_neg (by rw [hg, if_neg hs]; omega), if_pos ⟨hk, hs'⟩, ap_of (by simp; omega) (by omega), hg, if_neg hs, wr_in (by omega) (by omega)]
          rfl
      · rw [if_neg hk, if_neg (fun h => hk h.1)]
theorem my_walk_walk_Reach {b : Branch} (hb : PB b) {fr : List Int} (hf : fr.length ≤ 1000) : ∃ M, iter (m_walk_Reach_b0 b fr) big (0, 0, [], [], ([] : List (Int × Int))) = some ((walkP b fr).2.1, M, (walkP b fr).2.2) := by
  have hn := hb.len
  have key := iter_fold (B := m_walk_Reach_b0 b fr) (fun (i : Nat) (t : Nat × MS) => ((t.1 : Int), (i : Int), t.2.1.1, t.2.1.2, t.2.2)) fr (fStepM b) (fun t => (t.2.1.1, t.2.2, t.2.1.2)) (fun _ t => FI b (t.1, t.2.1) ∧ SM t.2) (by
    rintro i t hi ⟨h, hm⟩
    have hl := h.li.wi.len
    have hi2 : FI b ((fStepM b t fr[i]).1, (fStepM b t fr[i]).2.1) := by rw [fStepM_fst]; exact fStep_inv hb h _
    simp only [m_walk_Reach_b0]
    rw [if_pos (by omega), ix_at hi]
    simp only [Option.bind_some]
    rw [my_push_walk_Reach hb h hm]
    unfold fStepM at hi2 ⊢
    by_cases hc : (nodeP b fr[i]).kind = 1 ∧ seenB t.2.1.1 fr[i] = false
    · rw [if_pos hc] at hi2
      rw [if_pos hc, if_pos hc]
      have hp := h.li.push (w := ⟨fr[i], -1, noBytes⟩) hc.1 hc.2
      obtain ⟨q1, q2, q3⟩ := my_loop_walk_Reach hb (k := t.1) (t := ((t.2.1.1 ++ [⟨fr[i], -1, noBytes⟩], t.2.1.2), mset t.2.2 fr[i] 1)) hp (hm.push _ hc.2)
      simp only [Option.bind_some]
      simp only at q1
      rw [q1, wr_suc (by omega)]
      exact ⟨rfl, hi2, q2.2⟩
    · rw [if_neg hc] at hi2
      rw [if_neg hc, if_neg hc]
      obtain ⟨q1, q2, q3⟩ := my_loop_walk_Reach hb (k := t.1) (t := t.2) h.li hm
      have hd : wLoopM b t.1 t.2 = (t.1, t.2) := wl_done (by have := h.all; simp only at this; omega)
      rw [hd] at q1
      simp only [Option.bind_some]
      simp only at q1
      rw [q1, wr_suc (by omega)]
      exact ⟨rfl, hi2, hm⟩) (by
    rintro t ⟨h, hm⟩
    simp only [m_walk_Reach_b0]
    rw [if_neg (by omega)]) (s0 := (0, (([], []), []))) ⟨FI.nil b, fun i => by simp [mget, seenB]⟩ (fuel := big) (by rw [big_eq]; omega)
  have hfst : ∀ (l : List Int) (t : Nat × MS), ((l.foldl (fStepM b) t).1, (l.foldl (fStepM b) t).2.1) = l.foldl (fStep b) (t.1, t.2.1) := by
    intro l
    induction l with
    | nil => intro t; rfl
    | cons x l ih => intro t; rw [List.foldl_cons, List.foldl_cons, ih, fStepM_fst]
  have h2 := hfst fr (0, (([], []), []))
  have h3 : (fr.foldl (fStepM b) (0, (([], []), []))).2.1 = (walkP b fr).2 := by
    unfold walkP
    rw [← h2]
  refine ⟨(fr.foldl (fStepM b) (0, (([], []), []))).2.2, ?_⟩
  have h1 := key.1
  rw [← h3]
  exact h1

end Go.Proofs.Ytnmljicimdhpmaa.AL

/- Plain laws, part 3: what is reached. -/
set_option linter.all false
namespace Go.Proofs.Ytnmljicimdhpmaa.AL
open Go Go.Proofs

def setT (bs : List Bool) (L : List Nat) : List Bool := L.foldl (fun bs i => bs.set i true) bs
theorem setT_append (bs : List Bool) (L M : List Nat) : setT bs (L ++ M) = setT (setT bs L) M := by unfold setT; rw [List.foldl_append]
theorem setT_len (L : List Nat) : ∀ bs : List Bool, (setT bs L).length = bs.length := by
  induction L with
  | nil => intro bs; rfl
  | cons i L ih => intro bs; show (setT (bs.set i true) L).length = _; rw [ih]; simp
theorem setT_get : ∀ (L : List Nat) (bs : List Bool) (j : Nat), (setT bs L)[j]? = if j ∈ L then (bs[j]?).map (fun _ => true) else bs[j]?
  | [], bs, j => by simp [setT]
  | i :: L, bs, j => by
    show (setT (bs.set i true) L)[j]? = _
    rw [setT_get L]
    have hs : (bs.set i true)[j]? = if i = j then (bs[j]?).map (fun _ => true) else bs[j]? := by
      rw [List.getElem?_set]
      by_cases e : i = j
      · subst e
        by_cases h : i < bs.length
        · simp [h]
        · simp [h]
      · simp [e]
    rw [hs]
    by_cases h1 : j ∈ L
    · rw [if_pos h1, if_pos (List.mem_cons_of_mem _ h1)]
      split
      · cases bs[j]? <;> rfl
      · rfl
    · rw [if_neg h1]
      by_cases e : i = j
      · subst e; simp
      · have : ¬ j ∈ i :: L := by simp [h1]; omega
        rw [if_neg e, if_neg this]
theorem setT_ext {bs : List Bool} {L M : List Nat} (h : ∀ j, j ∈ L ↔ j ∈ M) : setT bs L = setT bs M := by
  refine List.ext_getElem? fun j => ?_
  rw [setT_get, setT_get]
  by_cases hj : j ∈ L
  · rw [if_pos hj, if_pos ((h j).1 hj)]
  · rw [if_neg hj, if_neg (fun k => hj ((h j).2 k))]
def idxE (n : Nat) (e : Entry) : List Nat := if 1 ≤ e.ino ∧ e.ino ≤ (n : Int) then [(e.ino - 1).toNat] else []
theorem stepE_setT {bs : List Bool} {n : Nat} (h : bs.length = n) (e : Entry) : stepE bs e = setT bs (idxE n e) := by
  unfold stepE idxE
  rw [h]
  split <;> rfl
theorem foldE_setT {n : Nat} : ∀ (es : List Entry) {bs : List Bool}, bs.length = n → es.foldl stepE bs = setT bs (es.flatMap (idxE n))
  | [], bs, h => rfl
  | e :: es, bs, h => by
    rw [List.foldl_cons, List.flatMap_cons, setT_append, stepE_setT h]
    exact foldE_setT es (by rw [setT_len]; exact h)
theorem foldW_setT : ∀ (ws : List Way) (bs : List Bool), ws.foldl stepW bs = setT bs (ws.map fun w => (w.ino - 1).toNat)
  | [], bs => rfl
  | w :: ws, bs => by rw [List.foldl_cons, foldW_setT ws]; rfl
/-- What is reached. -/
def reachL (b : Branch) (ways : List Way) : List Nat := ways.flatMap fun w => (w.ino - 1).toNat :: (nodeP b w.ino).entries.flatMap (idxE b.nodes.length)
def reachW (b : Branch) (ways : List Way) : List Bool := setT (List.replicate b.nodes.length false) (reachL b ways)
def reachP (b : Branch) (fr : List Int) : List Bool := reachW b (walkP b fr).2.1
theorem reachP_len (b : Branch) (fr : List Int) : (reachP b fr).length = b.nodes.length := by unfold reachP reachW; rw [setT_len]; simp
theorem nodeAt_eq {b : Branch} (hb : PB b) (ino : Int) : nodeAt b ino = some (nodeP b ino) := at_eq hb ino
theorem my_reach {b : Branch} (hb : PB b) {ways : List Way} (h : WI b ways) : m_walk_trail_reach b ways = some (reachW b ways) := by
  have hn := hb.len
  have hl := h.len
  unfold m_walk_trail_reach
  have hc : b.nodes.length ≤ 281474976710656 ∧ ways.length < 4611686018427387904 ∧ (∀ w ∈ ways, 1 ≤ w.ino ∧ w.ino ≤ (b.nodes.length : Int)) ∧ (∀ w ∈ ways, (nodeAt b w.ino).isSome = true) ∧ ∀ w ∈ ways, ((nodeAt b w.ino).getD default).entries.length < 4611686018427387904 := by
    refine ⟨by omega, by omega, fun w hw => nodeP_kind (h.dir w hw), fun w hw => by rw [nodeAt_eq hb]; rfl, fun w hw => ?_⟩
    rw [nodeAt_eq hb]
    have := nodeP_ents hb w.ino
    simp only [Option.getD_some]
    omega
  have hck : ck (b.nodes.length ≤ 281474976710656 ∧ ways.length < 4611686018427387904 ∧ (∀ w ∈ ways, 1 ≤ w.ino ∧ w.ino ≤ (b.nodes.length : Int)) ∧ (∀ w ∈ ways, (nodeAt b w.ino).isSome = true) ∧ ∀ w ∈ ways, ((nodeAt b w.ino).getD default).entries.length < 4611686018427387904) = some () := by
    unfold ck
    rw [if_pos hc]
  rw [hck]
  simp only [Option.bind_some]
  have hnd : (fun w : Way => (nodeAt b w.ino).getD default) = fun w => nodeP b w.ino := by funext w; rw [nodeAt_eq hb]; rfl
  rw [hnd]
  unfold reachM reachW entsN
  rw [List.take_length, foldW_setT, foldE_setT (n := b.nodes.length) _ (by rw [setT_len]; simp), ← setT_append]
  congr 1
  refine setT_ext fun j => ?_
  unfold reachL
  simp only [List.mem_append, List.mem_map, List.mem_flatMap, List.mem_cons]
  constructor
  · rintro (⟨w, hw, rfl⟩ | ⟨e, ⟨w, hw, he⟩, hj⟩)
    · exact ⟨w, hw, .inl rfl⟩
    · exact ⟨w, hw, .inr ⟨e, he, hj⟩⟩
  · rintro ⟨w, hw, rfl | ⟨e, he, hj⟩⟩
    · exact .inl ⟨w, hw, rfl⟩
    · exact .inr ⟨e, ⟨w, hw, he⟩, hj⟩
theorem walkReach_eq {b : Branch} (hb : PB b) {fr : List Int} (hf : fr.length ≤ 1000) : m_walk_Reach b fr = some (reachP b fr) := by
  obtain ⟨M, hM⟩ := my_walk_walk_Reach hb hf
  unfold m_walk_Reach
  rw [hM]
  simp only [Option.bind_some]
  rw [my_reach hb (ref_walk hb hf).2.li.wi]
  rfl
end Go.Proofs.Ytnmljicimdhpmaa.AL

/- Plain laws, part 4: the guards. -/
set_option linter.all false
namespace Go.Proofs.Ytnmljicimdhpmaa.AL
open Go Go.Proofs

/-! ### Whether one is so -/
theorem contains_tot {α : Type} {p : α → Option Bool} {f : α → Bool} : ∀ (l : List α), (∀ x ∈ l, p x = some (f x)) → l.length < 1000000 → containsM p l = some (l.any f) := by
  have key : ∀ (l : List α) (i : Nat), (∀ x ∈ l, p x = some (f x)) → ∃ r, idxM p l i = some r ∧ (0 ≤ r ↔ l.any f = true) := by
    intro l
    induction l with
    | nil => intro i _; exact ⟨-1, rfl, by simp⟩
    | cons x l ih =>
      intro i h
      unfold idxM
      rw [h x (by simp)]
      simp only [Option.bind_some]
      by_cases hx : f x = true
      · rw [if_pos hx]; exact ⟨_, rfl, by simp [hx]⟩
      · rw [if_neg hx]
        obtain ⟨r, h1, h2⟩ := ih (i + 1) (fun y hy => h y (by simp [hy]))
        exact ⟨r, h1, by rw [h2]; simp [hx]⟩
  intro l h hl
  obtain ⟨r, h1, h2⟩ := key l 0 h
  unfold containsM indexM ck
  rw [if_pos (by omega)]
  simp only [Option.bind_some]
  rw [h1]
  simp only [Option.bind_some]
  congr 1
  cases ha : l.any f with
  | true => simp [h2.2 ha]
  | false =>
    have : ¬ 0 ≤ r := fun h => by have := h2.1 h; rw [ha] at this; cases this
    simp [this]
theorem tot_fun {α : Type} {p : α → Option Bool} (h : ∀ x, ∃ r, p x = some r) : ∃ f : α → Bool, ∀ x, p x = some (f x) := ⟨fun x => Classical.choose (h x), fun x => Classical.choose_spec (h x)⟩
/-! ### Names -/
theorem letter_tot (n : Int) : ∃ r, m_ref03_letter n = some r := by
  unfold m_ref03_letter
  repeat' split
  all_goals exact ⟨_, rfl⟩
theorem right_tot (s : ByteArray) : ∃ r, m_ref03_Right s = some r := by
  unfold m_ref03_Right
  by_cases h1 : (s.size : Int) < 1
  · rw [if_pos h1]; exact ⟨_, rfl⟩
  rw [if_neg h1]
  by_cases h2 : 12 < (s.size : Int)
  · rw [if_pos h2]; exact ⟨_, rfl⟩
  rw [if_neg h2]
  split
  · exact ⟨_, rfl⟩
  split
  · exact ⟨_, rfl⟩
  obtain ⟨r, h3, _⟩ := iter_term (B := m_ref03_Right_b0 s) (R := fun _ => True) (fun i t => t = (i : Int) ∧ i ≤ s.size) s.size (by
    rintro i t ⟨rfl, hi⟩
    refine ⟨hi, ?_⟩
    simp only [m_ref03_Right_b0]
    by_cases hlt : i < s.size
    · rw [if_pos (by omega)]
      have hx : ixB s (i : Int) = some s[i] := by
        unfold ixB
        rw [if_pos (by omega)]
        simp [hlt]
      rw [hx]
      simp only [Option.bind_some]
      obtain ⟨r, hr⟩ := letter_tot (s[i].toNat : Int)
      rw [hr]
      simp only [Option.bind_some]
      split
      · exact .inr ⟨_, rfl, trivial⟩
      · rw [wr_suc (by omega)]
        exact .inl ⟨_, rfl, rfl, by omega⟩
    · rw [if_neg (by omega)]
      exact .inr ⟨_, rfl, trivial⟩) big 0 0 ⟨rfl, by omega⟩ (by rw [big_eq]; omega)
  rw [h3]
  cases r with
  | inl u => exact ⟨_, rfl⟩
  | inr r => exact ⟨_, rfl⟩
theorem odd_tot (e : Entry) : ∃ r, m_plain_odd e = some r := by
  unfold m_plain_odd
  obtain ⟨r, hr⟩ := right_tot e.name
  rw [hr]
  exact ⟨_, rfl⟩
/-! ### Nodes -/
structure NB (x : Node) : Prop where
  ents : x.entries.length ≤ 16
  has0 : 0 ≤ x.attr.has
  has1 : x.attr.has ≤ 31
theorem node_tot (x : Node) : ∃ r, m_plain_Node x = some r ∧ (r = true → NB x) := by
  unfold m_plain_Node
  obtain ⟨r, h3, h4⟩ := iter_term (B := m_plain_Node_b0 x) (R := fun r => match r with | .inl _ => True | .inr r => r = false) (fun i t => t = (i : Int) ∧ i ≤ x.entries.length ∧ ∀ (h : 0 < i) (h' : i - 1 < x.entries.length), (i : Int) - 1 ≤ x.entries[i - 1].slot ∧ x.entries[i - 1].slot < 16) 16 (by
    rintro i t ⟨rfl, hi, hp⟩
    refine ⟨?_, ?_⟩
    · by_cases h0 : 0 < i
      · have := hp h0 (by omega); omega
      · omega
    simp only [m_plain_Node_b0]
    by_cases hlt : i < x.entries.length
    · have hi16 : i ≤ 16 := by
        by_cases h0 : 0 < i
        · have := hp h0 (by omega); omega
        · omega
      rw [if_pos (by omega), ix_at hlt]
      simp only [Option.bind_some]
      by_cases c1 : x.entries[i].slot < 0
      · rw [if_pos c1]; exact .inr ⟨_, rfl, rfl⟩
      rw [if_neg c1]
      by_cases c2 : 16 ≤ x.entries[i].slot
      · rw [if_pos c2]; exact .inr ⟨_, rfl, rfl⟩
      rw [if_neg c2]
      by_cases c3 : 0 < i
      · have hw : wr ((i : Int) - 1) = ((i - 1 : Nat) : Int) := by rw [wr_in (by omega) (by omega)]; omega
        have hlt' : i - 1 < x.entries.length := by omega
        rw [if_pos (by omega), hw, ix_at hlt']
        simp only [Option.bind_some]
        by_cases c4 : x.entries[i].slot ≤ x.entries[i - 1].slot
        · rw [if_pos c4]; exact .inr ⟨_, rfl, rfl⟩
        · rw [if_neg c4, wr_suc (by omega)]
          refine .inl ⟨_, rfl, rfl, by omega, fun h h' => ?_⟩
          have := hp c3 hlt'
          simp only [Nat.add_sub_cancel]
          omega
      · rw [if_neg (by omega), wr_suc (by omega)]
        refine .inl ⟨_, rfl, rfl, by omega, fun h h' => ?_⟩
        simp only [Nat.add_sub_cancel]
        omega
    · rw [if_neg (by omega)]
      exact .inr ⟨_, rfl, trivial⟩) big 0 0 ⟨rfl, by omega, fun h => by omega⟩ (by rw [big_eq]; omega)
  rw [h3]
  cases r with
  | inr r => simp only at h4; subst h4; exact ⟨_, rfl, fun h => by cases h⟩
  | inl u =>
    simp only [Option.bind_some]
    repeat' (first
      | exact ⟨_, rfl, fun h => by cases h⟩
      | split)
    rename_i c1 c2 c3 c4 c5 c6 c7 c8 c9
    obtain ⟨f, hf⟩ := tot_fun odd_tot
    rw [contains_tot (f := f) x.entries (fun y _ => hf y) (by omega)]
    exact ⟨_, rfl, fun _ => ⟨by omega, c5, c6⟩⟩
theorem branch_tot (b : Branch) : ∃ r, m_plain_Branch b 24 = some r ∧ (r = true → b.nodes.length ≤ 24 ∧ ∀ x ∈ b.nodes, NB x) := by
  unfold m_plain_Branch
  by_cases h : (b.nodes.length : Int) ≤ 24
  · rw [if_pos h]
    have ht : ∀ x, ∃ r, m_plain_Branch_1 x = some r := fun x => by
      obtain ⟨r, h1, _⟩ := node_tot x
      unfold m_plain_Branch_1
      rw [h1]
      exact ⟨_, rfl⟩
    obtain ⟨f, hf⟩ := tot_fun ht
    rw [contains_tot (f := f) b.nodes (fun y _ => hf y) (by omega)]
    refine ⟨_, rfl, fun hr => ⟨by omega, fun x hx => ?_⟩⟩
    have hx' : f x = false := by
      simp only [Bool.not_eq_true', List.any_eq_false] at hr
      simpa using hr x hx
    obtain ⟨r, h1, h2⟩ := node_tot x
    have := hf x
    unfold m_plain_Branch_1 at this
    rw [h1, hx'] at this
    simp only [Option.bind_some, Option.some.injEq, Bool.not_eq_false'] at this
    exact h2 this
  · rw [if_neg h]
    exact ⟨_, rfl, fun h => by cases h⟩
structure SB (s : Stack) : Prop where
  low : s.lowers.length ≤ 3
  up : s.upper.nodes.length ≤ 24 ∧ ∀ x ∈ s.upper.nodes, NB x
  lows : ∀ b ∈ s.lowers, b.nodes.length ≤ 24 ∧ ∀ x ∈ b.nodes, NB x
theorem stack_tot (s : Stack) : ∃ r, m_plain_Stack s 24 = some r ∧ (r = true → SB s) := by
  unfold m_plain_Stack
  by_cases h : (s.lowers.length : Int) ≤ 3
  · rw [if_pos h]
    obtain ⟨r, h1, h2⟩ := branch_tot s.upper
    rw [h1]
    simp only [Option.bind_some]
    cases r with
    | false => exact ⟨false, by simp, fun h => by cases h⟩
    | true =>
      rw [if_pos rfl]
      have ht : ∀ x, ∃ r, m_plain_Stack_1 x 24 = some r := fun x => by
        obtain ⟨r, h1, _⟩ := branch_tot x
        unfold m_plain_Stack_1
        rw [h1]
        exact ⟨_, rfl⟩
      obtain ⟨f, hf⟩ := tot_fun ht
      rw [contains_tot (f := f) s.lowers (fun y _ => hf y) (by omega)]
      refine ⟨_, rfl, fun hr => ⟨by omega, h2 rfl, fun x hx => ?_⟩⟩
      have hx' : f x = false := by
        simp only [Bool.not_eq_true', List.any_eq_false] at hr
        simpa using hr x hx
      obtain ⟨r, h1, h2⟩ := branch_tot x
      have := hf x
      unfold m_plain_Stack_1 at this
      rw [h1, hx'] at this
      simp only [Option.bind_some, Option.some.injEq, Bool.not_eq_false'] at this
      exact h2 this
  · rw [if_neg h]
    exact ⟨_, rfl, fun h => by cases h⟩
theorem SB.pb {s : Stack} (h : SB s) : PB s.upper := ⟨h.up.1, fun x hx => (h.up.2 x hx).ents⟩
end Go.Proofs.Ytnmljicimdhpmaa.AL

