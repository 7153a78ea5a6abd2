/- A law of the given program is proved: part 50 of 50. -/
import Derived.Test.YtnmljicimdhpmaaF49
set_option linter.all false
/- Plain laws, part 2: the program's walk is the document's: as walk_Reach has it. -/
set_option linter.all false
namespace Go.Proofs.Ytnmljicimdhpmaa.AL
open Go Go.Proofs

theorem my_enter_walk_Reach {b : Branch} (hb : PB b) {k : Nat} {t : MS} (h : LI b k t.1) (hm : SM t) (hk : k < t.1.1.length) (w : Way) (hw : w.ino = wIno t.1 k) :
    iter (m_walk_Reach_b5 b (k : Int) w (nodeP b (wIno t.1 k))) big (0, t.1.1, t.1.2, t.2) = some ((wStepM b k t).1.1, (wStepM b k t).2, (wStepM b k t).1.2) ∧ SM (wStepM b k t) := by
  have hlen := nodeP_ents hb (wIno t.1 k)
  have hn := hb.len
  have key := (iter_fold (B := m_walk_Reach_b5 b (k : Int) w (nodeP b (wIno t.1 k))) (fun (i : Nat) (s : MS) => ((i : Int), s.1.1, s.1.2, s.2)) (nodeP b (wIno t.1 k)).entries (eStepM b k (wIno t.1 k)) (fun s => (s.1.1, s.2, s.1.2))
    (fun i u => WI b u.1.1 ∧ u.1.2.length ≤ t.1.2.length + i ∧ SM u) (by
    rintro i u hi ⟨w1, w2, w3⟩
    have htl := w1.len
    have hs2 := h.tw
    have hsl := h.wi.len
    have hat := h.at'
    obtain ⟨a1, a2, a3, a4⟩ := eStep_inv (k := k) (ino := wIno t.1 k) (e := (nodeP b (wIno t.1 k)).entries[i]) w1
    refine ⟨?_, a1, by show (eStep _ _ _ _ _).2.length ≤ _; omega, eStepM_sm w3⟩
    simp only [m_walk_Reach_b5]
    rw [if_pos (by omega), ix_at hi]
    simp only [Option.bind_some]
    generalize (nodeP b (wIno t.1 k)).entries[i] = e
    unfold eStepM eStep
    by_cases h1 : e.ino < 1
    · rw [if_pos h1, nodeP_out (.inl h1), if_neg kind_zero, if_neg (fun h => kind_zero h.1), wr_suc (by omega)]
    · rw [if_neg h1]
      by_cases h2 : (b.nodes.length : Int) < e.ino
      · rw [if_pos h2, nodeP_out (.inr h2), if_neg kind_zero, if_neg (fun h => kind_zero h.1), wr_suc (by omega)]
      · rw [if_neg h2, nodeP_in h1 h2 hn]
        simp only [Option.bind_some]
        by_cases hkd : (nodeP b e.ino).kind = 1
        · rw [if_pos hkd, if_pos hkd]
          have hg := w3 e.ino
          by_cases hs : seenB u.1.1 e.ino = true
          · rw [if_pos (by rw [hg, if_pos hs]; omega), if_pos hs, if_neg (by rw [hs]; simp), ap_of (by simp; omega) (by omega), wr_suc (by omega), hw]
            rfl
          · have hs' : seenB u.1.1 e.ino = false := by simpa using hs
            rw [if_neg (by rw [hg, if_neg hs]; omega), if_neg hs, if_pos ⟨hkd, hs'⟩, ap_of (by simp; omega) (by omega), wr_suc (by omega), hg, if_neg hs, wr_in (by omega) (by omega)]
            rfl
        · rw [if_neg hkd, if_neg hkd, if_neg (fun h => hkd h.1), wr_suc (by omega)]) (by
    rintro u ⟨w1, w2, w3⟩
    simp only [m_walk_Reach_b5]
    rw [if_neg (by omega)]) (s0 := t) ⟨h.wi, by omega, hm⟩ (fuel := big) (by rw [big_eq]; omega))
  exact ⟨key.1, key.2.2.2⟩
theorem my_loop_walk_Reach {b : Branch} (hb : PB b) {k : Nat} {t : MS} (h : LI b k t.1) (hm : SM t) :
    iter (m_walk_Reach_b2 b) (big + 1) ((k : Int), t.1.1, t.1.2, t.2) = some ((wLoopM b k t).2.1.1, (wLoopM b k t).2.2, (wLoopM b k t).2.1.2, ((wLoopM b k t).1 : Int)) ∧ (LI b (wLoopM b k t).1 (wLoopM b k t).2.1 ∧ SM (wLoopM b k t).2) ∧ (wLoopM b k t).1 = (wLoopM b k t).2.1.1.length := by
  have hn := hb.len
  refine iter_wl (B := m_walk_Reach_b2 b) (fun (k : Nat) (t : MS) => ((k : Int), t.1.1, t.1.2, t.2)) (wStepM b) (fun t => t.1.1.length) (fun k t => (t.1.1, t.2, t.1.2, (k : Int))) (fun k t => LI b k t.1 ∧ SM t) 24 (fun k s h => ⟨h.1.at', Nat.le_trans h.1.wi.len hn⟩) ?_ ?_ 25 k t (big + 1) ⟨h, hm⟩ (by omega) (by rw [big_eq]; omega)
  · rintro k t ⟨h, hm⟩ hk
    have hl := h.wi.len
    have he : t.1.1[k].ino = wIno t.1 k := by unfold wIno; rw [List.getElem?_eq_getElem hk]; rfl
    obtain ⟨r1, r2⟩ := nodeP_kind (h.wi.dir _ (List.getElem_mem hk))
    obtain ⟨e1, e2⟩ := my_enter_walk_Reach hb h hm hk t.1.1[k] he
    refine ⟨?_, by rw [wStepM_fst]; exact wStep_inv hb h hk, e2⟩
    simp only [m_walk_Reach_b2]
    rw [if_pos (by omega), ix_at hk]
    simp only [Option.bind_some]
    rw [if_neg (by omega), if_neg (by omega), nodeP_in (by omega) (by omega) hn, he]
    simp only [Option.bind_some]
    rw [e1, wr_suc (by omega)]
    rfl
  · rintro k t ⟨h, hm⟩ hk
    simp only [m_walk_Reach_b2]
    rw [if_neg (by omega)]
theorem my_push_walk_Reach {b : Branch} (hb : PB b) {t : Nat × MS} (h : FI b (t.1, t.2.1)) (hm : SM t.2) (r : Int) :
    m_walk_Reach_p1 b t.2.1.1 t.2.2 r = some (if (nodeP b r).kind = 1 ∧ seenB t.2.1.1 r = false then (t.2.1.1 ++ [⟨r, -1, noBytes⟩], mset t.2.2 r 1) else (t.2.1.1, t.2.2)) := by
  have hn := hb.len
  have hl := h.li.wi.len
  simp only at hl
  unfold m_walk_Reach_p1
  by_cases h1 : r < 1
  · rw [if_pos h1, nodeP_out (.inl h1), if_neg (fun h => kind_zero h.1)]
  · rw [if_neg h1]
    by_cases h2 : (b.nodes.length : Int) < r
    · rw [if_pos h2, nodeP_out (.inr h2), if_neg (fun h => kind_zero h.1)]
    · rw [if_neg h2, nodeP_in h1 h2 hn]
      simp only [Option.bind_some]
      by_cases hk : (nodeP b r).kind = 1
      · rw [if_pos hk]
        have hg := hm r
        by_cases hs : seenB t.2.1.1 r = true
        · rw [if_pos (by rw [hg, if_pos hs]; omega), if_neg (by rw [hs]; simp)]
        · have hs' : seenB t.2.1.1 r = false := by simpa using hs
          rw [if_neg (by rw [hg, if_neg hs]; omega), if_pos ⟨hk, hs'⟩, ap_of (by simp; omega) (by omega), hg, if_neg hs, wr_in (by omega) (by omega)]
          rfl
      · rw [if_neg hk, if_neg (fun h => hk h.1)]
theorem my_walk_walk_Reach {b : Branch} (hb : PB b) {fr : List Int} (hf : fr.length ≤ 1000) : ∃ M, iter (m_walk_Reach_b0 b fr) big (0, 0, [], [], ([] : List (Int × Int))) = some ((walkP b fr).2.1, M, (walkP b fr).2.2) := by
  have hn := hb.len
  have key := iter_fold (B := m_walk_Reach_b0 b fr) (fun (i : Nat) (t : Nat × MS) => ((t.1 : Int), (i : Int), t.2.1.1, t.2.1.2, t.2.2)) fr (fStepM b) (fun t => (t.2.1.1, t.2.2, t.2.1.2)) (fun _ t => FI b (t.1, t.2.1) ∧ SM t.2) (by
    rintro i t hi ⟨h, hm⟩
    have hl := h.li.wi.len
    have hi2 : FI b ((fStepM b t fr[i]).1, (fStepM b t fr[i]).2.1) := by rw [fStepM_fst]; exact fStep_inv hb h _
    simp only [m_walk_Reach_b0]
    rw [if_pos (by omega), ix_at hi]
    simp only [Option.bind_some]
    rw [my_push_walk_Reach hb h hm]
    unfold fStepM at hi2 ⊢
    by_cases hc : (nodeP b fr[i]).kind = 1 ∧ seenB t.2.1.1 fr[i] = false
    · rw [if_pos hc] at hi2
      rw [if_pos hc, if_pos hc]
      have hp := h.li.push (w := ⟨fr[i], -1, noBytes⟩) hc.1 hc.2
      obtain ⟨q1, q2, q3⟩ := my_loop_walk_Reach hb (k := t.1) (t := ((t.2.1.1 ++ [⟨fr[i], -1, noBytes⟩], t.2.1.2), mset t.2.2 fr[i] 1)) hp (hm.push _ hc.2)
      simp only [Option.bind_some]
      simp only at q1
      rw [q1, wr_suc (by omega)]
      exact ⟨rfl, hi2, q2.2⟩
    · rw [if_neg hc] at hi2
      rw [if_neg hc, if_neg hc]
      obtain ⟨q1, q2, q3⟩ := my_loop_walk_Reach hb (k := t.1) (t := t.2) h.li hm
      have hd : wLoopM b t.1 t.2 = (t.1, t.2) := wl_done (by have := h.all; simp only at this; omega)
      rw [hd] at q1
      simp only [Option.bind_some]
      simp only at q1
      rw [q1, wr_suc (by omega)]
      exact ⟨rfl, hi2, hm⟩) (by
    rintro t ⟨h, hm⟩
    simp only [m_walk_Reach_b0]
    rw [if_neg (by omega)]) (s0 := (0, (([], []), []))) ⟨FI.nil b, fun i => by simp [mget, seenB]⟩ (fuel := big) (by rw [big_eq]; omega)
  have hfst : ∀ (l : List Int) (t : Nat × MS), ((l.foldl (fStepM b) t).1, (l.foldl (fStepM b) t).2.1) = l.foldl (fStep b) (t.1, t.2.1) := by
    intro l
    induction l with
    | nil => intro t; rfl
    | cons x l ih => intro t; rw [List.foldl_cons, List.foldl_cons, ih, fStepM_fst]
  have h2 := hfst fr (0, (([], []), []))
  have h3 : (fr.foldl (fStepM b) (0, (([], []), []))).2.1 = (walkP b fr).2 := by
    unfold walkP
    rw [← h2]
  refine ⟨(fr.foldl (fStepM b) (0, (([], []), []))).2.2, ?_⟩
  have h1 := key.1
  rw [← h3]
  exact h1

end Go.Proofs.Ytnmljicimdhpmaa.AL

/- Plain laws, part 3: what is reached. -/
set_option linter.all false
namespace Go.Proofs.Ytnmljicimdhpmaa.AL
open Go Go.Proofs

def setT (bs : List Bool) (L : List Nat) : List Bool := L.foldl (fun bs i => bs.set i true) bs
theorem setT_append (bs : List Bool) (L M : List Nat) : setT bs (L ++ M) = setT (setT bs L) M := by unfold setT; rw [List.foldl_append]
theorem setT_len (L : List Nat) : ∀ bs : List Bool, (setT bs L).length = bs.length := by
  induction L with
  | nil => intro bs; rfl
  | cons i L ih => intro bs; show (setT (bs.set i true) L).length = _; rw [ih]; simp
theorem setT_get : ∀ (L : List Nat) (bs : List Bool) (j : Nat), (setT bs L)[j]? = if j ∈ L then (bs[j]?).map (fun _ => true) else bs[j]?
  | [], bs, j => by simp [setT]
  | i :: L, bs, j => by
    show (setT (bs.set i true) L)[j]? = _
    rw [setT_get L]
    have hs : (bs.set i true)[j]? = if i = j then (bs[j]?).map (fun _ => true) else bs[j]? := by
      rw [List.getElem?_set]
      by_cases e : i = j
      · subst e
        by_cases h : i < bs.length
        · simp [h]
        · simp [h]
      · simp [e]
    rw [hs]
    by_cases h1 : j ∈ L
    · rw [if_pos h1, if_pos (List.mem_cons_of_mem _ h1)]
      split
      · cases bs[j]? <;> rfl
      · rfl
    · rw [if_neg h1]
      by_cases e : i = j
      · subst e; simp
      · have : ¬ j ∈ i :: L := by simp [h1]; omega
        rw [if_neg e, if_neg this]
theorem setT_ext {bs : List Bool} {L M : List Nat} (h : ∀ j, j ∈ L ↔ j ∈ M) : setT bs L = setT bs M := by
  refine List.ext_getElem? fun j => ?_
  rw [setT_get, setT_get]
  by_cases hj : j ∈ L
  · rw [if_pos hj, if_pos ((h j).1 hj)]
  · rw [if_neg hj, if_neg (fun k => hj ((h j).2 k))]
def idxE (n : Nat) (e : Entry) : List Nat := if 1 ≤ e.ino ∧ e.ino ≤ (n : Int) then [(e.ino - 1).toNat] else []
theorem stepE_setT {bs : List Bool} {n : Nat} (h : bs.length = n) (e : Entry) : stepE bs e = setT bs (idxE n e) := by
  unfold stepE idxE
  rw [h]
  split <;> rfl
theorem foldE_setT {n : Nat} : ∀ (es : List Entry) {bs : List Bool}, bs.length = n → es.foldl stepE bs = setT bs (es.flatMap (idxE n))
  | [], bs, h => rfl
  | e :: es, bs, h => by
    rw [List.foldl_cons, List.flatMap_cons, setT_append, stepE_setT h]
    exact foldE_setT es (by rw [setT_len]; exact h)
theorem foldW_setT : ∀ (ws : List Way) (bs : List Bool), ws.foldl stepW bs = setT bs (ws.map fun w => (w.ino - 1).toNat)
  | [], bs => rfl
  | w :: ws, bs => by rw [List.foldl_cons, foldW_setT ws]; rfl
/-- What is reached. -/
def reachL (b : Branch) (ways : List Way) : List Nat := ways.flatMap fun w => (w.ino - 1).toNat :: (nodeP b w.ino).entries.flatMap (idxE b.nodes.length)
def reachW (b : Branch) (ways : List Way) : List Bool := setT (List.replicate b.nodes.length false) (reachL b ways)
def reachP (b : Branch) (fr : List Int) : List Bool := reachW b (walkP b fr).2.1
theorem reachP_len (b : Branch) (fr : List Int) : (reachP b fr).length = b.nodes.length := by unfold reachP reachW; rw [setT_len]; simp
theorem nodeAt_eq {b : Branch} (hb : PB b) (ino : Int) : nodeAt b ino = some (nodeP b ino) := at_eq hb ino
theorem my_reach {b : Branch} (hb : PB b) {ways : List Way} (h : WI b ways) : m_walk_trail_reach b ways = some (reachW b ways) := by
  have hn := hb.len
  have hl := h.len
  unfold m_walk_trail_reach
  have hc : b.nodes.length ≤ 281474976710656 ∧ ways.length < 4611686018427387904 ∧ (∀ w ∈ ways, 1 ≤ w.ino ∧ w.ino ≤ (b.nodes.length : Int)) ∧ (∀ w ∈ ways, (nodeAt b w.ino).isSome = true) ∧ ∀ w ∈ ways, ((nodeAt b w.ino).getD default).entries.length < 4611686018427387904 := by
    refine ⟨by omega, by omega, fun w hw => nodeP_kind (h.dir w hw), fun w hw => by rw [nodeAt_eq hb]; rfl, fun w hw => ?_⟩
    rw [nodeAt_eq hb]
    have := nodeP_ents hb w.ino
    simp only [Option.getD_some]
    omega
  have hck : ck (b.nodes.length ≤ 281474976710656 ∧ ways.length < 4611686018427387904 ∧ (∀ w ∈ ways, 1 ≤ w.ino ∧ w.ino ≤ (b.nodes.length : Int)) ∧ (∀ w ∈ ways, (nodeAt b w.ino).isSome = true) ∧ ∀ w ∈ ways, ((nodeAt b w.ino).getD default).entries.length < 4611686018427387904) = some () := by
    unfold ck
    rw [if_pos hc]
  rw [hck]
  simp only [Option.bind_some]
  have hnd : (fun w : Way => (nodeAt b w.ino).getD default) = fun w => nodeP b w.ino := by funext w; rw [nodeAt_eq hb]; rfl
  rw [hnd]
  unfold reachM reachW entsN
  rw [List.take_length, foldW_setT, foldE_setT (n := b.nodes.length) _ (by rw [setT_len]; simp), ← setT_append]
  congr 1
  refine setT_ext fun j => ?_
  unfold reachL
  simp only [List.mem_append, List.mem_map, List.mem_flatMap, List.mem_cons]
  constructor
  · rintro (⟨w, hw, rfl⟩ | ⟨e, ⟨w, hw, he⟩, hj⟩)
    · exact ⟨w, hw, .inl rfl⟩
    · exact ⟨w, hw, .inr ⟨e, he, hj⟩⟩
  · rintro ⟨w, hw, rfl | ⟨e, he, hj⟩⟩
    · exact .inl ⟨w, hw, rfl⟩
    · exact .inr ⟨e, ⟨w, hw, he⟩, hj⟩
theorem walkReach_eq {b : Branch} (hb : PB b) {fr : List Int} (hf : fr.length ≤ 1000) : m_walk_Reach b fr = some (reachP b fr) := by
  obtain ⟨M, hM⟩ := my_walk_walk_Reach hb hf
  unfold m_walk_Reach
  rw [hM]
  simp only [Option.bind_some]
  rw [my_reach hb (ref_walk hb hf).2.li.wi]
  rfl
theorem refReach_eq {b : Branch} (hb : PB b) {fr : List Int} (hf : fr.length ≤ 1000) : m_ref13_Reach b fr = some (reachP b fr) := by
  have hn := hb.len
  obtain ⟨h1, h2⟩ := ref_walk hb hf
  have hwi := h2.li.wi
  have hl := hwi.len
  unfold m_ref13_Reach m_ref13_Dirs
  have hck : ck (0 ≤ (b.nodes.length : Int) ∧ (b.nodes.length : Int) ≤ (b.nodes.length : Int) ∧ (1 : Int) * (b.nodes.length : Int) ≤ 281474976710656 ∧ (b.nodes.length : Int) ≤ 9223372036854775807) = some () := by
    unfold ck
    rw [if_pos (by omega)]
  rw [hck, h1]
  simp only [Option.bind_some]
  unfold reachP
  generalize (walkP b fr).2.1 = ways at hwi hl
  have inner : ∀ (x : Node) (bs : List Bool), x.entries.length ≤ 16 → bs.length = b.nodes.length → iter (m_ref13_Reach_b1 x) big (0, bs) = some (x.entries.foldl stepE bs) := by
    intro x bs hx hbs
    refine (iter_fold (B := m_ref13_Reach_b1 x) (fun (i : Nat) (s : List Bool) => ((i : Int), s)) x.entries stepE (fun s => s) (fun _ s => s.length = b.nodes.length) (by
      intro i s hi hs
      refine ⟨?_, by rw [stepE_len]; exact hs⟩
      simp only [m_ref13_Reach_b1]
      rw [if_pos (by omega), ix_at hi]
      simp only [Option.bind_some]
      unfold stepE
      by_cases c1 : 1 ≤ x.entries[i].ino
      · rw [if_pos c1]
        by_cases c2 : x.entries[i].ino ≤ (s.length : Int)
        · rw [if_pos c2, if_pos ⟨c1, c2⟩, wr_in (n := x.entries[i].ino - 1) (by omega) (by omega), ix_of (by omega) (by omega), wr_suc (by omega)]
          rfl
        · rw [if_neg c2, if_neg (fun h => c2 h.2), wr_suc (by omega)]
      · rw [if_neg c1, if_neg (fun h => c1 h.1), wr_suc (by omega)]) (by
      intro s hs
      simp only [m_ref13_Reach_b1]
      rw [if_neg (by omega)]) hbs (fuel := big) (by rw [big_eq]; omega)).1
  have outer := (iter_fold (B := m_ref13_Reach_b0 b ways) (fun (i : Nat) (s : List Bool) => ((i : Int), s)) ways (fun bs w => (nodeP b w.ino).entries.foldl stepE (stepW bs w)) (fun s => s) (fun _ s => s.length = b.nodes.length) (by
      intro i s hi hs
      obtain ⟨r1, r2⟩ := nodeP_kind (hwi.dir _ (List.getElem_mem hi))
      refine ⟨?_, by rw [foldE_len, stepW_len]; exact hs⟩
      simp only [m_ref13_Reach_b0]
      rw [if_pos (by omega), ix_at hi]
      simp only [Option.bind_some]
      rw [wr_in (n := ways[i].ino - 1) (by omega) (by omega), ix_of (by omega) (by omega)]
      simp only [Option.bind_some]
      rw [at_eq hb]
      simp only [Option.bind_some]
      rw [inner _ _ (nodeP_ents hb _) (by simp [hs]), wr_suc (by omega)]
      rfl) (by
      intro s hs
      simp only [m_ref13_Reach_b0]
      rw [if_neg (by omega)]) (s0 := List.replicate b.nodes.length false) (by simp) (fuel := big) (by rw [big_eq]; omega)).1
  simp only [Int.toNat_natCast] at outer ⊢
  rw [show ((0 : Nat) : Int) = 0 from rfl] at outer
  rw [outer]
  simp only [Option.bind_some]
  congr 1
  unfold reachW
  have : ∀ (ws : List Way) (bs : List Bool), bs.length = b.nodes.length → ws.foldl (fun bs w => (nodeP b w.ino).entries.foldl stepE (stepW bs w)) bs = setT bs (reachL b ws) := by
    intro ws
    induction ws with
    | nil => intro bs _; rfl
    | cons w ws ih =>
      intro bs hbs
      rw [List.foldl_cons, ih _ (by rw [foldE_len, stepW_len]; exact hbs), foldE_setT (n := b.nodes.length) _ (by rw [stepW_len]; exact hbs)]
      unfold reachL
      rw [List.flatMap_cons, setT_append]
      rfl
  exact this ways _ (by simp)
end Go.Proofs.Ytnmljicimdhpmaa.AL

/- Plain laws, part 4: the guards. -/
set_option linter.all false
namespace Go.Proofs.Ytnmljicimdhpmaa.AL
open Go Go.Proofs

/-! ### Whether one is so -/
theorem contains_tot {α : Type} {p : α → Option Bool} {f : α → Bool} : ∀ (l : List α), (∀ x ∈ l, p x = some (f x)) → l.length < 1000000 → containsM p l = some (l.any f) := by
  have key : ∀ (l : List α) (i : Nat), (∀ x ∈ l, p x = some (f x)) → ∃ r, idxM p l i = some r ∧ (0 ≤ r ↔ l.any f = true) := by
    intro l
    induction l with
    | nil => intro i _; exact ⟨-1, rfl, by simp⟩
    | cons x l ih =>
      intro i h
      unfold idxM
      rw [h x (by simp)]
      simp only [Option.bind_some]
      by_cases hx : f x = true
      · rw [if_pos hx]; exact ⟨_, rfl, by simp [hx]⟩
      · rw [if_neg hx]
        obtain ⟨r, h1, h2⟩ := ih (i + 1) (fun y hy => h y (by simp [hy]))
        exact ⟨r, h1, by rw [h2]; simp [hx]⟩
  intro l h hl
  obtain ⟨r, h1, h2⟩ := key l 0 h
  unfold containsM indexM ck
  rw [if_pos (by omega)]
  simp only [Option.bind_some]
  rw [h1]
  simp only [Option.bind_some]
  congr 1
  cases ha : l.any f with
  | true => simp [h2.2 ha]
  | false =>
    have : ¬ 0 ≤ r := fun h => by have := h2.1 h; rw [ha] at this; cases this
    simp [this]
theorem tot_fun {α : Type} {p : α → Option Bool} (h : ∀ x, ∃ r, p x = some r) : ∃ f : α → Bool, ∀ x, p x = some (f x) := ⟨fun x => Classical.choose (h x), fun x => Classical.choose_spec (h x)⟩
/-! ### Names -/
theorem letter_tot (n : Int) : ∃ r, m_ref03_letter n = some r := by
  unfold m_ref03_letter
  repeat' split
  all_goals exact ⟨_, rfl⟩
theorem right_tot (s : ByteArray) : ∃ r, m_ref03_Right s = some r := by
  unfold m_ref03_Right
  by_cases h1 : (s.size : Int) < 1
  · rw [if_pos h1]; exact ⟨_, rfl⟩
  rw [if_neg h1]
  by_cases h2 : 12 < (s.size : Int)
  · rw [if_pos h2]; exact ⟨_, rfl⟩
  rw [if_neg h2]
  split
  · exact ⟨_, rfl⟩
  split
  · exact ⟨_, rfl⟩
  obtain ⟨r, h3, _⟩ := iter_term (B := m_ref03_Right_b0 s) (R := fun _ => True) (fun i t => t = (i : Int) ∧ i ≤ s.size) s.size (by
    rintro i t ⟨rfl, hi⟩
    refine ⟨hi, ?_⟩
    simp only [m_ref03_Right_b0]
    by_cases hlt : i < s.size
    · rw [if_pos (by omega)]
      have hx : ixB s (i : Int) = some s[i] := by
        unfold ixB
        rw [if_pos (by omega)]
        simp [hlt]
      rw [hx]
      simp only [Option.bind_some]
      obtain ⟨r, hr⟩ := letter_tot (s[i].toNat : Int)
      rw [hr]
      simp only [Option.bind_some]
      split
      · exact .inr ⟨_, rfl, trivial⟩
      · rw [wr_suc (by omega)]
        exact .inl ⟨_, rfl, rfl, by omega⟩
    · rw [if_neg (by omega)]
      exact .inr ⟨_, rfl, trivial⟩) big 0 0 ⟨rfl, by omega⟩ (by rw [big_eq]; omega)
  rw [h3]
  cases r with
  | inl u => exact ⟨_, rfl⟩
  | inr r => exact ⟨_, rfl⟩
theorem odd_tot (e : Entry) : ∃ r, m_plain_odd e = some r := by
  unfold m_plain_odd
  obtain ⟨r, hr⟩ := right_tot e.name
  rw [hr]
  exact ⟨_, rfl⟩
/-! ### Nodes -/
structure NB (x : Node) : Prop where
  ents : x.entries.length ≤ 16
  has0 : 0 ≤ x.attr.has
  has1 : x.attr.has ≤ 31
theorem node_tot (x : Node) : ∃ r, m_plain_Node x = some r ∧ (r = true → NB x) := by
  unfold m_plain_Node
  obtain ⟨r, h3, h4⟩ := iter_term (B := m_plain_Node_b0 x) (R := fun r => match r with | .inl _ => True | .inr r => r = false) (fun i t => t = (i : Int) ∧ i ≤ x.entries.length ∧ ∀ (h : 0 < i) (h' : i - 1 < x.entries.length), (i : Int) - 1 ≤ x.entries[i - 1].slot ∧ x.entries[i - 1].slot < 16) 16 (by
    rintro i t ⟨rfl, hi, hp⟩
    refine ⟨?_, ?_⟩
    · by_cases h0 : 0 < i
      · have := hp h0 (by omega); omega
      · omega
    simp only [m_plain_Node_b0]
    by_cases hlt : i < x.entries.length
    · have hi16 : i ≤ 16 := by
        by_cases h0 : 0 < i
        · have := hp h0 (by omega); omega
        · omega
      rw [if_pos (by omega), ix_at hlt]
      simp only [Option.bind_some]
      by_cases c1 : x.entries[i].slot < 0
      · rw [if_pos c1]; exact .inr ⟨_, rfl, rfl⟩
      rw [if_neg c1]
      by_cases c2 : 16 ≤ x.entries[i].slot
      · rw [if_pos c2]; exact .inr ⟨_, rfl, rfl⟩
      rw [if_neg c2]
      by_cases c3 : 0 < i
      · have hw : wr ((i : Int) - 1) = ((i - 1 : Nat) : Int) := by rw [wr_in (by omega) (by omega)]; omega
        have hlt' : i - 1 < x.entries.length := by omega
        rw [if_pos (by omega), hw, ix_at hlt']
        simp only [Option.bind_some]
        by_cases c4 : x.entries[i].slot ≤ x.entries[i - 1].slot
        · rw [if_pos c4]; exact .inr ⟨_, rfl, rfl⟩
        · rw [if_neg c4, wr_suc (by omega)]
          refine .inl ⟨_, rfl, rfl, by omega, fun h h' => ?_⟩
          have := hp c3 hlt'
          simp only [Nat.add_sub_cancel]
          omega
      · rw [if_neg (by omega), wr_suc (by omega)]
        refine .inl ⟨_, rfl, rfl, by omega, fun h h' => ?_⟩
        simp only [Nat.add_sub_cancel]
        omega
    · rw [if_neg (by omega)]
      exact .inr ⟨_, rfl, trivial⟩) big 0 0 ⟨rfl, by omega, fun h => by omega⟩ (by rw [big_eq]; omega)
  rw [h3]
  cases r with
  | inr r => simp only at h4; subst h4; exact ⟨_, rfl, fun h => by cases h⟩
  | inl u =>
    simp only [Option.bind_some]
    repeat' (first
      | exact ⟨_, rfl, fun h => by cases h⟩
      | split)
    rename_i c1 c2 c3 c4 c5 c6 c7 c8 c9
    obtain ⟨f, hf⟩ := tot_fun odd_tot
    rw [contains_tot (f := f) x.entries (fun y _ => hf y) (by omega)]
    exact ⟨_, rfl, fun _ => ⟨by omega, c5, c6⟩⟩
theorem branch_tot (b : Branch) : ∃ r, m_plain_Branch b 24 = some r ∧ (r = true → b.nodes.length ≤ 24 ∧ ∀ x ∈ b.nodes, NB x) := by
  unfold m_plain_Branch
  by_cases h : (b.nodes.length : Int) ≤ 24
  · rw [if_pos h]
    have ht : ∀ x, ∃ r, m_plain_Branch_1 x = some r := fun x => by
      obtain ⟨r, h1, _⟩ := node_tot x
      unfold m_plain_Branch_1
      rw [h1]
      exact ⟨_, rfl⟩
    obtain ⟨f, hf⟩ := tot_fun ht
    rw [contains_tot (f := f) b.nodes (fun y _ => hf y) (by omega)]
    refine ⟨_, rfl, fun hr => ⟨by omega, fun x hx => ?_⟩⟩
    have hx' : f x = false := by
      simp only [Bool.not_eq_true', List.any_eq_false] at hr
      simpa using hr x hx
    obtain ⟨r, h1, h2⟩ := node_tot x
    have := hf x
    unfold m_plain_Branch_1 at this
    rw [h1, hx'] at this
    simp only [Option.bind_some, Option.some.injEq, Bool.not_eq_false'] at this
    exact h2 this
  · rw [if_neg h]
    exact ⟨_, rfl, fun h => by cases h⟩
structure SB (s : Stack) : Prop where
  low : s.lowers.length ≤ 3
  up : s.upper.nodes.length ≤ 24 ∧ ∀ x ∈ s.upper.nodes, NB x
  lows : ∀ b ∈ s.lowers, b.nodes.length ≤ 24 ∧ ∀ x ∈ b.nodes, NB x
theorem SB.pb {s : Stack} (h : SB s) : PB s.upper := ⟨h.up.1, fun x hx => (h.up.2 x hx).ents⟩
end Go.Proofs.Ytnmljicimdhpmaa.AL

/- Models of functions, and that the functions are as their models: written by gen.py. -/
set_option linter.all false
set_option maxRecDepth 100000
namespace Go.Proofs.Ytnmljicimdhpmaa.AL
open Go Go.Proofs
def m_slices_Equal_api_Way_api_Way_b0 (a0 : List Way) (a1 : List Way) : Int → Option (St (Int) ((Unit) ⊕ (Bool)))
 | v4 => if v4 < (a0.length : Int) then (ix a0 v4).bind fun v8 => (ix a1 v4).bind fun v11 => if (decide (v8 = v11)) = true then some (.nx (wr (v4 + 1)))
 else some (.out (.inr false))
 else some (.out (.inl ()))
def m_slices_Equal_api_Way_api_Way (a0 : List Way) (a1 : List Way) : Option (Bool) := if (a0.length : Int) = (a1.length : Int) then (iter (m_slices_Equal_api_Way_api_Way_b0 a0 a1) big 0).bind fun o => (match o with
 | (.inl _) => some true
 | (.inr r) => some r)
 else some false
def Y_slices_Equal_api_Way_api_Way := And.intro (And.intro ((@EV)) (And.intro ((@R3)) ((@R49)))) (And.intro (And.intro ((@R52)) ((@DWay))) (And.intro ((@eq52)) ((@mixed))))
set_option maxHeartbeats 2000000 in
theorem ok_slices_Equal_api_Way_api_Way (a0 : List Way) (a1 : List Way) (r : Bool) (hm0 : m_slices_Equal_api_Way_api_Way a0 a1 = some r) : Ok Try.prog 39 [.sl 3 (a0.map encWay), .sl 3 (a1.map encWay)] (bool r) := by
 unfold m_slices_Equal_api_Way_api_Way at hm0
 refine okG fc_slices_Equal_api_Way_api_Way ?_
 unfold c_slices_Equal_api_Way_api_Way
 rcases iteE hm0 with ⟨e2, hm0⟩ | ⟨e2, hm0⟩
 · obtain ⟨o0, ho0, hm0⟩ := bsE hm0
   simp only [e2, Y_slices_Equal_api_Way_api_Way, ↓EVd, isCall, sevalprocAttr]
   refine cwp_cx 0 (fun s => (.inl ()) = o0) ?_ fun J0_0 hJ0_0 => ?_
   · rintro T0 H0 x5 rfl
     try dsimp only at hm0
     obtain rfl := Option.some.inj hm0
     simp only [e2, Y_slices_Equal_api_Way_api_Way, ↓EVd, isCall, sevalprocAttr]
     all_goals first | done | rfl
   refine cwp_lp ho0 (fun v4 s => s.T 0 = .sl 3 (a0.map encWay) ∧ s.T 1 = .sl 3 (a1.map encWay) ∧ s.T 12 = int (a0.length : Int) ∧ s.T 13 = int v4) ?_ ?_
   · refine TI.here ⟨?_, ?_, ?_, ?_⟩
     all_goals try simp only [e2, Y_slices_Equal_api_Way_api_Way, ↓EVd, isCall, sevalprocAttr]
     all_goals first | omega | exact lq (by omega) | exact nq (by omega) | rfl | (congr 1; omega)
   rintro I0 v4 T0 H0 x3 st0 kk0 hm1 hI0 hO0
   dsimp only [Lq, Nq] at kk0
   simp only [m_slices_Equal_api_Way_api_Way_b0] at hm1
   rcases iteE hm1 with ⟨e7, hm1⟩ | ⟨e7, hm1⟩
   · obtain ⟨v8, e10, hm1⟩ := ixE encWay hm1
     obtain ⟨v11, e13, hm1⟩ := ixE encWay hm1
     rcases itbE hm1 with ⟨e15, hm1⟩ | ⟨e15, hm1⟩
     · obtain rfl := Option.some.inj hm1
       simp only [kk0, e2, e7, e10, e13, e15, Y_slices_Equal_api_Way_api_Way, ↓EVd, isCall, sevalprocAttr]
       refine TI.here (hI0 _ rfl _ ⟨?_, ?_, ?_, ?_⟩)
       all_goals try simp only [kk0, e2, e7, e10, e13, e15, Y_slices_Equal_api_Way_api_Way, ↓EVd, isCall, sevalprocAttr]
       all_goals first | omega | exact lq (by omega) | exact nq (by omega) | rfl | (congr 1; omega)
     obtain rfl := Option.some.inj hm1
     obtain rfl := hO0 _ rfl
     try dsimp only at hm0
     obtain rfl := Option.some.inj hm0
     simp only [kk0, e2, e7, e10, e13, e15, Y_slices_Equal_api_Way_api_Way, ↓EVd, isCall, sevalprocAttr]
     all_goals first | done | rfl
   obtain rfl := Option.some.inj hm1
   simp only [kk0, e2, e7, Y_slices_Equal_api_Way_api_Way, ↓EVd, isCall, sevalprocAttr]
   refine TI.here (hJ0_0 _ (hO0 _ rfl))
 obtain rfl := Option.some.inj hm0
 simp only [e2, Y_slices_Equal_api_Way_api_Way, ↓EVd, isCall, sevalprocAttr]
 all_goals first | done | rfl
def m_slices_Equal_2_int_2_int_b0 (a0 : List Ar2_Int) (a1 : List Ar2_Int) : Int → Option (St (Int) ((Unit) ⊕ (Bool)))
 | v4 => if v4 < (a0.length : Int) then (ix a0 v4).bind fun v8 => (ix a1 v4).bind fun v11 => if (decide (v8 = v11)) = true then some (.nx (wr (v4 + 1)))
 else some (.out (.inr false))
 else some (.out (.inl ()))
def m_slices_Equal_2_int_2_int (a0 : List Ar2_Int) (a1 : List Ar2_Int) : Option (Bool) := if (a0.length : Int) = (a1.length : Int) then (iter (m_slices_Equal_2_int_2_int_b0 a0 a1) big 0).bind fun o => (match o with
 | (.inl _) => some true
 | (.inr r) => some r)
 else some false
def Y_slices_Equal_2_int_2_int := And.intro (And.intro ((@EV)) (And.intro ((@R3)) ((@R67)))) (And.intro (And.intro ((@R68)) ((@DAr2_Int))) (And.intro ((@eq68)) ((@mixed))))
set_option maxHeartbeats 2000000 in
theorem ok_slices_Equal_2_int_2_int (a0 : List Ar2_Int) (a1 : List Ar2_Int) (r : Bool) (hm0 : m_slices_Equal_2_int_2_int a0 a1 = some r) : Ok Try.prog 40 [.sl 2 (a0.map encAr2_Int), .sl 2 (a1.map encAr2_Int)] (bool r) := by
 unfold m_slices_Equal_2_int_2_int at hm0
 refine okG fc_slices_Equal_2_int_2_int ?_
 unfold c_slices_Equal_2_int_2_int
 rcases iteE hm0 with ⟨e2, hm0⟩ | ⟨e2, hm0⟩
 · obtain ⟨o0, ho0, hm0⟩ := bsE hm0
   simp only [e2, Y_slices_Equal_2_int_2_int, ↓EVd, isCall, sevalprocAttr]
   refine cwp_cx 0 (fun s => (.inl ()) = o0) ?_ fun J0_0 hJ0_0 => ?_
   · rintro T0 H0 x5 rfl
     try dsimp only at hm0
     obtain rfl := Option.some.inj hm0
     simp only [e2, Y_slices_Equal_2_int_2_int, ↓EVd, isCall, sevalprocAttr]
     all_goals first | done | rfl
   refine cwp_lp ho0 (fun v4 s => s.T 0 = .sl 2 (a0.map encAr2_Int) ∧ s.T 1 = .sl 2 (a1.map encAr2_Int) ∧ s.T 12 = int (a0.length : Int) ∧ s.T 13 = int v4) ?_ ?_
   · refine TI.here ⟨?_, ?_, ?_, ?_⟩
     all_goals try simp only [e2, Y_slices_Equal_2_int_2_int, ↓EVd, isCall, sevalprocAttr]
     all_goals first | omega | exact lq (by omega) | exact nq (by omega) | rfl | (congr 1; omega)
   rintro I0 v4 T0 H0 x3 st0 kk0 hm1 hI0 hO0
   dsimp only [Lq, Nq] at kk0
   simp only [m_slices_Equal_2_int_2_int_b0] at hm1
   rcases iteE hm1 with ⟨e7, hm1⟩ | ⟨e7, hm1⟩
   · obtain ⟨v8, e10, hm1⟩ := ixE encAr2_Int hm1
     obtain ⟨v11, e13, hm1⟩ := ixE encAr2_Int hm1
     rcases itbE hm1 with ⟨e15, hm1⟩ | ⟨e15, hm1⟩
     · obtain rfl := Option.some.inj hm1
       simp only [kk0, e2, e7, e10, e13, e15, Y_slices_Equal_2_int_2_int, ↓EVd, isCall, sevalprocAttr]
       refine TI.here (hI0 _ rfl _ ⟨?_, ?_, ?_, ?_⟩)
       all_goals try simp only [kk0, e2, e7, e10, e13, e15, Y_slices_Equal_2_int_2_int, ↓EVd, isCall, sevalprocAttr]
       all_goals first | omega | exact lq (by omega) | exact nq (by omega) | rfl | (congr 1; omega)
     obtain rfl := Option.some.inj hm1
     obtain rfl := hO0 _ rfl
     try dsimp only at hm0
     obtain rfl := Option.some.inj hm0
     simp only [kk0, e2, e7, e10, e13, e15, Y_slices_Equal_2_int_2_int, ↓EVd, isCall, sevalprocAttr]
     all_goals first | done | rfl
   obtain rfl := Option.some.inj hm1
   simp only [kk0, e2, e7, Y_slices_Equal_2_int_2_int, ↓EVd, isCall, sevalprocAttr]
   refine TI.here (hJ0_0 _ (hO0 _ rfl))
 obtain rfl := Option.some.inj hm0
 simp only [e2, Y_slices_Equal_2_int_2_int, ↓EVd, isCall, sevalprocAttr]
 all_goals first | done | rfl
def m_slices_Equal_bool_bool_b0 (a0 : List Bool) (a1 : List Bool) : Int → Option (St (Int) ((Unit) ⊕ (Bool)))
 | v4 => if v4 < (a0.length : Int) then (ix a0 v4).bind fun v8 => (ix a1 v4).bind fun v11 => if v8 = true then if v11 = true then some (.nx (wr (v4 + 1)))
 else some (.out (.inr false))
 else if v11 = true then some (.out (.inr false))
 else some (.nx (wr (v4 + 1)))
 else some (.out (.inl ()))
def m_slices_Equal_bool_bool (a0 : List Bool) (a1 : List Bool) : Option (Bool) := if (a0.length : Int) = (a1.length : Int) then (iter (m_slices_Equal_bool_bool_b0 a0 a1) big 0).bind fun o => (match o with
 | (.inl _) => some true
 | (.inr r) => some r)
 else some false
def Y_slices_Equal_bool_bool := And.intro (And.intro ((@EV)) ((@R3))) (And.intro ((@R4)) (And.intro ((@R72)) ((@mixed))))
set_option maxHeartbeats 2000000 in
theorem ok_slices_Equal_bool_bool (a0 : List Bool) (a1 : List Bool) (r : Bool) (hm0 : m_slices_Equal_bool_bool a0 a1 = some r) : Ok Try.prog 43 [.sl 1 (a0.map bool), .sl 1 (a1.map bool)] (bool r) := by
 unfold m_slices_Equal_bool_bool at hm0
 refine okG fc_slices_Equal_bool_bool ?_
 unfold c_slices_Equal_bool_bool
 rcases iteE hm0 with ⟨e2, hm0⟩ | ⟨e2, hm0⟩
 · obtain ⟨o0, ho0, hm0⟩ := bsE hm0
   simp only [e2, Y_slices_Equal_bool_bool, ↓EVd, isCall, sevalprocAttr]
   refine cwp_cx 0 (fun s => (.inl ()) = o0) ?_ fun J0_0 hJ0_0 => ?_
   · rintro T0 H0 x5 rfl
     try dsimp only at hm0
     obtain rfl := Option.some.inj hm0
     simp only [e2, Y_slices_Equal_bool_bool, ↓EVd, isCall, sevalprocAttr]
     all_goals first | done | rfl
   refine cwp_lp ho0 (fun v4 s => s.T 0 = .sl 1 (a0.map bool) ∧ s.T 1 = .sl 1 (a1.map bool) ∧ s.T 12 = int (a0.length : Int) ∧ s.T 13 = int v4) ?_ ?_
   · refine TI.here ⟨?_, ?_, ?_, ?_⟩
     all_goals try simp only [e2, Y_slices_Equal_bool_bool, ↓EVd, isCall, sevalprocAttr]
     all_goals first | omega | exact lq (by omega) | exact nq (by omega) | rfl | (congr 1; omega)
   rintro I0 v4 T0 H0 x3 st0 kk0 hm1 hI0 hO0
   dsimp only [Lq, Nq] at kk0
   simp only [m_slices_Equal_bool_bool_b0] at hm1
   rcases iteE hm1 with ⟨e7, hm1⟩ | ⟨e7, hm1⟩
   · obtain ⟨v8, e10, hm1⟩ := ixE bool hm1
     obtain ⟨v11, e13, hm1⟩ := ixE bool hm1
     rcases itbE hm1 with ⟨e15, hm1⟩ | ⟨e15, hm1⟩
     · rcases itbE hm1 with ⟨e17, hm1⟩ | ⟨e17, hm1⟩
       · obtain rfl := Option.some.inj hm1
         simp only [kk0, e2, e7, e10, e13, e15, e17, Y_slices_Equal_bool_bool, ↓EVd, isCall, sevalprocAttr]
         refine TI.here (hI0 _ rfl _ ⟨?_, ?_, ?_, ?_⟩)
         all_goals try simp only [kk0, e2, e7, e10, e13, e15, e17, Y_slices_Equal_bool_bool, ↓EVd, isCall, sevalprocAttr]
         all_goals first | omega | exact lq (by omega) | exact nq (by omega) | rfl | (congr 1; omega)
       obtain rfl := Option.some.inj hm1
       obtain rfl := hO0 _ rfl
       try dsimp only at hm0
       obtain rfl := Option.some.inj hm0
       simp only [kk0, e2, e7, e10, e13, e15, e17, Y_slices_Equal_bool_bool, ↓EVd, isCall, sevalprocAttr]
       all_goals first | done | rfl
     rcases itbE hm1 with ⟨e19, hm1⟩ | ⟨e19, hm1⟩
     · obtain rfl := Option.some.inj hm1
       obtain rfl := hO0 _ rfl
       try dsimp only at hm0
       obtain rfl := Option.some.inj hm0
       simp only [kk0, e2, e7, e10, e13, e15, e19, Y_slices_Equal_bool_bool, ↓EVd, isCall, sevalprocAttr]
       all_goals first | done | rfl
     obtain rfl := Option.some.inj hm1
     simp only [kk0, e2, e7, e10, e13, e15, e19, Y_slices_Equal_bool_bool, ↓EVd, isCall, sevalprocAttr]
     refine TI.here (hI0 _ rfl _ ⟨?_, ?_, ?_, ?_⟩)
     all_goals try simp only [kk0, e2, e7, e10, e13, e15, e19, Y_slices_Equal_bool_bool, ↓EVd, isCall, sevalprocAttr]
     all_goals first | omega | exact lq (by omega) | exact nq (by omega) | rfl | (congr 1; omega)
   obtain rfl := Option.some.inj hm1
   simp only [kk0, e2, e7, Y_slices_Equal_bool_bool, ↓EVd, isCall, sevalprocAttr]
   refine TI.here (hJ0_0 _ (hO0 _ rfl))
 obtain rfl := Option.some.inj hm0
 simp only [e2, Y_slices_Equal_bool_bool, ↓EVd, isCall, sevalprocAttr]
 all_goals first | done | rfl
end Go.Proofs.Ytnmljicimdhpmaa.AL

/- Models of functions, and that the functions are as their models: written by gen.py. -/
set_option linter.all false
set_option maxRecDepth 100000
namespace Go.Proofs.Ytnmljicimdhpmaa.AL
open Go Go.Proofs
def m_law13_WalkTells (a0 : Branch) (a1 : List Int) (a2 : Int) : Option (Bool) := (m_plain_Branch a0 24).bind fun v1 => if (!v1) = true then (m_law13_awake ).bind fun v5 => some v5
 else if 10 < (a1.length : Int) then (m_law13_awake ).bind fun v9 => some v9
 else (m_walk_Dirs a0 a1).bind fun v11 => (m_ref13_Dirs a0 a1).bind fun v13 => (m_slices_Equal_api_Way_api_Way v11 v13).bind fun v15 => if v15 = true then (m_walk_Twice a0 a1).bind fun v19 => (m_ref13_Twice a0 a1).bind fun v21 => (m_slices_Equal_2_int_2_int v19 v21).bind fun v23 => if v23 = true then (m_walk_Reach a0 a1).bind fun v27 => (m_ref13_Reach a0 a1).bind fun v29 => (m_slices_Equal_bool_bool v27 v29).bind fun v31 => if v31 = true then (m_walk_Path v13 a2).bind fun v35 => (m_ref13_Path v13 a2).bind fun v37 => (m_slices_Equal_string_string v35 v37).bind fun v39 => if v39 = true then (m_law13_awake ).bind fun v43 => some v43
 else some false
 else some false
 else some false
 else some false
def Y_law13_WalkTells := And.intro (And.intro (And.intro (And.intro ((@EV)) ((@R3))) (And.intro ((@R4)) (And.intro ((@R9)) ((@R26))))) (And.intro (And.intro ((@R49)) ((@R52))) (And.intro ((@R60)) (And.intro ((@R63)) ((@R67)))))) (And.intro (And.intro (And.intro ((@R68)) ((@R72))) (And.intro ((@DBranch)) (And.intro ((@DOrigin)) ((@DAttr))))) (And.intro (And.intro ((@DNode)) ((@DWay))) (And.intro ((@DEntry)) (And.intro ((@DAr2_Int)) ((@mixed))))))
set_option maxHeartbeats 2000000 in
theorem ok_law13_WalkTells (a0 : Branch) (a1 : List Int) (a2 : Int) (r : Bool) (hm0 : m_law13_WalkTells a0 a1 a2 = some r) : Ok Try.prog 9 [encBranch a0, .sl 1 (a1.map int), int a2] (bool r) := by
 unfold m_law13_WalkTells at hm0
 refine okG fc_law13_WalkTells ?_
 unfold c_law13_WalkTells
 obtain ⟨v1, h2, hm0⟩ := bsE hm0
 simp only [Y_law13_WalkTells, ↓EVd, isCall, sevalprocAttr]
 refine qc (ok_plain_Branch _ _ _ h2) rfl ?_
 rcases itbE hm0 with ⟨e4, hm0⟩ | ⟨e4, hm0⟩
 · obtain ⟨v5, h6, hm0⟩ := bsE hm0
   simp only [e4, Y_law13_WalkTells, ↓EVd, isCall, sevalprocAttr]
   refine qc (ok_law13_awake  _ h6) rfl ?_
   obtain rfl := Option.some.inj hm0
   simp only [e4, Y_law13_WalkTells, ↓EVd, isCall, sevalprocAttr]
   all_goals first | done | rfl
 rcases iteE hm0 with ⟨e8, hm0⟩ | ⟨e8, hm0⟩
 · obtain ⟨v9, h10, hm0⟩ := bsE hm0
   simp only [e4, e8, Y_law13_WalkTells, ↓EVd, isCall, sevalprocAttr]
   refine qc (ok_law13_awake  _ h10) rfl ?_
   obtain rfl := Option.some.inj hm0
   simp only [e4, e8, Y_law13_WalkTells, ↓EVd, isCall, sevalprocAttr]
   all_goals first | done | rfl
 obtain ⟨v11, h12, hm0⟩ := bsE hm0
 simp only [e4, e8, Y_law13_WalkTells, ↓EVd, isCall, sevalprocAttr]
 refine qd (ok_walk_Dirs _ _ _ h12) rfl ?_
 obtain ⟨v13, h14, hm0⟩ := bsE hm0
 simp only [e4, e8, Y_law13_WalkTells, ↓EVd, isCall, sevalprocAttr]
 refine qd (ok_ref13_Dirs _ _ _ h14) rfl ?_
 obtain ⟨v15, h16, hm0⟩ := bsE hm0
 simp only [e4, e8, Y_law13_WalkTells, ↓EVd, isCall, sevalprocAttr]
 refine qd (ok_slices_Equal_api_Way_api_Way _ _ _ h16) rfl ?_
 rcases itbE hm0 with ⟨e18, hm0⟩ | ⟨e18, hm0⟩
 · obtain ⟨v19, h20, hm0⟩ := bsE hm0
   simp only [e4, e8, e18, Y_law13_WalkTells, ↓EVd, isCall, sevalprocAttr]
   refine qd (ok_walk_Twice _ _ _ h20) rfl ?_
   obtain ⟨v21, h22, hm0⟩ := bsE hm0
   simp only [e4, e8, e18, Y_law13_WalkTells, ↓EVd, isCall, sevalprocAttr]
   refine qd (ok_ref13_Twice _ _ _ h22) rfl ?_
   obtain ⟨v23, h24, hm0⟩ := bsE hm0
   simp only [e4, e8, e18, Y_law13_WalkTells, ↓EVd, isCall, sevalprocAttr]
   refine qd (ok_slices_Equal_2_int_2_int _ _ _ h24) rfl ?_
   rcases itbE hm0 with ⟨e26, hm0⟩ | ⟨e26, hm0⟩
   · obtain ⟨v27, h28, hm0⟩ := bsE hm0
     simp only [e4, e8, e18, e26, Y_law13_WalkTells, ↓EVd, isCall, sevalprocAttr]
     refine qd (ok_walk_Reach _ _ _ h28) rfl ?_
     obtain ⟨v29, h30, hm0⟩ := bsE hm0
     simp only [e4, e8, e18, e26, Y_law13_WalkTells, ↓EVd, isCall, sevalprocAttr]
     refine qd (ok_ref13_Reach _ _ _ h30) rfl ?_
     obtain ⟨v31, h32, hm0⟩ := bsE hm0
     simp only [e4, e8, e18, e26, Y_law13_WalkTells, ↓EVd, isCall, sevalprocAttr]
     refine qd (ok_slices_Equal_bool_bool _ _ _ h32) rfl ?_
     rcases itbE hm0 with ⟨e34, hm0⟩ | ⟨e34, hm0⟩
     · obtain ⟨v35, h36, hm0⟩ := bsE hm0
       simp only [e4, e8, e18, e26, e34, Y_law13_WalkTells, ↓EVd, isCall, sevalprocAttr]
       refine qd (ok_walk_Path _ _ _ h36) rfl ?_
       obtain ⟨v37, h38, hm0⟩ := bsE hm0
       simp only [e4, e8, e18, e26, e34, Y_law13_WalkTells, ↓EVd, isCall, sevalprocAttr]
       refine qd (ok_ref13_Path _ _ _ h38) rfl ?_
       obtain ⟨v39, h40, hm0⟩ := bsE hm0
       simp only [e4, e8, e18, e26, e34, Y_law13_WalkTells, ↓EVd, isCall, sevalprocAttr]
       refine qd (ok_slices_Equal_string_string _ _ _ h40) rfl ?_
       rcases itbE hm0 with ⟨e42, hm0⟩ | ⟨e42, hm0⟩
       · obtain ⟨v43, h44, hm0⟩ := bsE hm0
         simp only [e4, e8, e18, e26, e34, e42, Y_law13_WalkTells, ↓EVd, isCall, sevalprocAttr]
         refine qd (ok_law13_awake  _ h44) rfl ?_
         obtain rfl := Option.some.inj hm0
         simp only [e4, e8, e18, e26, e34, e42, Y_law13_WalkTells, ↓EVd, isCall, sevalprocAttr]
         all_goals first | done | rfl
       obtain rfl := Option.some.inj hm0
       simp only [e4, e8, e18, e26, e34, e42, Y_law13_WalkTells, ↓EVd, isCall, sevalprocAttr]
       all_goals first | done | rfl
     obtain rfl := Option.some.inj hm0
     simp only [e4, e8, e18, e26, e34, Y_law13_WalkTells, ↓EVd, isCall, sevalprocAttr]
     all_goals first | done | rfl
   obtain rfl := Option.some.inj hm0
   simp only [e4, e8, e18, e26, Y_law13_WalkTells, ↓EVd, isCall, sevalprocAttr]
   all_goals first | done | rfl
 obtain rfl := Option.some.inj hm0
 simp only [e4, e8, e18, Y_law13_WalkTells, ↓EVd, isCall, sevalprocAttr]
 all_goals first | done | rfl
end Go.Proofs.Ytnmljicimdhpmaa.AL

/- Plain laws: WalkTells. -/
set_option linter.all false
namespace Go.Proofs.Ytnmljicimdhpmaa.AL
open Go Go.Proofs

theorem eqLoop {α : Type} [DecidableEq α] {a b : List α} {B : Int → Option (St Int (Unit ⊕ Bool))} (hl : a.length = b.length) (hlen : a.length ≤ 1000000000)
    (hB : ∀ (i : Nat) (h : i < a.length) (h' : i < b.length), B (i : Int) = if a[i] = b[i] then some (.nx ((i + 1 : Nat) : Int)) else some (.out (.inr false))) (hE : B (a.length : Int) = some (.out (.inl ()))) :
    iter B big 0 = some (if a = b then .inl () else .inr false) := by
  obtain ⟨r, h1, h2⟩ := iter_term (B := B) (R := fun r => r = if a = b then .inl () else .inr false) (fun i t => t = (i : Int) ∧ i ≤ a.length ∧ ∀ j (h : j < a.length) (h' : j < b.length), j < i → a[j] = b[j]) a.length (by
    rintro i t ⟨rfl, hi, hj⟩
    refine ⟨hi, ?_⟩
    by_cases hlt : i < a.length
    · rw [hB i hlt (by omega)]
      by_cases he : a[i] = b[i]
      · rw [if_pos he]
        refine .inl ⟨_, rfl, rfl, by omega, fun j h h' hji => ?_⟩
        by_cases e : j = i
        · subst e; exact he
        · exact hj j h h' (by omega)
      · rw [if_neg he]
        refine .inr ⟨_, rfl, ?_⟩
        rw [if_neg]
        rintro rfl
        exact he rfl
    · obtain rfl : i = a.length := by omega
      rw [hE]
      refine .inr ⟨_, rfl, ?_⟩
      rw [if_pos (List.ext_getElem hl fun j h h' => hj j h h' h)]) big 0 0 ⟨rfl, by omega, fun j _ _ h => by omega⟩ (by rw [big_eq]; omega)
  rw [h1, h2]
theorem equal_Way {a b : List Way} (h : a.length ≤ 1000000000) : m_slices_Equal_api_Way_api_Way a b = some (decide (a = b)) := by
  unfold m_slices_Equal_api_Way_api_Way
  by_cases hl : a.length = b.length
  · rw [if_pos (by omega), eqLoop hl h]
    · by_cases he : a = b <;> simp [he]
    · intro i h1 h2
      simp only [m_slices_Equal_api_Way_api_Way_b0]
      rw [if_pos (by omega), ix_at h1, ix_at h2]
      simp only [Option.bind_some, decide_eq_true_eq]
      rw [wr_suc (by omega)]
    · simp only [m_slices_Equal_api_Way_api_Way_b0]
      rw [if_neg (by omega)]
  · rw [if_neg (by omega)]
    have : ¬ a = b := by rintro rfl; exact hl rfl
    simp [this]
theorem equal_Ar2 {a b : List Ar2_Int} (h : a.length ≤ 1000000000) : m_slices_Equal_2_int_2_int a b = some (decide (a = b)) := by
  unfold m_slices_Equal_2_int_2_int
  by_cases hl : a.length = b.length
  · rw [if_pos (by omega), eqLoop hl h]
    · by_cases he : a = b <;> simp [he]
    · intro i h1 h2
      simp only [m_slices_Equal_2_int_2_int_b0]
      rw [if_pos (by omega), ix_at h1, ix_at h2]
      simp only [Option.bind_some, decide_eq_true_eq]
      rw [wr_suc (by omega)]
    · simp only [m_slices_Equal_2_int_2_int_b0]
      rw [if_neg (by omega)]
  · rw [if_neg (by omega)]
    have : ¬ a = b := by rintro rfl; exact hl rfl
    simp [this]
theorem equal_Bool {a b : List Bool} (h : a.length ≤ 1000000000) : m_slices_Equal_bool_bool a b = some (decide (a = b)) := by
  unfold m_slices_Equal_bool_bool
  by_cases hl : a.length = b.length
  · rw [if_pos (by omega), eqLoop hl h]
    · by_cases he : a = b <;> simp [he]
    · intro i h1 h2
      simp only [m_slices_Equal_bool_bool_b0]
      rw [if_pos (by omega), ix_at h1, ix_at h2]
      simp only [Option.bind_some]
      rw [wr_suc (by omega)]
      cases a[i] <;> cases b[i] <;> simp
    · simp only [m_slices_Equal_bool_bool_b0]
      rw [if_neg (by omega)]
  · rw [if_neg (by omega)]
    have : ¬ a = b := by rintro rfl; exact hl rfl
    simp [this]
theorem myDirs_eq {b : Branch} (hb : PB b) {fr : List Int} (hf : fr.length ≤ 1000) : m_walk_Dirs b fr = some (walkP b fr).2.1 := by
  obtain ⟨M, hM⟩ := my_walk_walk_Dirs hb hf
  unfold m_walk_Dirs
  rw [hM]
  rfl
theorem myTwice_eq {b : Branch} (hb : PB b) {fr : List Int} (hf : fr.length ≤ 1000) : m_walk_Twice b fr = some (walkP b fr).2.2 := by
  obtain ⟨M, hM⟩ := my_walk_walk_Twice hb hf
  unfold m_walk_Twice
  rw [hM]
  rfl
theorem refDirs_eq {b : Branch} (hb : PB b) {fr : List Int} (hf : fr.length ≤ 1000) : m_ref13_Dirs b fr = some (walkP b fr).2.1 := by
  unfold m_ref13_Dirs
  rw [(ref_walk hb hf).1]
  rfl
theorem refTwice_eq {b : Branch} (hb : PB b) {fr : List Int} (hf : fr.length ≤ 1000) : m_ref13_Twice b fr = some (walkP b fr).2.2 := by
  unfold m_ref13_Twice
  rw [(ref_walk hb hf).1]
  rfl
theorem ways_len {b : Branch} (hb : PB b) {fr : List Int} (hf : fr.length ≤ 1000) : (walkP b fr).2.1.length ≤ 24 := Nat.le_trans (ref_walk hb hf).2.li.wi.len hb.len
theorem twice_len {b : Branch} (hb : PB b) {fr : List Int} (hf : fr.length ≤ 1000) : (walkP b fr).2.2.length ≤ 400 := by
  have h := (ref_walk hb hf).2.li
  have h1 := h.tw
  have h2 := h.at'
  have h3 := ways_len hb hf

  omega
theorem branch_pb {b : Branch} (h : b.nodes.length ≤ 24 ∧ ∀ x ∈ b.nodes, NB x) : PB b := ⟨h.1, fun x hx => (h.2 x hx).ents⟩
theorem law_walkTells (b : Branch) (fr : List Int) (i : Int) : m_law13_WalkTells b fr i = some true := by
  unfold m_law13_WalkTells
  obtain ⟨r, h1, h2⟩ := branch_tot b
  rw [h1]
  simp only [Option.bind_some]
  cases r with
  | false => rfl
  | true =>
    have hb := branch_pb (h2 rfl)
    rw [if_neg (by simp)]
    by_cases hf : 10 < (fr.length : Int)
    · rw [if_pos hf]; rfl
    · have hw := ways_len hb (fr := fr) (by omega)
      have ht := twice_len hb (fr := fr) (by omega)
      have hr := reachP_len b fr
      have hn := hb.len
      have hp := pathP_len (walkP b fr).2.1 i
      rw [if_neg hf, myDirs_eq hb (by omega), refDirs_eq hb (by omega), myTwice_eq hb (by omega), refTwice_eq hb (by omega), walkReach_eq hb (by omega), refReach_eq hb (by omega)]
      simp only [Option.bind_some]
      rw [equal_Way (by omega), equal_Ar2 (by omega), equal_Bool (by omega), myPath_eq (by omega), refPath_eq (by omega)]
      simp only [Option.bind_some, decide_true, if_true]
      rw [equal_refl_string (by omega)]
      rfl
theorem ok_walkTells (b : Branch) (fr : List Int) (i : Int) : Ok Try.prog 9 [encBranch b, .sl 1 (fr.map int), int i] (bool true) := ok_law13_WalkTells b fr i true (law_walkTells b fr i)
end Go.Proofs.Ytnmljicimdhpmaa.AL

/- Which directories any layer comes to, from any inodes, which entries bring none, and what is reached, is what the document says: for every layer, every list of inodes and every number. -/
namespace Go.Proofs.Ytnmljicimdhpmaa
theorem walkTells_holds : Rows.WalkTellsSaid := holds_walkTells_of fun b fr i _ _ _ => AL.ok_walkTells b fr i
#print axioms walkTells_holds
end Go.Proofs.Ytnmljicimdhpmaa

