/- A law of the given program is proved: part 46 of 50. -/
import Derived.Test.YtefdlpandfhcgaaGreatDoorA45
set_option linter.all false
/- AL: closed runs that hand back data; nothing is told. -/
set_option linter.all false
namespace Go.Proofs.YtefdlpandfhcgaaGreatDoor.AL
open Go Go.Proofs Go.RowKit
def subV : Value → Value → Bool
  | .int k a, .int k' b => decide (k = k') && decide (a = b)
  | .string a, .string b => decide (a = b)
  | .bool a, .bool b => a == b
  | _, _ => false
theorem xk7 {v w : Value} (h : subV v w = true) : v = w := by
  unfold subV at h
  split at h
  · simp only [Bool.and_eq_true, decide_eq_true_eq] at h
    rw [h.1, h.2]
  · simp only [decide_eq_true_eq] at h
    rw [h]
  · rw [eq_of_beq h]
  · cases h
def isNilV : Value → Bool
  | .slice none 0 0 => true
  | _ => false
mutual
def subB : AV → AV → Bool
  | .val v, .val w => subV v w
  | .val v, .sl _ [] => isNilV v
  | .agg xs, .agg ys => subBs xs ys
  | .sl s xs, .sl s' ys => Nat.beq s s' && subBs xs ys
  | _, _ => false
def subBs : List AV → List AV → Bool
  | [], [] => true
  | x :: xs, y :: ys => subB x y && subBs xs ys
  | _, _ => false
end
mutual
theorem subB_sound : ∀ (x y : AV), subB x y = true → Sub x y
  | .val v, y, h => by
    cases y with
    | val w => simp only [subB] at h; rw [xk7 h]; exact Sub.refl _
    | sl s ys =>
      cases ys with
      | nil =>
        simp only [subB] at h
        unfold isNilV at h
        split at h
        · exact Sub.nilS _
        · cases h
      | cons a l => simp [subB] at h
    | _ => simp [subB] at h
  | .agg xs, y, h => by
    cases y with
    | agg ys => simp only [subB] at h; exact Sub.agg (subBs_sound xs ys h)
    | _ => simp [subB] at h
  | .sl s xs, y, h => by
    cases y with
    | sl s' ys =>
      simp only [subB, Bool.and_eq_true] at h
      obtain rfl := Nat.eq_of_beq_eq_true h.1
      exact Sub.sl (subBs_sound xs ys h.2)
    | _ => simp [subB] at h
  | .tup xs, y, h => by cases y <;> simp [subB] at h
  | .ptr _ _, y, h => by cases y <;> simp [subB] at h
  | .loc _ _ _ _, y, h => by cases y <;> simp [subB] at h
  | .msl _ _, y, h => by cases y <;> simp [subB] at h
  | .mp _, y, h => by cases y <;> simp [subB] at h
  | .mtl _ _ _ _, y, h => by cases y <;> simp [subB] at h
  | .fn _ _ _, y, h => by cases y <;> simp [subB] at h
  | .ifc _ _, y, h => by cases y <;> simp [subB] at h
  | .e0, y, h => by cases y <;> simp [subB] at h
  | .junk, y, h => by cases y <;> simp [subB] at h
theorem subBs_sound : ∀ (xs ys : List AV), subBs xs ys = true → Subs xs ys
  | [], ys, h => by
    cases ys with
    | nil => exact Subs.nil
    | cons y ys => simp [subBs] at h
  | x :: xs, ys, h => by
    cases ys with
    | nil => simp [subBs] at h
    | cons y ys =>
      simp only [subBs, Bool.and_eq_true] at h
      exact Subs.cons (subB_sound x y h.1) (subBs_sound xs ys h.2)
end
end Go.Proofs.YtefdlpandfhcgaaGreatDoor.AL

/- The table of functions for closed runs; written by tabgen.py. -/
set_option linter.all false
namespace Go.Proofs.YtefdlpandfhcgaaGreatDoor.AL
open Go Go.Proofs
end Go.Proofs.YtefdlpandfhcgaaGreatDoor.AL

/- Models of functions, and that the functions are as their models: written by gen.py. -/
set_option linter.all false
set_option maxRecDepth 100000
namespace Go.Proofs.YtefdlpandfhcgaaGreatDoor.AL
open Go Go.Proofs
end Go.Proofs.YtefdlpandfhcgaaGreatDoor.AL

/- Plain laws of chapter 15: the node of a handle; the laws. -/
set_option linter.all false
namespace Go.Proofs.YtefdlpandfhcgaaGreatDoor.AL
open Go Go.Proofs Go.Lib
def lowP (s : Stack) (o : Origin) : Node := if 1 ≤ o.layer ∧ o.layer ≤ (s.lowers.length : Int) then nodeP ((s.lowers[(o.layer - 1).toNat]?).getD default) o.ino else xub
def foundP (s : Stack) (o : Origin) : Bool := decide ((lowP s o).kind = 1 ∨ (lowP s o).kind = 2 ∨ (lowP s o).kind = 3) && decide ((lowP s o).gen = o.gen)
def findN (s : Stack) (o : Origin) : Node × Bool := if foundP s o = true then (lowP s o, true) else (xub, false)
theorem low_ix {s : Stack} {o : Origin} (hs : SB s) (h1 : ¬ o.layer < 1) (h2 : ¬ (s.lowers.length : Int) < o.layer) : ∃ b, ix s.lowers (wr (o.layer - 1)) = some b ∧ PB b ∧ lowP s o = nodeP b o.ino := by
  have hl := hs.low
  have hlt : (o.layer - 1).toNat < s.lowers.length := by omega
  refine ⟨s.lowers[(o.layer - 1).toNat], ?_, ?_, ?_⟩
  · rw [wr_in (by omega) (by omega), ix_of (by omega) (by omega)]
  · have := hs.lows _ (List.getElem_mem hlt)
    exact ⟨this.1, fun x hx => (this.2 x hx).ents⟩
  · unfold lowP
    rw [if_pos ⟨by omega, by omega⟩, List.getElem?_eq_getElem hlt]
    rfl
theorem xds {x : Node} {g : Int} : (if x.kind = 1 then if x.gen = g then some (x, true) else some (xub, false) else if x.kind = 2 then if x.gen = g then some (x, true) else some (xub, false) else if x.kind = 3 then if x.gen = g then some (x, true) else some (xub, false) else some (xub, false))
    = some (if (decide (x.kind = 1 ∨ x.kind = 2 ∨ x.kind = 3) && decide (x.gen = g)) = true then (x, true) else (xub, false)) := by
  by_cases h1 : x.kind = 1
  · by_cases hg : x.gen = g <;> simp [h1, hg]
  · by_cases h2 : x.kind = 2
    · by_cases hg : x.gen = g <;> simp [h2, hg]
    · by_cases h3 : x.kind = 3
      · by_cases hg : x.gen = g <;> simp [h3, hg]
      · simp [h1, h2, h3]
theorem xxp {s : Stack} {o : Origin} (h : o.layer < 1 ∨ (s.lowers.length : Int) < o.layer) : lowP s o = xub := by
  unfold lowP
  rw [if_neg (by omega)]
theorem x2k {s : Stack} {o : Origin} (h : lowP s o = xub) : findN s o = (xub, false) := by
  unfold findN foundP
  rw [h]
  simp [xub]
theorem x34 {s : Stack} (hs : SB s) (o : Origin) : xbg s o = some (findN s o) := by
  unfold xbg
  by_cases h1 : o.layer < 1
  · rw [if_pos h1, x2k (xxp (.inl h1))]; rfl
  rw [if_neg h1]
  by_cases h2 : (s.lowers.length : Int) < o.layer
  · rw [if_pos h2, x2k (xxp (.inr h2))]; rfl
  rw [if_neg h2]
  obtain ⟨b, e1, e2, e3⟩ := low_ix hs h1 h2
  rw [e1]
  simp only [Option.bind_some]
  by_cases h3 : o.ino < 1
  · rw [if_pos h3, x2k (by rw [e3]; exact xhe (.inl h3))]; rfl
  rw [if_neg h3]
  by_cases h4 : (b.nodes.length : Int) < o.ino
  · rw [if_pos h4, x2k (by rw [e3]; exact xhe (.inr h4))]; rfl
  rw [if_neg h4, xwk h3 h4 e2.len]
  simp only [Option.bind_some]
  unfold findN foundP
  rw [e3]
  exact xds
theorem xo4 {s : Stack} (hs : SB s) (o : Origin) : x5g s o = some (findN s o) := by
  have hlow : xcg s (⟨o.layer, o.ino⟩ : Place) = some (lowP s o) := by
    unfold xcg
    simp only
    by_cases h1 : o.layer < 1
    · rw [if_pos h1, xxp (.inl h1)]; rfl
    rw [if_neg h1]
    by_cases h2 : (s.lowers.length : Int) < o.layer
    · rw [if_pos h2, xxp (.inr h2)]; rfl
    rw [if_neg h2]
    obtain ⟨b, e1, e2, e3⟩ := low_ix hs h1 h2
    rw [e1]
    simp only [Option.bind_some]
    rw [at_eq e2, e3]
    rfl
  unfold x5g
  rw [hlow]
  simp only [Option.bind_some]
  unfold findN foundP
  exact xds
end Go.Proofs.YtefdlpandfhcgaaGreatDoor.AL

/- Plain laws, part 2: the program's walk is the document's: as walk_Reach has it. -/
set_option linter.all false
namespace Go.Proofs.YtefdlpandfhcgaaGreatDoor.AL
open Go Go.Proofs
theorem xun {b : Branch} (hb : PB b) {k : Nat} {t : MS} (h : LI b k t.1) (hm : SM t) (hk : k < t.1.1.length) (w : Way) (hw : w.ino = wIno t.1 k) :
    iter (x4d b (k : Int) w (nodeP b (wIno t.1 k))) big (0, t.1.1, t.1.2, t.2) = some ((wStepM b k t).1.1, (wStepM b k t).2, (wStepM b k t).1.2) ∧ SM (wStepM b k t) := by
  have hlen := xjh hb (wIno t.1 k)
  have hn := hb.len
  have key := (xxf (B := x4d b (k : Int) w (nodeP b (wIno t.1 k))) (fun (i : Nat) (s : MS) => ((i : Int), s.1.1, s.1.2, s.2)) (nodeP b (wIno t.1 k)).entries (eStepM b k (wIno t.1 k)) (fun s => (s.1.1, s.2, s.1.2))
    (fun i u => WI b u.1.1 ∧ u.1.2.length ≤ t.1.2.length + i ∧ SM u) (by
    rintro i u hi ⟨w1, w2, w3⟩
    have htl := w1.len
    have hs2 := h.tw
    have hsl := h.wi.len
    have hat := h.at'
    obtain ⟨a1, a2, a3, a4⟩ := x7o (k := k) (ino := wIno t.1 k) (e := (nodeP b (wIno t.1 k)).entries[i]) w1
    refine ⟨?_, a1, by show (eStep _ _ _ _ _).2.length ≤ _; omega, xu3 w3⟩
    simp only [x4d]
    rw [if_pos (by omega), ix_at hi]
    simp only [Option.bind_some]
    generalize (nodeP b (wIno t.1 k)).entries[i] = e
    unfold eStepM eStep
    by_cases h1 : e.ino < 1
    · rw [if_pos h1, xhe (.inl h1), if_neg x6h, if_neg (fun h => x6h h.1), wr_suc (by omega)]
    · rw [if_neg h1]
      by_cases h2 : (b.nodes.length : Int) < e.ino
      · rw [if_pos h2, xhe (.inr h2), if_neg x6h, if_neg (fun h => x6h h.1), wr_suc (by omega)]
      · rw [if_neg h2, xwk h1 h2 hn]
        simp only [Option.bind_some]
        by_cases hkd : (nodeP b e.ino).kind = 1
        · rw [if_pos hkd, if_pos hkd]
          have hg := w3 e.ino
          by_cases hs : seenB u.1.1 e.ino = true
          · rw [if_pos (by rw [hg, if_pos hs]; omega), if_pos hs, if_neg (by rw [hs]; simp), ap_of (by simp; omega) (by omega), wr_suc (by omega), hw]
            rfl
          · have hs' : seenB u.1.1 e.ino = false := by simpa using hs
            rw [if_neg (by rw [hg, if_neg hs]; omega), if_neg hs, if_pos ⟨hkd, hs'⟩, ap_of (by simp; omega) (by omega), wr_suc (by omega), hg, if_neg hs, wr_in (by omega) (by omega)]
            rfl
        · rw [if_neg hkd, if_neg hkd, if_neg (fun h => hkd h.1), wr_suc (by omega)]) (by
    rintro u ⟨w1, w2, w3⟩
    simp only [x4d]
    rw [if_neg (by omega)]) (s0 := t) ⟨h.wi, by omega, hm⟩ (fuel := big) (by rw [big_eq]; omega))
  exact ⟨key.1, key.2.2.2⟩
theorem xij {b : Branch} (hb : PB b) {k : Nat} {t : MS} (h : LI b k t.1) (hm : SM t) :
    iter (x7d b) (big + 1) ((k : Int), t.1.1, t.1.2, t.2) = some ((wLoopM b k t).2.1.1, (wLoopM b k t).2.2, (wLoopM b k t).2.1.2, ((wLoopM b k t).1 : Int)) ∧ (LI b (wLoopM b k t).1 (wLoopM b k t).2.1 ∧ SM (wLoopM b k t).2) ∧ (wLoopM b k t).1 = (wLoopM b k t).2.1.1.length := by
  have hn := hb.len
  refine x6s (B := x7d b) (fun (k : Nat) (t : MS) => ((k : Int), t.1.1, t.1.2, t.2)) (wStepM b) (fun t => t.1.1.length) (fun k t => (t.1.1, t.2, t.1.2, (k : Int))) (fun k t => LI b k t.1 ∧ SM t) 24 (fun k s h => ⟨h.1.at', Nat.le_trans h.1.wi.len hn⟩) ?_ ?_ 25 k t (big + 1) ⟨h, hm⟩ (by omega) (by rw [big_eq]; omega)
  · rintro k t ⟨h, hm⟩ hk
    have hl := h.wi.len
    have he : t.1.1[k].ino = wIno t.1 k := by unfold wIno; rw [List.getElem?_eq_getElem hk]; rfl
    obtain ⟨r1, r2⟩ := xnh (h.wi.dir _ (List.getElem_mem hk))
    obtain ⟨e1, e2⟩ := xun hb h hm hk t.1.1[k] he
    refine ⟨?_, by rw [xzr]; exact xil hb h hk, e2⟩
    simp only [x7d]
    rw [if_pos (by omega), ix_at hk]
    simp only [Option.bind_some]
    rw [if_neg (by omega), if_neg (by omega), xwk (by omega) (by omega) hn, he]
    simp only [Option.bind_some]
    rw [e1, wr_suc (by omega)]
    rfl
  · rintro k t ⟨h, hm⟩ hk
    simp only [x7d]
    rw [if_neg (by omega)]
theorem xoo {b : Branch} (hb : PB b) {t : Nat × MS} (h : FI b (t.1, t.2.1)) (hm : SM t.2) (r : Int) :
    xvg b t.2.1.1 t.2.2 r = some (if (nodeP b r).kind = 1 ∧ seenB t.2.1.1 r = false then (t.2.1.1 ++ [⟨r, -1, xq⟩], mset t.2.2 r 1) else (t.2.1.1, t.2.2)) := by
  have hn := hb.len
  have hl := h.li.wi.len
  simp only at hl
  unfold xvg
  by_cases h1 : r < 1
  · rw [if_pos h1, xhe (.inl h1), if_neg (fun h => x6h h.1)]
  · rw [if_neg h1]
    by_cases h2 : (b.nodes.length : Int) < r
    · rw [if_pos h2, xhe (.inr h2), if_neg (fun h => x6h h.1)]
    · rw [if_neg h2, xwk h1 h2 hn]
      simp only [Option.bind_some]
      by_cases hk : (nodeP b r).kind = 1
      · rw [if_pos hk]
        have hg := hm r
        by_cases hs : seenB t.2.1.1 r = true
        · rw [if_pos (by rw [hg, if_pos hs]; omega), if_neg (by rw [hs]; simp)]
        · have hs' : seenB t.2.1.1 r = false := by simpa using hs
          rw [if_neg (by rw [hg, if_neg hs]; omega), if_pos ⟨hk, hs'⟩, ap_of (by simp; omega) (by omega), hg, if_neg hs, wr_in (by omega) (by omega)]
          rfl
      · rw [if_neg hk, if_neg (fun h => hk h.1)]
theorem xdo {b : Branch} (hb : PB b) {fr : List Int} (hf : fr.length ≤ 1000) : ∃ M, iter (x3d b fr) big (0, 0, [], [], ([] : List (Int × Int))) = some ((walkP b fr).2.1, M, (walkP b fr).2.2) := by
  have hn := hb.len
  have key := xxf (B := x3d b fr) (fun (i : Nat) (t : Nat × MS) => ((t.1 : Int), (i : Int), t.2.1.1, t.2.1.2, t.2.2)) fr (fStepM b) (fun t => (t.2.1.1, t.2.2, t.2.1.2)) (fun _ t => FI b (t.1, t.2.1) ∧ SM t.2) (by
    rintro i t hi ⟨h, hm⟩
    have hl := h.li.wi.len
    have hi2 : FI b ((fStepM b t fr[i]).1, (fStepM b t fr[i]).2.1) := by rw [x0r]; exact xzo hb h _
    simp only [x3d]
    rw [if_pos (by omega), ix_at hi]
    simp only [Option.bind_some]
    rw [xoo hb h hm]
    unfold fStepM at hi2 ⊢
    by_cases hc : (nodeP b fr[i]).kind = 1 ∧ seenB t.2.1.1 fr[i] = false
    · rw [if_pos hc] at hi2
      rw [if_pos hc, if_pos hc]
      have hp := h.li.push (w := ⟨fr[i], -1, xq⟩) hc.1 hc.2
      obtain ⟨q1, q2, q3⟩ := xij hb (k := t.1) (t := ((t.2.1.1 ++ [⟨fr[i], -1, xq⟩], t.2.1.2), mset t.2.2 fr[i] 1)) hp (hm.push _ hc.2)
      simp only [Option.bind_some]
      simp only at q1
      rw [q1, wr_suc (by omega)]
      exact ⟨rfl, hi2, q2.2⟩
    · rw [if_neg hc] at hi2
      rw [if_neg hc, if_neg hc]
      obtain ⟨q1, q2, q3⟩ := xij hb (k := t.1) (t := t.2) h.li hm
      have hd : wLoopM b t.1 t.2 = (t.1, t.2) := xe9 (by have := h.all; simp only at this; omega)
      rw [hd] at q1
      simp only [Option.bind_some]
      simp only at q1
      rw [q1, wr_suc (by omega)]
      exact ⟨rfl, hi2, hm⟩) (by
    rintro t ⟨h, hm⟩
    simp only [x3d]
    rw [if_neg (by omega)]) (s0 := (0, (([], []), []))) ⟨FI.nil b, fun i => by simp [mget, seenB]⟩ (fuel := big) (by rw [big_eq]; omega)
  have hfst : ∀ (l : List Int) (t : Nat × MS), ((l.foldl (fStepM b) t).1, (l.foldl (fStepM b) t).2.1) = l.foldl (fStep b) (t.1, t.2.1) := by
    intro l
    induction l with
    | nil => intro t; rfl
    | cons x l ih => intro t; rw [List.foldl_cons, List.foldl_cons, ih, x0r]
  have h2 := hfst fr (0, (([], []), []))
  have h3 : (fr.foldl (fStepM b) (0, (([], []), []))).2.1 = (walkP b fr).2 := by
    unfold walkP
    rw [← h2]
  refine ⟨(fr.foldl (fStepM b) (0, (([], []), []))).2.2, ?_⟩
  have h1 := key.1
  rw [← h3]
  exact h1
end Go.Proofs.YtefdlpandfhcgaaGreatDoor.AL

/- Plain laws, part 3: what is reached. -/
set_option linter.all false
namespace Go.Proofs.YtefdlpandfhcgaaGreatDoor.AL
open Go Go.Proofs
def setT (bs : List Bool) (L : List Nat) : List Bool := L.foldl (fun bs i => bs.set i true) bs
theorem xql (bs : List Bool) (L M : List Nat) : setT bs (L ++ M) = setT (setT bs L) M := by unfold setT; rw [List.foldl_append]
theorem xer (L : List Nat) : ∀ bs : List Bool, (setT bs L).length = bs.length := by
  induction L with
  | nil => intro bs; rfl
  | cons i L ih => intro bs; show (setT (bs.set i true) L).length = _; rw [ih]; simp
theorem xfr : ∀ (L : List Nat) (bs : List Bool) (j : Nat), (setT bs L)[j]? = if j ∈ L then (bs[j]?).map (fun _ => true) else bs[j]?
  | [], bs, j => by simp [setT]
  | i :: L, bs, j => by
    show (setT (bs.set i true) L)[j]? = _
    rw [xfr L]
    have hs : (bs.set i true)[j]? = if i = j then (bs[j]?).map (fun _ => true) else bs[j]? := by
      rw [List.getElem?_set]
      by_cases e : i = j
      · subst e
        by_cases h : i < bs.length
        · simp [h]
        · simp [h]
      · simp [e]
    rw [hs]
    by_cases h1 : j ∈ L
    · rw [if_pos h1, if_pos (List.mem_cons_of_mem _ h1)]
      split
      · cases bs[j]? <;> rfl
      · rfl
    · rw [if_neg h1]
      by_cases e : i = j
      · subst e; simp
      · have : ¬ j ∈ i :: L := by simp [h1]; omega
        rw [if_neg e, if_neg this]
theorem x96 {bs : List Bool} {L M : List Nat} (h : ∀ j, j ∈ L ↔ j ∈ M) : setT bs L = setT bs M := by
  refine List.ext_getElem? fun j => ?_
  rw [xfr, xfr]
  by_cases hj : j ∈ L
  · rw [if_pos hj, if_pos ((h j).1 hj)]
  · rw [if_neg hj, if_neg (fun k => hj ((h j).2 k))]
def entI (n : Nat) (e : Entry) : List Nat := if 1 ≤ e.ino ∧ e.ino ≤ (n : Int) then [(e.ino - 1).toNat] else []
theorem xt0 {bs : List Bool} {n : Nat} (h : bs.length = n) (e : Entry) : stepE bs e = setT bs (entI n e) := by
  unfold stepE entI
  rw [h]
  split <;> rfl
theorem xvm {n : Nat} : ∀ (es : List Entry) {bs : List Bool}, bs.length = n → es.foldl stepE bs = setT bs (es.flatMap (entI n))
  | [], bs, h => rfl
  | e :: es, bs, h => by
    rw [List.foldl_cons, List.flatMap_cons, xql, xt0 h]
    exact xvm es (by rw [xer]; exact h)
theorem xvr : ∀ (ws : List Way) (bs : List Bool), ws.foldl stepW bs = setT bs (ws.map fun w => (w.ino - 1).toNat)
  | [], bs => rfl
  | w :: ws, bs => by rw [List.foldl_cons, xvr ws]; rfl
def reachL (b : Branch) (ways : List Way) : List Nat := ways.flatMap fun w => (w.ino - 1).toNat :: (nodeP b w.ino).entries.flatMap (entI b.nodes.length)
def reachW (b : Branch) (ways : List Way) : List Bool := setT (List.replicate b.nodes.length false) (reachL b ways)
def reachP (b : Branch) (fr : List Int) : List Bool := reachW b (walkP b fr).2.1
theorem x70 (b : Branch) (fr : List Int) : (reachP b fr).length = b.nodes.length := by unfold reachP reachW; rw [xer]; simp
theorem xkp {b : Branch} (hb : PB b) (ino : Int) : nodeAt b ino = some (nodeP b ino) := at_eq hb ino
theorem xi5 {b : Branch} (hb : PB b) {ways : List Way} (h : WI b ways) : x2c b ways = some (reachW b ways) := by
  have hn := hb.len
  have hl := h.len
  unfold x2c
  have hc : b.nodes.length ≤ 281474976710656 ∧ ways.length < 4611686018427387904 ∧ (∀ w ∈ ways, 1 ≤ w.ino ∧ w.ino ≤ (b.nodes.length : Int)) ∧ (∀ w ∈ ways, (nodeAt b w.ino).isSome = true) ∧ ∀ w ∈ ways, ((nodeAt b w.ino).getD default).entries.length < 4611686018427387904 := by
    refine ⟨by omega, by omega, fun w hw => xnh (h.dir w hw), fun w hw => by rw [xkp hb]; rfl, fun w hw => ?_⟩
    rw [xkp hb]
    have := xjh hb w.ino
    simp only [Option.getD_some]
    omega
  have hck : ck (b.nodes.length ≤ 281474976710656 ∧ ways.length < 4611686018427387904 ∧ (∀ w ∈ ways, 1 ≤ w.ino ∧ w.ino ≤ (b.nodes.length : Int)) ∧ (∀ w ∈ ways, (nodeAt b w.ino).isSome = true) ∧ ∀ w ∈ ways, ((nodeAt b w.ino).getD default).entries.length < 4611686018427387904) = some () := by
    unfold ck
    rw [if_pos hc]
  rw [hck]
  simp only [Option.bind_some]
  have hnd : (fun w : Way => (nodeAt b w.ino).getD default) = fun w => nodeP b w.ino := by funext w; rw [xkp hb]; rfl
  rw [hnd]
  unfold reachM reachW entsN
  rw [List.take_length, xvr, xvm (n := b.nodes.length) _ (by rw [xer]; simp), ← xql]
  congr 1
  refine x96 fun j => ?_
  unfold reachL
  simp only [List.mem_append, List.mem_map, List.mem_flatMap, List.mem_cons]
  constructor
  · rintro (⟨w, hw, rfl⟩ | ⟨e, ⟨w, hw, he⟩, hj⟩)
    · exact ⟨w, hw, .inl rfl⟩
    · exact ⟨w, hw, .inr ⟨e, he, hj⟩⟩
  · rintro ⟨w, hw, rfl | ⟨e, he, hj⟩⟩
    · exact .inl ⟨w, hw, rfl⟩
    · exact .inr ⟨e, ⟨w, hw, he⟩, hj⟩
theorem xaw {b : Branch} (hb : PB b) {fr : List Int} (hf : fr.length ≤ 1000) : xmf b fr = some (reachP b fr) := by
  obtain ⟨M, hM⟩ := xdo hb hf
  unfold xmf
  rw [hM]
  simp only [Option.bind_some]
  rw [xi5 hb (xq9 hb fr).li.wi]
  rfl
theorem xdy {b : Branch} (hb : PB b) {fr : List Int} (hf : fr.length ≤ 1000) : xae b fr = some (reachP b fr) := by
  have hn := hb.len
  obtain ⟨h1, h2⟩ := xl4 hb hf
  have hwi := h2.li.wi
  have hl := hwi.len
  unfold xae xsi
  have hck : ck (0 ≤ (b.nodes.length : Int) ∧ (b.nodes.length : Int) ≤ (b.nodes.length : Int) ∧ (1 : Int) * (b.nodes.length : Int) ≤ 281474976710656 ∧ (b.nodes.length : Int) ≤ 9223372036854775807) = some () := by
    unfold ck
    rw [if_pos (by omega)]
  rw [hck, h1]
  simp only [Option.bind_some]
  unfold reachP
  generalize (walkP b fr).2.1 = ways at hwi hl
  have inner : ∀ (x : Node) (bs : List Bool), x.entries.length ≤ 16 → bs.length = b.nodes.length → iter (xod x) big (0, bs) = some (x.entries.foldl stepE bs) := by
    intro x bs hx hbs
    refine (xxf (B := xod x) (fun (i : Nat) (s : List Bool) => ((i : Int), s)) x.entries stepE (fun s => s) (fun _ s => s.length = b.nodes.length) (by
      intro i s hi hs
      refine ⟨?_, by rw [xfu]; exact hs⟩
      simp only [xod]
      rw [if_pos (by omega), ix_at hi]
      simp only [Option.bind_some]
      unfold stepE
      by_cases c1 : 1 ≤ x.entries[i].ino
      · rw [if_pos c1]
        by_cases c2 : x.entries[i].ino ≤ (s.length : Int)
        · rw [if_pos c2, if_pos ⟨c1, c2⟩, wr_in (n := x.entries[i].ino - 1) (by omega) (by omega), ix_of (by omega) (by omega), wr_suc (by omega)]
          rfl
        · rw [if_neg c2, if_neg (fun h => c2 h.2), wr_suc (by omega)]
      · rw [if_neg c1, if_neg (fun h => c1 h.1), wr_suc (by omega)]) (by
      intro s hs
      simp only [xod]
      rw [if_neg (by omega)]) hbs (fuel := big) (by rw [big_eq]; omega)).1
  have outer := (xxf (B := xwe b ways) (fun (i : Nat) (s : List Bool) => ((i : Int), s)) ways (fun bs w => (nodeP b w.ino).entries.foldl stepE (stepW bs w)) (fun s => s) (fun _ s => s.length = b.nodes.length) (by
      intro i s hi hs
      obtain ⟨r1, r2⟩ := xnh (hwi.dir _ (List.getElem_mem hi))
      refine ⟨?_, by rw [x9k, xcl]; exact hs⟩
      simp only [xwe]
      rw [if_pos (by omega), ix_at hi]
      simp only [Option.bind_some]
      rw [wr_in (n := ways[i].ino - 1) (by omega) (by omega), ix_of (by omega) (by omega)]
      simp only [Option.bind_some]
      rw [at_eq hb]
      simp only [Option.bind_some]
      rw [inner _ _ (xjh hb _) (by simp [hs]), wr_suc (by omega)]
      rfl) (by
      intro s hs
      simp only [xwe]
      rw [if_neg (by omega)]) (s0 := List.replicate b.nodes.length false) (by simp) (fuel := big) (by rw [big_eq]; omega)).1
  simp only [Int.toNat_natCast] at outer ⊢
  rw [show ((0 : Nat) : Int) = 0 from rfl] at outer
  rw [outer]
  simp only [Option.bind_some]
  congr 1
  unfold reachW
  have : ∀ (ws : List Way) (bs : List Bool), bs.length = b.nodes.length → ws.foldl (fun bs w => (nodeP b w.ino).entries.foldl stepE (stepW bs w)) bs = setT bs (reachL b ws) := by
    intro ws
    induction ws with
    | nil => intro bs _; rfl
    | cons w ws ih =>
      intro bs hbs
      rw [List.foldl_cons, ih _ (by rw [x9k, xcl]; exact hbs), xvm (n := b.nodes.length) _ (by rw [xcl]; exact hbs)]
      unfold reachL
      rw [List.flatMap_cons, xql]
      rfl
  exact this ways _ (by simp)
end Go.Proofs.YtefdlpandfhcgaaGreatDoor.AL

