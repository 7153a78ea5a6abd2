/- A law of the given program is proved: part 50 of 50. -/
import Derived.Test.YtefdlpandfhcgaaGreatDoorA49
set_option linter.all false
/- Models of functions, and that the functions are as their models: written by gen.py. -/
set_option linter.all false
set_option maxRecDepth 100000
namespace Go.Proofs.YtefdlpandfhcgaaGreatDoor.AL
open Go Go.Proofs
def x2e (a0 : Stack) (a1 : Entry) (a2 : Int) : Option (Bool) := (xgg a0 24).bind fun v1 => if (!v1) = true then (xrc ).bind fun v5 => some v5
 else if 40 < (a1.name.size : Int) then (xrc ).bind fun v9 => some v9
 else (xqe a0).bind fun v11 => (xse a0).bind fun v13 => (xsb v11 v13).bind fun v15 => if v15 = true then (xxh a0 a1).bind fun v19 => (xdf a0 a1).bind fun v21 => if v19 = true then if v21 = true then (x9c a0 a2).bind fun v27 => (x5c a0 a2).bind fun v29 => if v27 = true then if v29 = true then (xrc ).bind fun v35 => some v35
 else some false
 else if v29 = true then some false
 else (xrc ).bind fun v39 => some v39
 else some false
 else if v21 = true then some false
 else (x9c a0 a2).bind fun v43 => (x5c a0 a2).bind fun v45 => if v43 = true then if v45 = true then (xrc ).bind fun v51 => some v51
 else some false
 else if v45 = true then some false
 else (xrc ).bind fun v55 => some v55
 else some false
def xf := aI (aI (aI (aI (@EV) (@R3)) (aI (@R4) (@R9))) (aI (aI (@R29) (@R31)) (aI (@R35) (@R37)))) (aI (aI (aI (@DBranch) (@DStack)) (aI (@DEntry) (@DFinding))) (aI (aI (@DOrigin) (@DAttr)) (aI (@DNode) (@mixed))))
set_option maxHeartbeats 2000000 in
theorem xj1 (a0 : Stack) (a1 : Entry) (a2 : Int) (r : Bool) (hm0 : x2e a0 a1 a2 = some r) : Ok Tryz.prog 3 [xnb a0, xd a1, int a2] (bool r) := by
 unfold x2e at hm0
 refine okG xtn ?_
 unfold xhj
 obtain ⟨v1, h2, hm0⟩ := bsE hm0
 simp only [xf, ↓EVd, isCall, sevalprocAttr]
 refine qc (x2t _ _ _ h2) rfl ?_
 rcases itbE hm0 with ⟨e4, hm0⟩ | ⟨e4, hm0⟩
 · obtain ⟨v5, h6, hm0⟩ := bsE hm0
   simp only [e4, xf, ↓EVd, isCall, sevalprocAttr]
   refine qc (xne  _ h6) rfl ?_
   obtain rfl := Option.some.inj hm0
   simp only [e4, xf, ↓EVd, isCall, sevalprocAttr]
   all_goals first | done | rfl
 rcases iteE hm0 with ⟨e8, hm0⟩ | ⟨e8, hm0⟩
 · obtain ⟨v9, h10, hm0⟩ := bsE hm0
   simp only [e4, e8, xf, ↓EVd, isCall, sevalprocAttr]
   refine qc (xne  _ h10) rfl ?_
   obtain rfl := Option.some.inj hm0
   simp only [e4, e8, xf, ↓EVd, isCall, sevalprocAttr]
   all_goals first | done | rfl
 obtain ⟨v11, h12, hm0⟩ := bsE hm0
 simp only [e4, e8, xf, ↓EVd, isCall, sevalprocAttr]
 refine qd (x4p _ _ h12) rfl ?_
 obtain ⟨v13, h14, hm0⟩ := bsE hm0
 simp only [e4, e8, xf, ↓EVd, isCall, sevalprocAttr]
 refine qd (x9p _ _ h14) rfl ?_
 obtain ⟨v15, h16, hm0⟩ := bsE hm0
 simp only [e4, e8, xf, ↓EVd, isCall, sevalprocAttr]
 refine qd (xeg _ _ _ h16) rfl ?_
 rcases itbE hm0 with ⟨e18, hm0⟩ | ⟨e18, hm0⟩
 · obtain ⟨v19, h20, hm0⟩ := bsE hm0
   simp only [e4, e8, e18, xf, ↓EVd, isCall, sevalprocAttr]
   refine qd (xyw _ _ _ h20) rfl ?_
   obtain ⟨v21, h22, hm0⟩ := bsE hm0
   simp only [e4, e8, e18, xf, ↓EVd, isCall, sevalprocAttr]
   refine qd (xhk _ _ _ h22) rfl ?_
   rcases itbE hm0 with ⟨e24, hm0⟩ | ⟨e24, hm0⟩
   · rcases itbE hm0 with ⟨e26, hm0⟩ | ⟨e26, hm0⟩
     · obtain ⟨v27, h28, hm0⟩ := bsE hm0
       simp only [e4, e8, e18, e24, e26, xf, ↓EVd, isCall, sevalprocAttr]
       refine qd (x7j _ _ _ h28) rfl ?_
       obtain ⟨v29, h30, hm0⟩ := bsE hm0
       simp only [e4, e8, e18, e24, e26, xf, ↓EVd, isCall, sevalprocAttr]
       refine qd (xik _ _ _ h30) rfl ?_
       rcases itbE hm0 with ⟨e32, hm0⟩ | ⟨e32, hm0⟩
       · rcases itbE hm0 with ⟨e34, hm0⟩ | ⟨e34, hm0⟩
         · obtain ⟨v35, h36, hm0⟩ := bsE hm0
           simp only [e4, e8, e18, e24, e26, e32, e34, xf, ↓EVd, isCall, sevalprocAttr]
           refine qd (xne  _ h36) rfl ?_
           obtain rfl := Option.some.inj hm0
           simp only [e4, e8, e18, e24, e26, e32, e34, xf, ↓EVd, isCall, sevalprocAttr]
           all_goals first | done | rfl
         obtain rfl := Option.some.inj hm0
         simp only [e4, e8, e18, e24, e26, e32, e34, xf, ↓EVd, isCall, sevalprocAttr]
         all_goals first | done | rfl
       rcases itbE hm0 with ⟨e38, hm0⟩ | ⟨e38, hm0⟩
       · obtain rfl := Option.some.inj hm0
         simp only [e4, e8, e18, e24, e26, e32, e38, xf, ↓EVd, isCall, sevalprocAttr]
         all_goals first | done | rfl
       obtain ⟨v39, h40, hm0⟩ := bsE hm0
       simp only [e4, e8, e18, e24, e26, e32, e38, xf, ↓EVd, isCall, sevalprocAttr]
       refine qd (xne  _ h40) rfl ?_
       obtain rfl := Option.some.inj hm0
       simp only [e4, e8, e18, e24, e26, e32, e38, xf, ↓EVd, isCall, sevalprocAttr]
       all_goals first | done | rfl
     obtain rfl := Option.some.inj hm0
     simp only [e4, e8, e18, e24, e26, xf, ↓EVd, isCall, sevalprocAttr]
     all_goals first | done | rfl
   rcases itbE hm0 with ⟨e42, hm0⟩ | ⟨e42, hm0⟩
   · obtain rfl := Option.some.inj hm0
     simp only [e4, e8, e18, e24, e42, xf, ↓EVd, isCall, sevalprocAttr]
     all_goals first | done | rfl
   obtain ⟨v43, h44, hm0⟩ := bsE hm0
   simp only [e4, e8, e18, e24, e42, xf, ↓EVd, isCall, sevalprocAttr]
   refine qd (x7j _ _ _ h44) rfl ?_
   obtain ⟨v45, h46, hm0⟩ := bsE hm0
   simp only [e4, e8, e18, e24, e42, xf, ↓EVd, isCall, sevalprocAttr]
   refine qd (xik _ _ _ h46) rfl ?_
   rcases itbE hm0 with ⟨e48, hm0⟩ | ⟨e48, hm0⟩
   · rcases itbE hm0 with ⟨e50, hm0⟩ | ⟨e50, hm0⟩
     · obtain ⟨v51, h52, hm0⟩ := bsE hm0
       simp only [e4, e8, e18, e24, e42, e48, e50, xf, ↓EVd, isCall, sevalprocAttr]
       refine qd (xne  _ h52) rfl ?_
       obtain rfl := Option.some.inj hm0
       simp only [e4, e8, e18, e24, e42, e48, e50, xf, ↓EVd, isCall, sevalprocAttr]
       all_goals first | done | rfl
     obtain rfl := Option.some.inj hm0
     simp only [e4, e8, e18, e24, e42, e48, e50, xf, ↓EVd, isCall, sevalprocAttr]
     all_goals first | done | rfl
   rcases itbE hm0 with ⟨e54, hm0⟩ | ⟨e54, hm0⟩
   · obtain rfl := Option.some.inj hm0
     simp only [e4, e8, e18, e24, e42, e48, e54, xf, ↓EVd, isCall, sevalprocAttr]
     all_goals first | done | rfl
   obtain ⟨v55, h56, hm0⟩ := bsE hm0
   simp only [e4, e8, e18, e24, e42, e48, e54, xf, ↓EVd, isCall, sevalprocAttr]
   refine qd (xne  _ h56) rfl ?_
   obtain rfl := Option.some.inj hm0
   simp only [e4, e8, e18, e24, e42, e48, e54, xf, ↓EVd, isCall, sevalprocAttr]
   all_goals first | done | rfl
 obtain rfl := Option.some.inj hm0
 simp only [e4, e8, e18, xf, ↓EVd, isCall, sevalprocAttr]
 all_goals first | done | rfl
end Go.Proofs.YtefdlpandfhcgaaGreatDoor.AL

/- Plain laws of chapter 23: what the document says of the index; the law. -/
set_option linter.all false
namespace Go.Proofs.YtefdlpandfhcgaaGreatDoor.AL
open Go Go.Proofs Go.Lib
theorem xz1 (k : Fin 32) : bAnd .i64 (k.val : Int) 4 = 0 ↔ ¬ (wr ((k.val : Int).tdiv 4)).tmod 2 = 1 := by
  revert k
  decide +kernel
theorem xn9 {x : Node} (h : NB x) : xbf x.attr 4 = some (!decide (bAnd .i64 x.attr.has 4 = 0)) := by
  have h0 := h.has0
  have h1 := h.has1
  have hb := xz1 ⟨x.attr.has.toNat, by omega⟩
  simp only [show ((x.attr.has.toNat : Nat) : Int) = x.attr.has by omega] at hb
  unfold xbf xbj ck
  rw [if_pos h0, if_pos (by decide)]
  simp only [Option.bind_some]
  by_cases hc : (wr (x.attr.has.tdiv 4)).tmod 2 = 1
  · rw [if_pos hc, decide_eq_false (fun hz => hb.1 hz hc)]; rfl
  · rw [if_neg hc, decide_eq_true (hb.2 hc)]; rfl
theorem xe7 {s : Stack} (hs : SB s) (ino : Int) : NB (nodeP s.upper ino) := by
  unfold nodeP
  split
  · exact ⟨by simp [xub], by simp [xub], by simp [xub]⟩
  · split
    · exact ⟨by simp [xub], by simp [xub], by simp [xub]⟩
    · have hlt : (ino - 1).toNat < s.upper.nodes.length := by omega
      simp only [List.getElem?_eq_getElem hlt, Option.getD_some]
      exact hs.up.2 _ (List.getElem_mem hlt)
theorem xkj {s : Stack} (hs : SB s) (e : Entry) : xdf s e = some (badP2 s e) := by
  unfold xdf badP2
  obtain ⟨t, ht⟩ := bB_eq e.name
  have ht2 : e.name.data.toList = t := by rw [ht]; rfl
  rw [ht2]
  rw [ht, x5w]
  simp only [Option.bind_some]
  generalize parseH t = pr
  obtain ⟨o, pb⟩ := pr
  cases pb with
  | false => simp
  | true =>
    simp only [Bool.not_true, Bool.false_eq_true, if_false, Bool.true_eq_false]
    rw [xo4 hs]
    simp only [Option.bind_some]
    generalize findN s o = fr
    obtain ⟨y, fb⟩ := fr
    cases fb with
    | false => simp
    | true =>
      simp only [Bool.not_true, Bool.false_eq_true, if_false, Bool.true_eq_false]
      by_cases hy : y.kind = 1
      · rw [if_pos hy, if_pos hy]
      · rw [if_neg hy, if_neg hy, at_eq hs.pbu]
        simp only [Option.bind_some]
        unfold badN
        have hnb := xe7 hs e.ino
        have h0 := hnb.has0
        by_cases k4 : (nodeP s.upper e.ino).kind = 4
        · rw [if_pos k4, if_pos k4]
        · rw [if_neg k4, if_neg k4]
          have key : (nodeP s.upper e.ino).kind ≠ 0 → ((xbf (nodeP s.upper e.ino).attr 4).bind fun v17 => if (!v17) = true then some true
             else if (decide ((nodeP s.upper e.ino).attr.origin = o)) = true then (xae s.upper ([1] : List Int)).bind fun v23 => (ix v23 (wr (e.ino - 1))).bind fun v25 => some (!v25)
             else some true) = some (if bAnd .i64 (nodeP s.upper e.ino).attr.has 4 = 0 then true else if (nodeP s.upper e.ino).attr.origin = o then !((reachP s.upper [1])[(e.ino - 1).toNat]?.getD false) else true) := by
            intro hk
            have ht := xdz hs hk
            rw [show (openP s).tree = reachP s.upper [1] from rfl] at ht
            rw [xn9 hnb, xdy hs.pbu (by simp)]
            simp only [Option.bind_some]
            rw [ht]
            by_cases c : bAnd .i64 (nodeP s.upper e.ino).attr.has 4 = 0
            · simp [c]
            · by_cases d : (nodeP s.upper e.ino).attr.origin = o <;> simp [c, d]
          by_cases k2 : (nodeP s.upper e.ino).kind = 2
          · have hor : (nodeP s.upper e.ino).kind = 2 ∨ (nodeP s.upper e.ino).kind = 3 := Or.inl k2
            rw [if_pos k2, key (by omega), if_pos hor, if_pos h0]
          · rw [if_neg k2]
            by_cases k3 : (nodeP s.upper e.ino).kind = 3
            · have hor : (nodeP s.upper e.ino).kind = 2 ∨ (nodeP s.upper e.ino).kind = 3 := Or.inr k3
              rw [if_pos k3, key (by omega), if_pos hor, if_pos h0]
            · rw [if_neg k3, if_neg (by omega)]
def entsQ (s : Stack) (ino : Int) : List Entry := if (nodeP s.upper ino).kind = 1 then (nodeP s.upper ino).entries else []
theorem xbp {s : Stack} (hs : SB s) (ino : Int) : (entsQ s ino).length ≤ 16 := by
  have := xjh hs.pbu ino
  unfold entsQ
  split
  · exact this
  · simp
theorem xzn {s : Stack} (hs : SB s) (ino : Int) : x3b (openP s) ino = some (entsQ s ino) := x65 (u := openP s) hs.pbu ino
theorem x0m {s : Stack} (hs : SB s) (ino : Int) : x6c s ino = some (entsQ s ino) := by
  unfold x6c entsQ
  rw [at_eq hs.pbu]
  simp only [Option.bind_some]
  split <;> rfl
theorem xs4 {s : Stack} (hs : SB s) (es : List Entry) : xxe (openP s) es = xkc s es := by
  funext t
  obtain ⟨a, i⟩ := t
  simp only [xxe, xkc, bad_eq hs, xkj hs]
theorem xhab {s : Stack} (hs : SB s) (ino : Int) (es : List Entry) : x5e ino (openP s) es = xoc s ino es := by
  funext i
  simp only [x5e, xoc, bad_eq hs, xkj hs]
theorem x03 {s : Stack} (hs : SB s) {es : List Entry} (h : es.length ≤ 16) : ∃ r, iter (xkc s es) big ([], 0) = some r ∧ r.length ≤ 16 :=
  xyf (B := xkc s es) (R := fun r => r.length ≤ 16) (fun i t => t.2 = (i : Int) ∧ t.1.length ≤ i ∧ i ≤ es.length) es.length (by
    rintro i ⟨a, j⟩ ⟨hj, ha, hi⟩
    simp only at hj ha
    subst hj
    refine ⟨hi, ?_⟩
    simp only [xkc]
    by_cases hlt : i < es.length
    · rw [if_pos (by omega), ix_at hlt]
      simp only [Option.bind_some, xkj hs]
      refine .inl ?_
      rw [wr_suc (by omega)]
      by_cases hb : badP2 s es[i] = true
      · rw [if_pos hb, ap_of (by simp; omega) (by omega)]
        exact ⟨_, rfl, rfl, by simp; omega, by omega⟩
      · rw [if_neg hb]
        exact ⟨_, rfl, rfl, by simp only; omega, by omega⟩
    · rw [if_neg (by omega)]
      exact .inr ⟨_, rfl, by omega⟩) big 0 ([], 0) ⟨rfl, by simp, by omega⟩ (by rw [big_eq]; omega)
theorem xb2 {a : List Finding} (ha : a.length ≤ 16) {es : List Entry} (h : es.length ≤ 16) : ∃ r, iter (xnd es) big (a, 0) = some r ∧ r.length ≤ 32 :=
  xyf (B := xnd es) (R := fun r => r.length ≤ 32) (fun i t => t.2 = (i : Int) ∧ t.1.length ≤ 16 + i ∧ i ≤ es.length) es.length (by
    rintro i ⟨a, j⟩ ⟨hj, ha, hi⟩
    simp only at hj ha
    subst hj
    refine ⟨hi, ?_⟩
    simp only [xnd]
    by_cases hlt : i < es.length
    · rw [if_pos (by omega), ix_at hlt]
      simp only [Option.bind_some]
      refine .inl ?_
      rw [wr_suc (by omega), ap_of (by simp; omega) (by omega)]
      exact ⟨_, rfl, rfl, by simp; omega, by omega⟩
    · rw [if_neg (by omega)]
      exact .inr ⟨_, rfl, by omega⟩) big 0 (a, 0) ⟨rfl, by simp; omega, by omega⟩ (by rw [big_eq]; omega)
theorem xs3 {s : Stack} (hs : SB s) : ∃ r, xqe s = some r ∧ xse s = some r ∧ r.length ≤ 32 := by
  obtain ⟨a, h1, ha⟩ := x03 hs (xbp hs 3)
  obtain ⟨r, h2, hr⟩ := xb2 ha (xbp hs 2)
  refine ⟨r, ?_, ?_, hr⟩
  · unfold xqe
    refine xzb (xdt hs) (xzb (xzn hs 3) (xzb (a := a) ?_ (xzb (xzn hs 2) (xzb (a := r) ?_ rfl))))
    · rw [xs4 hs]; exact h1
    · exact h2
  · unfold xse
    exact xzb (x0m hs 3) (xzb h1 (xzb (x0m hs 2) (xzb h2 rfl)))
theorem xp9 {s : Stack} (hs : SB s) (ino : Int) {es : List Entry} (h : es.length ≤ 16) : ∃ r, iter (xoc s ino es) big 0 = some r ∧ True :=
  xyf (B := xoc s ino es) (R := fun _ => True) (fun i t => t = (i : Int) ∧ i ≤ es.length) es.length (by
    rintro i t ⟨rfl, hi⟩
    refine ⟨hi, ?_⟩
    simp only [xoc]
    by_cases hlt : i < es.length
    · rw [if_pos (by omega), ix_at hlt]
      simp only [Option.bind_some, xkj hs]
      rw [wr_suc (by omega)]
      by_cases hk : es[i].ino = ino
      · rw [if_pos hk]
        by_cases hb : (!badP2 s es[i]) = true
        · rw [if_pos hb]
          exact .inr ⟨_, rfl, trivial⟩
        · rw [if_neg hb]
          exact .inl ⟨_, rfl, rfl, by omega⟩
      · rw [if_neg hk]
        exact .inl ⟨_, rfl, rfl, by omega⟩
    · rw [if_neg (by omega)]
      exact .inr ⟨_, rfl, trivial⟩) big 0 0 ⟨rfl, by omega⟩ (by rw [big_eq]; omega)
theorem xp6 {s : Stack} (hs : SB s) (ino : Int) : ∃ r, x9c s ino = some r ∧ x5c s ino = some r := by
  obtain ⟨a, h1, _⟩ := xp9 hs ino (xbp hs 3)
  refine ⟨match a with | .inl _ => false | .inr r => r, ?_, ?_⟩
  · unfold x9c
    refine xzb (xdt hs) (xzb (xzn hs 3) (xzb (a := a) ?_ ?_))
    · rw [xhab hs]; exact h1
    · cases a <;> rfl
  · unfold x5c
    refine xzb (x0m hs 3) (xzb h1 ?_)
    cases a <;> rfl
theorem xgx {l : List Finding} (h : l.length ≤ 1000) : xsb l l = some true := by
  unfold xsb
  rw [if_pos rfl]
  obtain ⟨r, h1, h2⟩ := xyf (B := xxb l l) (R := fun r => ∃ u, r = .inl u) (fun i t => t = (i : Int) ∧ i ≤ l.length) l.length (by
    rintro i t ⟨rfl, hi⟩
    refine ⟨hi, ?_⟩
    simp only [xxb]
    by_cases hlt : i < l.length
    · rw [if_pos (by omega), ix_at hlt]
      simp only [Option.bind_some]
      rw [if_pos (by simp), wr_suc (by omega)]
      exact .inl ⟨_, rfl, rfl, by omega⟩
    · rw [if_neg (by omega)]
      exact .inr ⟨_, rfl, _, rfl⟩) big 0 0 ⟨rfl, by omega⟩ (by rw [big_eq]; omega)
  obtain ⟨u, rfl⟩ := h2
  rw [h1]
  rfl
theorem x07 (s : Stack) (e : Entry) (ino : Int) : x2e s e ino = some true := by
  unfold x2e
  have hw : xrc = some true := rfl
  obtain ⟨r, hr, hb⟩ := xrz s 24 (by omega)
  refine xzb hr ?_
  cases r with
  | false => exact xzb hw rfl
  | true =>
    obtain ⟨hs, hd⟩ := hb rfl
    rw [if_neg (by simp)]
    by_cases hn : 40 < (e.name.size : Int)
    · rw [if_pos hn]; exact xzb hw rfl
    · rw [if_neg hn]
      obtain ⟨f, f1, f2, f3⟩ := xs3 hs
      refine xzb f1 (xzb f2 (xzb (xgx (by omega)) ?_))
      rw [if_pos rfl]
      have hbad : xxh s e = some (badP2 s e) := by
        unfold xxh
        exact xzb (xdt hs) (xzb (bad_eq hs e) rfl)
      refine xzb hbad (xzb (xkj hs e) ?_)
      obtain ⟨x, x1, x2⟩ := xp6 hs ino
      have tail : ((x9c s ino).bind fun v27 => (x5c s ino).bind fun v29 => if v27 = true then if v29 = true then (xrc ).bind fun v35 => some v35
 else some false
 else if v29 = true then some false
 else (xrc ).bind fun v39 => some v39) = some true := by
        refine xzb x1 (xzb x2 ?_)
        cases x with
        | true => rw [if_pos rfl, if_pos rfl]; exact xzb hw rfl
        | false => rw [if_neg (by simp), if_neg (by simp)]; exact xzb hw rfl
      cases badP2 s e with
      | true => rw [if_pos rfl, if_pos rfl]; exact tail
      | false => rw [if_neg (by simp), if_neg (by simp)]; exact tail
end Go.Proofs.YtefdlpandfhcgaaGreatDoor.AL

/- What of the index may not be, and what is in it, is what the document says. -/
namespace Go.Proofs.YtefdlpandfhcgaaGreatDoor
theorem indexTells_holds : Rows.IndexTellsCardSaid := xyn (xsn fun s e i _ _ _ => AL.xj1 s e i true (AL.x07 s e i))
#print axioms indexTells_holds
end Go.Proofs.YtefdlpandfhcgaaGreatDoor

