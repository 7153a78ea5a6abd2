/- A law of the given program is proved: part 44 of 50. -/
import Derived.Test.YtefdlpandfhcgaaDoorA43
set_option linter.all false
/- Models of functions, and that the functions are as their models: written by gen.py. -/
set_option linter.all false
set_option maxRecDepth 100000
namespace Go.Proofs.YtefdlpandfhcgaaDoor.AL
open Go Go.Proofs
end Go.Proofs.YtefdlpandfhcgaaDoor.AL

/- Plain laws, part 1: loops; the walk. -/
set_option linter.all false
namespace Go.Proofs.YtefdlpandfhcgaaDoor.AL
open Go Go.Proofs
def seenB (ways : List Way) (ino : Int) : Bool := ways.any fun w => decide (w.ino = ino)
abbrev WS := List Way × List Ar2_Int
structure WI (b : Branch) (ways : List Way) : Prop where
  nd : (ways.map (·.ino)).Nodup
  dir : ∀ w ∈ ways, (nodeP b w.ino).kind = 1
theorem x3k : ∀ (n : Nat) (l : List Nat), l.Nodup → (∀ x ∈ l, x < n) → l.length ≤ n
  | 0, l, _, h => by
    cases l with
    | nil => simp
    | cons x l => have := h x (by simp); omega
  | n + 1, l, hd, h => by
    have h1 := x3k n (l.erase n) (hd.erase n) (fun x hx => by
      have := (List.Nodup.mem_erase_iff hd).1 hx
      have := h x this.2
      omega)
    have := List.length_erase (a := n) (l := l)
    split at this <;> omega
theorem WI.len {b : Branch} {ways : List Way} (h : WI b ways) : ways.length ≤ b.nodes.length := by
  have h1 : (ways.map fun w => (w.ino - 1).toNat).Nodup := by
    refine List.pairwise_map.2 (List.Pairwise.imp_of_mem ?_ (List.pairwise_map.1 h.nd))
    intro x y hx hy hne e
    have := xkj (h.dir x hx)
    have := xkj (h.dir y hy)
    omega
  have := x3k b.nodes.length _ h1 (fun x hx => by
    obtain ⟨w, hw, rfl⟩ := List.mem_map.1 hx
    have := xkj (h.dir w hw)
    omega)
  simpa using this
theorem x3v {ways : List Way} {ino : Int} : seenB ways ino = true ↔ ∃ w ∈ ways, w.ino = ino := by simp [seenB]
theorem WI.push {b : Branch} {ways : List Way} (h : WI b ways) {w : Way} (hk : (nodeP b w.ino).kind = 1) (hs : seenB ways w.ino = false) : WI b (ways ++ [w]) := by
  refine ⟨?_, ?_⟩
  · rw [List.map_append, List.map_cons, List.map_nil]
    refine List.nodup_append.2 ⟨h.nd, by simp, ?_⟩
    intro x hx y hy e
    simp only [List.mem_singleton] at hy
    subst hy; subst e
    obtain ⟨w', hw', e⟩ := List.mem_map.1 hx
    have : seenB ways w.ino = true := x3v.2 ⟨w', hw', e⟩
    rw [hs] at this; cases this
  · intro x hx
    rcases List.mem_append.1 hx with hx | hx
    · exact h.dir x hx
    · simp only [List.mem_singleton] at hx; subst hx; exact hk
structure LI (b : Branch) (k : Nat) (s : WS) : Prop where
  wi : WI b s.1
  at' : k ≤ s.1.length
  tw : s.2.length ≤ 16 * k
structure FI (b : Branch) (t : Nat × WS) : Prop where
  li : LI b t.1 t.2
  all : t.1 = t.2.1.length
theorem LI.push {b : Branch} {k : Nat} {s : WS} (h : LI b k s) {w : Way} (hk : (nodeP b w.ino).kind = 1) (hs : seenB s.1 w.ino = false) : LI b k (s.1 ++ [w], s.2) :=
  ⟨h.wi.push hk hs, by have := h.at'; simp; omega, h.tw⟩
theorem FI.nil (b : Branch) : FI b (0, [], []) := ⟨⟨⟨by simp, by simp⟩, by simp, by simp⟩, rfl⟩
end Go.Proofs.YtefdlpandfhcgaaDoor.AL

/- Plain laws, part 2: the program's walk; what is common. -/
set_option linter.all false
namespace Go.Proofs.YtefdlpandfhcgaaDoor.AL
open Go Go.Proofs
theorem x2v (m : List (Int × Int)) (k v k' : Int) : mget (mset m k v) k' = if k' = k then v else mget m k' := by
  induction m with
  | nil =>
    unfold mget mset
    by_cases h : k' = k
    · subst h; simp
    · have : (k' == k) = false := by simpa using h
      simp [this, h]
  | cons p m ih =>
    unfold mset
    by_cases h : k = p.1
    · rw [if_pos h]
      unfold mget
      by_cases h' : k' = k
      · subst h'; simp [h]
      · have : (k' == p.1) = false := by simp; omega
        simp [this, h']
    · rw [if_neg h]
      unfold mget at ih ⊢
      by_cases h' : k' = p.1
      · have h2 : ¬ k' = k := by omega
        have : (k' == p.1) = true := by simpa using h'
        simp [this, h2]
      · have : (k' == p.1) = false := by simpa using h'
        simpa [List.find?_cons, this] using ih
abbrev MS := WS × List (Int × Int)
def SM (t : MS) : Prop := ∀ ino, mget t.2 ino = if seenB t.1.1 ino = true then 1 else 0
theorem xus (ways : List Way) (w : Way) (ino : Int) : seenB (ways ++ [w]) ino = (seenB ways ino || decide (w.ino = ino)) := by simp [seenB]
theorem xpw {b : Branch} {ino : Int} (h1 : ¬ ino < 1) (h2 : ¬ (b.nodes.length : Int) < ino) (hn : b.nodes.length ≤ 24) : ix b.nodes (wr (ino - 1)) = some (nodeP b ino) := by
  rw [wr_in (by omega) (by omega), ix_of (by omega) (by omega)]
  unfold nodeP
  rw [if_neg h1, if_neg h2]
  have hlt : (ino - 1).toNat < b.nodes.length := by omega
  simp only [List.getElem?_eq_getElem hlt, Option.getD_some]
theorem xro {b : Branch} {ino : Int} (h : ino < 1 ∨ (b.nodes.length : Int) < ino) : nodeP b ino = xob := by
  unfold nodeP
  rcases h with h | h
  · rw [if_pos h]
  · rw [if_pos h]; split <;> rfl
theorem SM.push {t : MS} (h : SM t) (r : Int) (hs : seenB t.1.1 r = false) : SM ((t.1.1 ++ [⟨r, -1, xp⟩], t.1.2), mset t.2 r 1) := by
  intro i
  rw [x2v, xus, h i]
  by_cases hi : i = r
  · subst hi; simp
  · have : ¬ r = i := fun h => hi h.symm
    simp [hi, this]
end Go.Proofs.YtefdlpandfhcgaaDoor.AL

/- Models of functions, and that the functions are as their models: written by gen.py. -/
set_option linter.all false
set_option maxRecDepth 100000
namespace Go.Proofs.YtefdlpandfhcgaaDoor.AL
open Go Go.Proofs
def x5e (a0 : List UInt8) (a1 : List UInt8) : Int → Option (St (Int) ((Unit) ⊕ (Bool)))
 | v4 => if v4 < (a0.length : Int) then (ix a0 v4).bind fun v8 => (ix a1 v4).bind fun v11 => if (v8.toNat : Int) = (v11.toNat : Int) then some (.nx (wr (v4 + 1)))
 else some (.out (.inr false))
 else some (.out (.inl ()))
def x9e (a0 : List UInt8) (a1 : List UInt8) : Option (Bool) := if (a0.length : Int) = (a1.length : Int) then (iter (x5e a0 a1) big 0).bind fun o => (match o with
 | (.inl _) => some true
 | (.inr r) => some r)
 else some false
def xzc := aI (aI (@EV) (@R3)) (aI (@R5) (aI (@R39) (@mixed)))
set_option maxHeartbeats 2000000 in
theorem xep (a0 : List UInt8) (a1 : List UInt8) (r : Bool) (hm0 : x9e a0 a1 = some r) : Ok Tryd.prog 32 [.sl 1 (a0.map u8), .sl 1 (a1.map u8)] (bool r) := by
 unfold x9e at hm0
 refine okG x5o ?_
 unfold xkk
 rcases iteE hm0 with ⟨e2, hm0⟩ | ⟨e2, hm0⟩
 · obtain ⟨o0, ho0, hm0⟩ := bsE hm0
   simp only [e2, xzc, ↓EVd, isCall, sevalprocAttr]
   refine cwp_cx 0 (fun s => (.inl ()) = o0) ?_ fun J0_0 hJ0_0 => ?_
   · rintro T0 H0 x5 rfl
     try dsimp only at hm0
     obtain rfl := Option.some.inj hm0
     simp only [e2, xzc, ↓EVd, isCall, sevalprocAttr]
     all_goals first | done | rfl
   refine cwp_lp ho0 (fun v4 s => s.T 0 = .sl 1 (a0.map u8) ∧ s.T 1 = .sl 1 (a1.map u8) ∧ s.T 5 = int v4) ?_ ?_
   · refine TI.here ⟨?_, ?_, ?_⟩
     all_goals try simp only [e2, xzc, ↓EVd, isCall, sevalprocAttr]
     all_goals first | omega | exact lq (by omega) | exact nq (by omega) | rfl | (congr 1; omega)
   rintro I0 v4 T0 H0 x3 st0 kk0 hm1 hI0 hO0
   dsimp only [Lq, Nq] at kk0
   simp only [x5e] at hm1
   rcases iteE hm1 with ⟨e7, hm1⟩ | ⟨e7, hm1⟩
   · obtain ⟨v8, e10, hm1⟩ := ixE u8 hm1
     obtain ⟨v11, e13, hm1⟩ := ixE u8 hm1
     rcases iteE hm1 with ⟨e15, hm1⟩ | ⟨e15, hm1⟩
     · obtain rfl := Option.some.inj hm1
       simp only [kk0, e2, e7, e10, e13, e15, xzc, ↓EVd, isCall, sevalprocAttr]
       refine TI.here (hI0 _ rfl _ ⟨?_, ?_, ?_⟩)
       all_goals try simp only [kk0, e2, e7, e10, e13, e15, xzc, ↓EVd, isCall, sevalprocAttr]
       all_goals first | omega | exact lq (by omega) | exact nq (by omega) | rfl | (congr 1; omega)
     obtain rfl := Option.some.inj hm1
     obtain rfl := hO0 _ rfl
     try dsimp only at hm0
     obtain rfl := Option.some.inj hm0
     simp only [kk0, e2, e7, e10, e13, e15, xzc, ↓EVd, isCall, sevalprocAttr]
     all_goals first | done | rfl
   obtain rfl := Option.some.inj hm1
   simp only [kk0, e2, e7, xzc, ↓EVd, isCall, sevalprocAttr]
   refine TI.here (hJ0_0 _ (hO0 _ rfl))
 obtain rfl := Option.some.inj hm0
 simp only [e2, xzc, ↓EVd, isCall, sevalprocAttr]
 all_goals first | done | rfl
def x4e (a0 : List Entry) (a1 : List Entry) : Int → Option (St (Int) ((Unit) ⊕ (Bool)))
 | v4 => if v4 < (a0.length : Int) then (ix a0 v4).bind fun v8 => (ix a1 v4).bind fun v11 => if (decide (v8 = v11)) = true then some (.nx (wr (v4 + 1)))
 else some (.out (.inr false))
 else some (.out (.inl ()))
def xlf (a0 : List Entry) (a1 : List Entry) : Option (Bool) := if (a0.length : Int) = (a1.length : Int) then (iter (x4e a0 a1) big 0).bind fun o => (match o with
 | (.inl _) => some true
 | (.inr r) => some r)
 else some false
def x2c := aI (aI (@EV) (aI (@R3) (@R40))) (aI (aI (@R51) (@DEntry)) (aI (@eq51) (@mixed)))
set_option maxHeartbeats 2000000 in
theorem x9o (a0 : List Entry) (a1 : List Entry) (r : Bool) (hm0 : xlf a0 a1 = some r) : Ok Tryd.prog 33 [.sl 3 (a0.map xt), .sl 3 (a1.map xt)] (bool r) := by
 unfold xlf at hm0
 refine okG xap ?_
 unfold xmk
 rcases iteE hm0 with ⟨e2, hm0⟩ | ⟨e2, hm0⟩
 · obtain ⟨o0, ho0, hm0⟩ := bsE hm0
   simp only [e2, x2c, ↓EVd, isCall, sevalprocAttr]
   refine cwp_cx 0 (fun s => (.inl ()) = o0) ?_ fun J0_0 hJ0_0 => ?_
   · rintro T0 H0 x5 rfl
     try dsimp only at hm0
     obtain rfl := Option.some.inj hm0
     simp only [e2, x2c, ↓EVd, isCall, sevalprocAttr]
     all_goals first | done | rfl
   refine cwp_lp ho0 (fun v4 s => s.T 0 = .sl 3 (a0.map xt) ∧ s.T 1 = .sl 3 (a1.map xt) ∧ s.T 5 = int v4) ?_ ?_
   · refine TI.here ⟨?_, ?_, ?_⟩
     all_goals try simp only [e2, x2c, ↓EVd, isCall, sevalprocAttr]
     all_goals first | omega | exact lq (by omega) | exact nq (by omega) | rfl | (congr 1; omega)
   rintro I0 v4 T0 H0 x3 st0 kk0 hm1 hI0 hO0
   dsimp only [Lq, Nq] at kk0
   simp only [x4e] at hm1
   rcases iteE hm1 with ⟨e7, hm1⟩ | ⟨e7, hm1⟩
   · obtain ⟨v8, e10, hm1⟩ := ixE xt hm1
     obtain ⟨v11, e13, hm1⟩ := ixE xt hm1
     rcases itbE hm1 with ⟨e15, hm1⟩ | ⟨e15, hm1⟩
     · obtain rfl := Option.some.inj hm1
       simp only [kk0, e2, e7, e10, e13, e15, x2c, ↓EVd, isCall, sevalprocAttr]
       refine TI.here (hI0 _ rfl _ ⟨?_, ?_, ?_⟩)
       all_goals try simp only [kk0, e2, e7, e10, e13, e15, x2c, ↓EVd, isCall, sevalprocAttr]
       all_goals first | omega | exact lq (by omega) | exact nq (by omega) | rfl | (congr 1; omega)
     obtain rfl := Option.some.inj hm1
     obtain rfl := hO0 _ rfl
     try dsimp only at hm0
     obtain rfl := Option.some.inj hm0
     simp only [kk0, e2, e7, e10, e13, e15, x2c, ↓EVd, isCall, sevalprocAttr]
     all_goals first | done | rfl
   obtain rfl := Option.some.inj hm1
   simp only [kk0, e2, e7, x2c, ↓EVd, isCall, sevalprocAttr]
   refine TI.here (hJ0_0 _ (hO0 _ rfl))
 obtain rfl := Option.some.inj hm0
 simp only [e2, x2c, ↓EVd, isCall, sevalprocAttr]
 all_goals first | done | rfl
def xkd (a0 : Node) (a1 : Node) : Option (Bool) := if a0.kind = a1.kind then if a0.impure = a1.impure then if a0.nlink = a1.nlink then if a0.gen = a1.gen then if (decide (a0.attr = a1.attr)) = true then (x9e a0.data a1.data).bind fun v11 => if v11 = true then (xlf a0.entries a1.entries).bind fun v15 => some v15
 else some false
 else some false
 else some false
 else some false
 else some false
 else some false
def xub := aI (aI (aI (@EV) (aI (@R3) (@R5))) (aI (@R39) (aI (@R40) (@R42)))) (aI (aI (@R44) (aI (@R51) (@DOrigin))) (aI (@DNode) (aI (@DEntry) (@eq42))))
set_option maxHeartbeats 2000000 in
theorem xol (a0 : Node) (a1 : Node) (r : Bool) (hm0 : xkd a0 a1 = some r) : Ok Tryd.prog 14 [xv a0, xv a1] (bool r) := by
 unfold xkd at hm0
 refine okG xnl ?_
 unfold xqh
 rcases iteE hm0 with ⟨e2, hm0⟩ | ⟨e2, hm0⟩
 · rcases iteE hm0 with ⟨e4, hm0⟩ | ⟨e4, hm0⟩
   · rcases iteE hm0 with ⟨e6, hm0⟩ | ⟨e6, hm0⟩
     · rcases iteE hm0 with ⟨e8, hm0⟩ | ⟨e8, hm0⟩
       · rcases itbE hm0 with ⟨e10, hm0⟩ | ⟨e10, hm0⟩
         · obtain ⟨v11, h12, hm0⟩ := bsE hm0
           simp only [e2, e4, e6, e8, e10, xub, ↓EVd, isCall, sevalprocAttr]
           refine qc (xep _ _ _ h12) rfl ?_
           rcases itbE hm0 with ⟨e14, hm0⟩ | ⟨e14, hm0⟩
           · obtain ⟨v15, h16, hm0⟩ := bsE hm0
             simp only [e2, e4, e6, e8, e10, e14, xub, ↓EVd, isCall, sevalprocAttr]
             refine qc (x9o _ _ _ h16) rfl ?_
             obtain rfl := Option.some.inj hm0
             simp only [e2, e4, e6, e8, e10, e14, xub, ↓EVd, isCall, sevalprocAttr]
             all_goals first | done | rfl
           obtain rfl := Option.some.inj hm0
           simp only [e2, e4, e6, e8, e10, e14, xub, ↓EVd, isCall, sevalprocAttr]
           all_goals first | done | rfl
         obtain rfl := Option.some.inj hm0
         simp only [e2, e4, e6, e8, e10, xub, ↓EVd, isCall, sevalprocAttr]
         all_goals first | done | rfl
       obtain rfl := Option.some.inj hm0
       simp only [e2, e4, e6, e8, xub, ↓EVd, isCall, sevalprocAttr]
       all_goals first | done | rfl
     obtain rfl := Option.some.inj hm0
     simp only [e2, e4, e6, xub, ↓EVd, isCall, sevalprocAttr]
     all_goals first | done | rfl
   obtain rfl := Option.some.inj hm0
   simp only [e2, e4, xub, ↓EVd, isCall, sevalprocAttr]
   all_goals first | done | rfl
 obtain rfl := Option.some.inj hm0
 simp only [e2, xub, ↓EVd, isCall, sevalprocAttr]
 all_goals first | done | rfl
end Go.Proofs.YtefdlpandfhcgaaDoor.AL

/- Models of functions, and that the functions are as their models: written by gen.py. -/
set_option linter.all false
set_option maxRecDepth 100000
namespace Go.Proofs.YtefdlpandfhcgaaDoor.AL
open Go Go.Proofs
def xqd (a0 : Stack) (a1 : Origin) : Option (Node × Bool) := if a1.layer < 1 then some ((⟨0, 0, 0, 0, [], [], (⟨0, 0, xp, (⟨0, 0, 0⟩ : Origin), 0⟩ : Attr)⟩ : Node), false)
 else if (a0.lowers.length : Int) < a1.layer then some ((⟨0, 0, 0, 0, [], [], (⟨0, 0, xp, (⟨0, 0, 0⟩ : Origin), 0⟩ : Attr)⟩ : Node), false)
 else (ix a0.lowers (wr (a1.layer - 1))).bind fun v5 => if a1.ino < 1 then some ((⟨0, 0, 0, 0, [], [], (⟨0, 0, xp, (⟨0, 0, 0⟩ : Origin), 0⟩ : Attr)⟩ : Node), false)
 else if (v5.nodes.length : Int) < a1.ino then some ((⟨0, 0, 0, 0, [], [], (⟨0, 0, xp, (⟨0, 0, 0⟩ : Origin), 0⟩ : Attr)⟩ : Node), false)
 else (ix v5.nodes (wr (a1.ino - 1))).bind fun v12 => if v12.kind = 1 then if v12.gen = a1.gen then some (v12, true)
 else some ((⟨0, 0, 0, 0, [], [], (⟨0, 0, xp, (⟨0, 0, 0⟩ : Origin), 0⟩ : Attr)⟩ : Node), false)
 else if v12.kind = 2 then if v12.gen = a1.gen then some (v12, true)
 else some ((⟨0, 0, 0, 0, [], [], (⟨0, 0, xp, (⟨0, 0, 0⟩ : Origin), 0⟩ : Attr)⟩ : Node), false)
 else if v12.kind = 3 then if v12.gen = a1.gen then some (v12, true)
 else some ((⟨0, 0, 0, 0, [], [], (⟨0, 0, xp, (⟨0, 0, 0⟩ : Origin), 0⟩ : Attr)⟩ : Node), false)
 else some ((⟨0, 0, 0, 0, [], [], (⟨0, 0, xp, (⟨0, 0, 0⟩ : Origin), 0⟩ : Attr)⟩ : Node), false)
def xxb := aI (aI (aI (@EV) (aI (@R3) (@R23))) (aI (@R32) (aI (@R34) (@R35)))) (aI (aI (@R37) (aI (@R44) (@DOrigin))) (aI (aI (@DBranch) (@DStack)) (aI (@DNode) (@DEntry))))
set_option maxHeartbeats 2000000 in
theorem xni (a0 : Stack) (a1 : Origin) (r : Node × Bool) (hm0 : xqd a0 a1 = some r) : Ok Tryd.prog 12 [xtb a0, xd a1] (.tup [xv r.1, bool r.2]) := by
 unfold xqd at hm0
 refine okG xxn ?_
 unfold xzj
 rcases iteE hm0 with ⟨e2, hm0⟩ | ⟨e2, hm0⟩
 · obtain rfl := Option.some.inj hm0
   simp only [e2, xxb, ↓EVd, isCall, sevalprocAttr]
   all_goals first | done | rfl | exact xc (by simp only [CLO]) | exact xk (by simp only [CLO]) (Sub.tup (Subs.cons (Sub.agg (Subs.cons (Sub.refl _) (Subs.cons (Sub.refl _) (Subs.cons (Sub.refl _) (Subs.cons (Sub.refl _) (Subs.cons (Sub.nilS _) (Subs.cons (Sub.nilS _) (Subs.cons (Sub.refl _) (Subs.cons (Sub.refl _) (Subs.cons (Sub.refl _) (Subs.cons (Sub.refl _) (Subs.cons (Sub.refl _) (Subs.cons (Sub.refl _) (Subs.cons (Sub.refl _) (Subs.nil))))))))))))))) (Subs.cons (Sub.refl _) (Subs.nil))))
 rcases iteE hm0 with ⟨e4, hm0⟩ | ⟨e4, hm0⟩
 · obtain rfl := Option.some.inj hm0
   simp only [e2, e4, xxb, ↓EVd, isCall, sevalprocAttr]
   all_goals first | done | rfl | exact xc (by simp only [CLO]) | exact xk (by simp only [CLO]) (Sub.tup (Subs.cons (Sub.agg (Subs.cons (Sub.refl _) (Subs.cons (Sub.refl _) (Subs.cons (Sub.refl _) (Subs.cons (Sub.refl _) (Subs.cons (Sub.nilS _) (Subs.cons (Sub.nilS _) (Subs.cons (Sub.refl _) (Subs.cons (Sub.refl _) (Subs.cons (Sub.refl _) (Subs.cons (Sub.refl _) (Subs.cons (Sub.refl _) (Subs.cons (Sub.refl _) (Subs.cons (Sub.refl _) (Subs.nil))))))))))))))) (Subs.cons (Sub.refl _) (Subs.nil))))
 obtain ⟨v5, e7, hm0⟩ := ixE xgb hm0
 rcases iteE hm0 with ⟨e9, hm0⟩ | ⟨e9, hm0⟩
 · obtain rfl := Option.some.inj hm0
   simp only [e2, e4, e7, e9, xxb, ↓EVd, isCall, sevalprocAttr]
   all_goals first | done | rfl | exact xc (by simp only [CLO]) | exact xk (by simp only [CLO]) (Sub.tup (Subs.cons (Sub.agg (Subs.cons (Sub.refl _) (Subs.cons (Sub.refl _) (Subs.cons (Sub.refl _) (Subs.cons (Sub.refl _) (Subs.cons (Sub.nilS _) (Subs.cons (Sub.nilS _) (Subs.cons (Sub.refl _) (Subs.cons (Sub.refl _) (Subs.cons (Sub.refl _) (Subs.cons (Sub.refl _) (Subs.cons (Sub.refl _) (Subs.cons (Sub.refl _) (Subs.cons (Sub.refl _) (Subs.nil))))))))))))))) (Subs.cons (Sub.refl _) (Subs.nil))))
 rcases iteE hm0 with ⟨e11, hm0⟩ | ⟨e11, hm0⟩
 · obtain rfl := Option.some.inj hm0
   simp only [e2, e4, e7, e9, e11, xxb, ↓EVd, isCall, sevalprocAttr]
   all_goals first | done | rfl | exact xc (by simp only [CLO]) | exact xk (by simp only [CLO]) (Sub.tup (Subs.cons (Sub.agg (Subs.cons (Sub.refl _) (Subs.cons (Sub.refl _) (Subs.cons (Sub.refl _) (Subs.cons (Sub.refl _) (Subs.cons (Sub.nilS _) (Subs.cons (Sub.nilS _) (Subs.cons (Sub.refl _) (Subs.cons (Sub.refl _) (Subs.cons (Sub.refl _) (Subs.cons (Sub.refl _) (Subs.cons (Sub.refl _) (Subs.cons (Sub.refl _) (Subs.cons (Sub.refl _) (Subs.nil))))))))))))))) (Subs.cons (Sub.refl _) (Subs.nil))))
 obtain ⟨v12, e14, hm0⟩ := ixE xv hm0
 rcases iteE hm0 with ⟨e16, hm0⟩ | ⟨e16, hm0⟩
 · rcases iteE hm0 with ⟨e18, hm0⟩ | ⟨e18, hm0⟩
   · obtain rfl := Option.some.inj hm0
     simp only [e2, e4, e7, e9, e11, e14, e16, e18, xxb, ↓EVd, isCall, sevalprocAttr]
     all_goals first | done | rfl | exact xc (by simp only [CLO]) | exact xk (by simp only [CLO]) (Sub.tup (Subs.cons (Sub.refl _) (Subs.cons (Sub.refl _) (Subs.nil))))
   obtain rfl := Option.some.inj hm0
   simp only [e2, e4, e7, e9, e11, e14, e16, e18, xxb, ↓EVd, isCall, sevalprocAttr]
   all_goals first | done | rfl | exact xc (by simp only [CLO]) | exact xk (by simp only [CLO]) (Sub.tup (Subs.cons (Sub.agg (Subs.cons (Sub.refl _) (Subs.cons (Sub.refl _) (Subs.cons (Sub.refl _) (Subs.cons (Sub.refl _) (Subs.cons (Sub.nilS _) (Subs.cons (Sub.nilS _) (Subs.cons (Sub.refl _) (Subs.cons (Sub.refl _) (Subs.cons (Sub.refl _) (Subs.cons (Sub.refl _) (Subs.cons (Sub.refl _) (Subs.cons (Sub.refl _) (Subs.cons (Sub.refl _) (Subs.nil))))))))))))))) (Subs.cons (Sub.refl _) (Subs.nil))))
 rcases iteE hm0 with ⟨e20, hm0⟩ | ⟨e20, hm0⟩
 · have g27 := And.intro (And.intro (And.intro ((e2)) ((e4))) (And.intro ((e7)) ((e9)))) (And.intro (And.intro ((e11)) ((e14))) (And.intro ((e16)) ((e20))))
   rcases iteE hm0 with ⟨e22, hm0⟩ | ⟨e22, hm0⟩
   · obtain rfl := Option.some.inj hm0
     simp only [g27, e22, xxb, ↓EVd, isCall, sevalprocAttr]
     all_goals first | done | rfl | exact xc (by simp only [CLO]) | exact xk (by simp only [CLO]) (Sub.tup (Subs.cons (Sub.refl _) (Subs.cons (Sub.refl _) (Subs.nil))))
   obtain rfl := Option.some.inj hm0
   simp only [g27, e22, xxb, ↓EVd, isCall, sevalprocAttr]
   all_goals first | done | rfl | exact xc (by simp only [CLO]) | exact xk (by simp only [CLO]) (Sub.tup (Subs.cons (Sub.agg (Subs.cons (Sub.refl _) (Subs.cons (Sub.refl _) (Subs.cons (Sub.refl _) (Subs.cons (Sub.refl _) (Subs.cons (Sub.nilS _) (Subs.cons (Sub.nilS _) (Subs.cons (Sub.refl _) (Subs.cons (Sub.refl _) (Subs.cons (Sub.refl _) (Subs.cons (Sub.refl _) (Subs.cons (Sub.refl _) (Subs.cons (Sub.refl _) (Subs.cons (Sub.refl _) (Subs.nil))))))))))))))) (Subs.cons (Sub.refl _) (Subs.nil))))
 have g28 := And.intro (And.intro (And.intro ((e2)) ((e4))) (And.intro ((e7)) ((e9)))) (And.intro (And.intro ((e11)) ((e14))) (And.intro ((e16)) ((e20))))
 rcases iteE hm0 with ⟨e24, hm0⟩ | ⟨e24, hm0⟩
 · rcases iteE hm0 with ⟨e26, hm0⟩ | ⟨e26, hm0⟩
   · obtain rfl := Option.some.inj hm0
     simp only [g28, e24, e26, xxb, ↓EVd, isCall, sevalprocAttr]
     all_goals first | done | rfl | exact xc (by simp only [CLO]) | exact xk (by simp only [CLO]) (Sub.tup (Subs.cons (Sub.refl _) (Subs.cons (Sub.refl _) (Subs.nil))))
   obtain rfl := Option.some.inj hm0
   simp only [g28, e24, e26, xxb, ↓EVd, isCall, sevalprocAttr]
   all_goals first | done | rfl | exact xc (by simp only [CLO]) | exact xk (by simp only [CLO]) (Sub.tup (Subs.cons (Sub.agg (Subs.cons (Sub.refl _) (Subs.cons (Sub.refl _) (Subs.cons (Sub.refl _) (Subs.cons (Sub.refl _) (Subs.cons (Sub.nilS _) (Subs.cons (Sub.nilS _) (Subs.cons (Sub.refl _) (Subs.cons (Sub.refl _) (Subs.cons (Sub.refl _) (Subs.cons (Sub.refl _) (Subs.cons (Sub.refl _) (Subs.cons (Sub.refl _) (Subs.cons (Sub.refl _) (Subs.nil))))))))))))))) (Subs.cons (Sub.refl _) (Subs.nil))))
 obtain rfl := Option.some.inj hm0
 simp only [g28, e24, xxb, ↓EVd, isCall, sevalprocAttr]
 all_goals first | done | rfl | exact xc (by simp only [CLO]) | exact xk (by simp only [CLO]) (Sub.tup (Subs.cons (Sub.agg (Subs.cons (Sub.refl _) (Subs.cons (Sub.refl _) (Subs.cons (Sub.refl _) (Subs.cons (Sub.refl _) (Subs.cons (Sub.nilS _) (Subs.cons (Sub.nilS _) (Subs.cons (Sub.refl _) (Subs.cons (Sub.refl _) (Subs.cons (Sub.refl _) (Subs.cons (Sub.refl _) (Subs.cons (Sub.refl _) (Subs.cons (Sub.refl _) (Subs.cons (Sub.refl _) (Subs.nil))))))))))))))) (Subs.cons (Sub.refl _) (Subs.nil))))
def xad (a0 : Origin) (a1 : Origin) : Option (Bool) := if (decide (a0 = a1)) = true then some true
 else some false
def xtj := aI (aI (@EV) (@R23)) (aI (@DOrigin) (@eq23))
set_option maxHeartbeats 2000000 in
theorem xqg (a0 : Origin) (a1 : Origin) (r : Bool) (hm0 : xad a0 a1 = some r) : Ok Tryd.prog 15 [xd a0, xd a1] (bool r) := by
 unfold xad at hm0
 refine okG x5n ?_
 unfold xuj
 rcases itbE hm0 with ⟨e2, hm0⟩ | ⟨e2, hm0⟩
 · obtain rfl := Option.some.inj hm0
   simp only [e2, xtj, ↓EVd, isCall, sevalprocAttr]
   all_goals first | done | rfl
 obtain rfl := Option.some.inj hm0
 simp only [e2, xtj, ↓EVd, isCall, sevalprocAttr]
 all_goals first | done | rfl
end Go.Proofs.YtefdlpandfhcgaaDoor.AL

