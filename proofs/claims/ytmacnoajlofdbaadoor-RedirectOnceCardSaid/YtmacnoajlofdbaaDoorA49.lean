/- A law of the given program is proved: part 49 of 49. -/
import Derived.Test.YtmacnoajlofdbaaDoorA48
set_option linter.all false
/- Models of functions, and that the functions are as their models: written by gen.py. -/
set_option linter.all false
set_option maxRecDepth 100000
namespace Go.Proofs.YtmacnoajlofdbaaDoor.AL
open Go Go.Proofs
def xxb (a0 : ByteArray) (a1 : Int) : Option (Bool) := (xnj a0).bind fun v1 => (x7b v1).bind fun v3 => (xvb v3 ([(⟨a1, 0, 4, (-1)⟩ : Finding)] : List Finding)).bind fun v6 => some v6
def xvf := aI (aI (aI (@EV) (aI (@R9) (@R29))) (aI (@R35) (aI (@R38) (@DBranch)))) (aI (aI (@DStack) (aI (@DFinding) (@DOrigin))) (aI (@DAttr) (aI (@DNode) (@DEntry))))
set_option maxHeartbeats 2000000 in
theorem xcf (a0 : ByteArray) (a1 : Int) (r : Bool) (hm0 : xxb a0 a1 = some r) : Ok Tryd.prog 16 [str a0, int a1] (bool r) := by
 unfold xxb at hm0
 refine okG xzt ?_
 unfold xnm
 obtain ⟨v1, h2, hm0⟩ := bsE hm0
 simp only [xvf, ↓EVd, isCall, sevalprocAttr]
 refine qc (xxy _ _ h2) rfl ?_
 obtain ⟨v3, h4, hm0⟩ := bsE hm0
 simp only [xvf, ↓EVd, isCall, sevalprocAttr]
 refine qc (xze _ _ h4) rfl ?_
 have e5 : (.agg [int a1, int 0, int 4, int (-1)] : AV) = xq (⟨a1, 0, 4, (-1)⟩ : Finding) := _root_.id rfl
 obtain ⟨v6, h7, hm0⟩ := bsE hm0
 simp only [e5, xvf, ↓EVd, isCall, sevalprocAttr]
 refine qcb (x7g _ _ _ h7) rfl (by simp only [e5, FZ, CLO, xvf, ↓EVd, isCall, sevalprocAttr]) ?_
 obtain rfl := Option.some.inj hm0
 simp only [e5, xvf, ↓EVd, isCall, sevalprocAttr]
 all_goals first | done | rfl
def xlf  : Option (Bool) := (xxb (ByteArray.mk #[47, 100]) 10).bind fun v1 => if v1 = true then (xxb (ByteArray.mk #[47]) 10).bind fun v5 => if v5 = true then (xxb (ByteArray.mk #[47, 120]) 11).bind fun v9 => if v9 = true then (xxb (ByteArray.mk #[97]) 11).bind fun v13 => if v13 = true then (xxb (ByteArray.mk #[97, 47]) 9).bind fun v17 => if v17 = true then (xkd ([(ByteArray.mk #[100])] : List ByteArray) (ByteArray.mk #[100])).bind fun v21 => if v21 = true then (xyl ).bind fun v25 => (x4f v25).bind fun v27 => (x2b v27 ([(⟨1, 1⟩ : Place)] : List Place)).bind fun v30 => some v30
 else some false
 else some false
 else some false
 else some false
 else some false
 else some false
def xqb := aI (aI (aI (@EV) (aI (@R3) (@R9))) (aI (aI (@R29) (@R61)) (aI (@R63) (@R65)))) (aI (aI (@DBranch) (aI (@DStack) (@DOrigin))) (aI (aI (@DAttr) (@DNode)) (aI (@DPlace) (@DEntry))))
set_option maxHeartbeats 2000000 in
theorem x7m  (r : Bool) (hm0 : xlf  = some r) : Ok Tryd.prog 5 [] (bool r) := by
 unfold xlf at hm0
 refine okG xmw ?_
 unfold xzo
 obtain ⟨v1, h2, hm0⟩ := bsE hm0
 simp only [xqb, ↓EVd, isCall, sevalprocAttr]
 refine qc (xcf _ _ _ h2) rfl ?_
 rcases itbE hm0 with ⟨e4, hm0⟩ | ⟨e4, hm0⟩
 · obtain ⟨v5, h6, hm0⟩ := bsE hm0
   simp only [e4, xqb, ↓EVd, isCall, sevalprocAttr]
   refine qc (xcf _ _ _ h6) rfl ?_
   rcases itbE hm0 with ⟨e8, hm0⟩ | ⟨e8, hm0⟩
   · obtain ⟨v9, h10, hm0⟩ := bsE hm0
     simp only [e4, e8, xqb, ↓EVd, isCall, sevalprocAttr]
     refine qc (xcf _ _ _ h10) rfl ?_
     rcases itbE hm0 with ⟨e12, hm0⟩ | ⟨e12, hm0⟩
     · obtain ⟨v13, h14, hm0⟩ := bsE hm0
       simp only [e4, e8, e12, xqb, ↓EVd, isCall, sevalprocAttr]
       refine qc (xcf _ _ _ h14) rfl ?_
       rcases itbE hm0 with ⟨e16, hm0⟩ | ⟨e16, hm0⟩
       · obtain ⟨v17, h18, hm0⟩ := bsE hm0
         simp only [e4, e8, e12, e16, xqb, ↓EVd, isCall, sevalprocAttr]
         refine qc (xcf _ _ _ h18) rfl ?_
         rcases itbE hm0 with ⟨e20, hm0⟩ | ⟨e20, hm0⟩
         · obtain ⟨v21, h22, hm0⟩ := bsE hm0
           simp only [e4, e8, e12, e16, e20, xqb, ↓EVd, isCall, sevalprocAttr]
           refine qcb (x0k _ _ _ h22) rfl (by simp only [e4, e8, e12, e16, e20, FZ, CLO, xqb, ↓EVd, isCall, sevalprocAttr]) ?_
           rcases itbE hm0 with ⟨e24, hm0⟩ | ⟨e24, hm0⟩
           · obtain ⟨v25, h26, hm0⟩ := bsE hm0
             simp only [e4, e8, e12, e16, e20, e24, xqb, ↓EVd, isCall, sevalprocAttr]
             refine qc (x5x  _ h26) rfl ?_
             obtain ⟨v27, h28, hm0⟩ := bsE hm0
             simp only [e4, e8, e12, e16, e20, e24, xqb, ↓EVd, isCall, sevalprocAttr]
             refine qc (xeq _ _ h28) rfl ?_
             have e29 : (.agg [int 1, int 1] : AV) = xj (⟨1, 1⟩ : Place) := _root_.id rfl
             obtain ⟨v30, h31, hm0⟩ := bsE hm0
             simp only [e4, e8, e12, e16, e20, e24, e29, xqb, ↓EVd, isCall, sevalprocAttr]
             refine qcb (x4h _ _ _ h31) rfl (by simp only [e4, e8, e12, e16, e20, e24, e29, FZ, CLO, xqb, ↓EVd, isCall, sevalprocAttr]) ?_
             obtain rfl := Option.some.inj hm0
             simp only [e4, e8, e12, e16, e20, e24, e29, xqb, ↓EVd, isCall, sevalprocAttr]
             all_goals first | done | rfl
           obtain rfl := Option.some.inj hm0
           simp only [e4, e8, e12, e16, e20, e24, xqb, ↓EVd, isCall, sevalprocAttr]
           all_goals first | done | rfl
         obtain rfl := Option.some.inj hm0
         simp only [e4, e8, e12, e16, e20, xqb, ↓EVd, isCall, sevalprocAttr]
         all_goals first | done | rfl
       obtain rfl := Option.some.inj hm0
       simp only [e4, e8, e12, e16, xqb, ↓EVd, isCall, sevalprocAttr]
       all_goals first | done | rfl
     obtain rfl := Option.some.inj hm0
     simp only [e4, e8, e12, xqb, ↓EVd, isCall, sevalprocAttr]
     all_goals first | done | rfl
   obtain rfl := Option.some.inj hm0
   simp only [e4, e8, xqb, ↓EVd, isCall, sevalprocAttr]
   all_goals first | done | rfl
 obtain rfl := Option.some.inj hm0
 simp only [e4, xqb, ↓EVd, isCall, sevalprocAttr]
 all_goals first | done | rfl
def x5b (a0 : Finding) (a1 : Finding) : Option (Bool) := if a0.ino = a1.ino then some true
 else some false
def xvi := aI (aI (@EV) (@R3)) (aI (@R38) (@DFinding))
set_option maxHeartbeats 2000000 in
theorem xoi (a0 : Finding) (a1 : Finding) (r : Bool) (hm0 : x5b a0 a1 = some r) : Ok Tryd.prog 12 [xq a0, .ptr (xq a1) 0] (bool r) := by
 unfold x5b at hm0
 refine okG x6l ?_
 unfold x4i
 rcases iteE hm0 with ⟨e2, hm0⟩ | ⟨e2, hm0⟩
 · obtain rfl := Option.some.inj hm0
   simp only [e2, xvi, ↓EVd, isCall, sevalprocAttr]
   all_goals first | done | rfl
 obtain rfl := Option.some.inj hm0
 simp only [e2, xvi, ↓EVd, isCall, sevalprocAttr]
 all_goals first | done | rfl
def x4c (a0 : Stack) (v7 : List Bool) (v9 : List Finding) : Int → Option (St (Int) ((Unit) ⊕ (Bool)))
 | v12 => if v12 < (v9.length : Int) then (ix v9 v12).bind fun v16 => if v16.ino < 1 then some (.out (.inr false))
 else if (v7.length : Int) < v16.ino then some (.out (.inr false))
 else (ix v7 (wr (v16.ino - 1))).bind fun v23 => if (!v23) = true then some (.out (.inr false))
 else if 0 < v12 then (ix v9 (wr (v12 - 1))).bind fun v30 => if v16.ino ≤ v30.ino then some (.out (.inr false))
 else if v16.clause < 9 then some (.out (.inr false))
 else if 12 < v16.clause then some (.out (.inr false))
 else (cloneM 144 a0.upper.nodes).bind fun v39 => (ix v39 (wr (v16.ino - 1))).bind fun v41 => (xyf v41.attr 2).bind fun v44 => if (!v44) = true then some (.out (.inr false))
 else (xef v41.attr 2).bind fun v48 => (x7b (⟨(⟨a0.geo.lowers, a0.geo.inodes, a0.geo.blocks, a0.geo.log⟩ : Geo), (⟨(v39.set ((wr (v16.ino - 1))).toNat ({ v41 with attr := v48 } : Node))⟩ : Branch), a0.lowers⟩ : Stack)).bind fun v50 => (xhe (fun z => x5b z v16) v50).bind fun v52 => if v52 = true then some (.out (.inr false))
 else some (.nx (wr (v12 + 1)))
 else if v16.clause < 9 then some (.out (.inr false))
 else if 12 < v16.clause then some (.out (.inr false))
 else (cloneM 144 a0.upper.nodes).bind fun v60 => (ix v60 (wr (v16.ino - 1))).bind fun v62 => (xyf v62.attr 2).bind fun v65 => if (!v65) = true then some (.out (.inr false))
 else (xef v62.attr 2).bind fun v69 => (x7b (⟨(⟨a0.geo.lowers, a0.geo.inodes, a0.geo.blocks, a0.geo.log⟩ : Geo), (⟨(v60.set ((wr (v16.ino - 1))).toNat ({ v62 with attr := v69 } : Node))⟩ : Branch), a0.lowers⟩ : Stack)).bind fun v71 => (xhe (fun z => x5b z v16) v71).bind fun v73 => if v73 = true then some (.out (.inr false))
 else some (.nx (wr (v12 + 1)))
 else some (.out (.inl ()))
def x0e (a0 : Stack) : Option (Bool) := (x0d a0 12).bind fun v1 => if (!v1) = true then (xlf ).bind fun v5 => some v5
 else (x0g a0.upper ([1] : List Int)).bind fun v7 => (x7b a0).bind fun v9 => (iter (x4c a0 v7 v9) big 0).bind fun o => (match o with
 | (.inl _) => (xlf ).bind fun v77 => some v77
 | (.inr r) => some r)
def xc := aI (aI (aI (aI (@EV) (@R3)) (aI (@R4) (aI (@R24) (@R26)))) (aI (aI (@R29) (@R32)) (aI (@R34) (aI (@R35) (@R38))))) (aI (aI (aI (@R45) (@R47)) (aI (@DBranch) (aI (@DStack) (@DFinding)))) (aI (aI (@DOrigin) (@DAttr)) (aI (@DNode) (aI (@DEntry) (@mixed)))))
set_option maxHeartbeats 2000000 in
theorem xqn (a0 : Stack) (r : Bool) (hm0 : x0e a0 = some r) : Ok Tryd.prog 3 [xx a0] (bool r) := by
 unfold x0e at hm0
 refine okG xan ?_
 unfold xwj
 obtain ⟨v1, h2, hm0⟩ := bsE hm0
 simp only [xc, ↓EVd, isCall, sevalprocAttr]
 refine qc (xov _ _ _ h2) rfl ?_
 rcases itbE hm0 with ⟨e4, hm0⟩ | ⟨e4, hm0⟩
 · obtain ⟨v5, h6, hm0⟩ := bsE hm0
   simp only [e4, xc, ↓EVd, isCall, sevalprocAttr]
   refine qc (x7m  _ h6) rfl ?_
   obtain rfl := Option.some.inj hm0
   simp only [e4, xc, ↓EVd, isCall, sevalprocAttr]
   all_goals first | done | rfl
 obtain ⟨v7, h8, hm0⟩ := bsE hm0
 simp only [e4, xc, ↓EVd, isCall, sevalprocAttr]
 refine qcq (xxv _ _ _ h8) rfl (by simp only [e4, FQ, CLO, xc, ↓EVd, isCall, sevalprocAttr]; first | done | rfl) ?_
 obtain ⟨v9, h10, hm0⟩ := bsE hm0
 simp only [e4, xc, ↓EVd, isCall, sevalprocAttr]
 refine qc (xze _ _ h10) rfl ?_
 obtain ⟨o0, ho0, hm0⟩ := bsE hm0
 simp only [e4, xc, ↓EVd, isCall, sevalprocAttr]
 refine cwp_cx 0 (fun s => (.inl ()) = o0) ?_ fun J0_0 hJ0_0 => ?_
 · rintro T0 H0 x13 rfl
   try dsimp only at hm0
   obtain ⟨v77, h78, hm0⟩ := bsE hm0
   simp only [e4, xc, ↓EVd, isCall, sevalprocAttr]
   refine qc (x7m  _ h78) rfl ?_
   obtain rfl := Option.some.inj hm0
   simp only [e4, xc, ↓EVd, isCall, sevalprocAttr]
   all_goals first | done | rfl
 refine cwp_lp ho0 (fun v12 s => s.T 1 = .loc 0 6 0 0 ∧ s.T 3 = .sl 1 (v7.map bool) ∧ s.T 4 = .sl 4 (v9.map xq) ∧ s.T 19 = .sl 4 (v9.map xq) ∧ s.T 20 = int (v9.length : Int) ∧ s.T 21 = int v12 ∧ s.H 0 = some (.row 29 6 [xx a0]) ∧ Lq 0 s.nx) ?_ ?_
 · refine TI.here ⟨?_, ?_, ?_, ?_, ?_, ?_, ?_, ?_⟩
   all_goals try simp only [e4, xc, ↓EVd, isCall, sevalprocAttr]
   all_goals first | omega | exact lq (by omega) | exact nq (by omega) | rfl | (congr 1; omega)
 rintro I0 v12 T0 H0 x11 st0 kk0 hm1 hI0 hO0
 dsimp only [Lq, Nq] at kk0
 simp only [x4c] at hm1
 rcases iteE hm1 with ⟨e15, hm1⟩ | ⟨e15, hm1⟩
 · obtain ⟨v16, e18, hm1⟩ := ixE xq hm1
   rcases iteE hm1 with ⟨e20, hm1⟩ | ⟨e20, hm1⟩
   · obtain rfl := Option.some.inj hm1
     obtain rfl := hO0 _ rfl
     try dsimp only at hm0
     obtain rfl := Option.some.inj hm0
     simp only [kk0, e4, e15, e18, e20, xc, ↓EVd, isCall, sevalprocAttr]
     all_goals first | done | rfl
   rcases iteE hm1 with ⟨e22, hm1⟩ | ⟨e22, hm1⟩
   · obtain rfl := Option.some.inj hm1
     obtain rfl := hO0 _ rfl
     try dsimp only at hm0
     obtain rfl := Option.some.inj hm0
     simp only [kk0, e4, e15, e18, e20, e22, xc, ↓EVd, isCall, sevalprocAttr]
     all_goals first | done | rfl
   obtain ⟨v23, e25, hm1⟩ := ixE bool hm1
   rcases itbE hm1 with ⟨e27, hm1⟩ | ⟨e27, hm1⟩
   · obtain rfl := Option.some.inj hm1
     obtain rfl := hO0 _ rfl
     try dsimp only at hm0
     obtain rfl := Option.some.inj hm0
     simp only [kk0, e4, e15, e18, e20, e22, e25, e27, xc, ↓EVd, isCall, sevalprocAttr]
     all_goals first | done | rfl
   rcases iteE hm1 with ⟨e29, hm1⟩ | ⟨e29, hm1⟩
   · obtain ⟨v30, e32, hm1⟩ := ixE xq hm1
     have g79 := And.intro (And.intro (And.intro ((e4)) ((e15))) (And.intro ((e18)) ((e20)))) (And.intro (And.intro ((e22)) ((e25))) (And.intro ((e27)) (And.intro ((e29)) ((e32)))))
     rcases iteE hm1 with ⟨e34, hm1⟩ | ⟨e34, hm1⟩
     · obtain rfl := Option.some.inj hm1
       obtain rfl := hO0 _ rfl
       try dsimp only at hm0
       obtain rfl := Option.some.inj hm0
       simp only [kk0, g79, e34, xc, ↓EVd, isCall, sevalprocAttr]
       all_goals first | done | rfl
     rcases iteE hm1 with ⟨e36, hm1⟩ | ⟨e36, hm1⟩
     · obtain rfl := Option.some.inj hm1
       obtain rfl := hO0 _ rfl
       try dsimp only at hm0
       obtain rfl := Option.some.inj hm0
       simp only [kk0, g79, e34, e36, xc, ↓EVd, isCall, sevalprocAttr]
       all_goals first | done | rfl
     rcases iteE hm1 with ⟨e38, hm1⟩ | ⟨e38, hm1⟩
     · obtain rfl := Option.some.inj hm1
       obtain rfl := hO0 _ rfl
       try dsimp only at hm0
       obtain rfl := Option.some.inj hm0
       simp only [kk0, g79, e34, e36, e38, xc, ↓EVd, isCall, sevalprocAttr]
       all_goals first | done | rfl
     obtain ⟨v39, h40, hm1⟩ := bsE hm1
     simp only [kk0, g79, e34, e36, e38, xc, ↓EVd, isCall, sevalprocAttr]
     refine qco (xdx x1e xdi x7h x0s x6v rfl (by decide) xe _ _ h40 (fun z => by simp only [CLO])) rfl ?_
     obtain ⟨v41, e43, hm1⟩ := ixE xe hm1
     obtain ⟨v44, h45, hm1⟩ := bsE hm1
     simp only [kk0, g79, e34, e36, e38, e43, xc, ↓EVd, isCall, sevalprocAttr]
     refine qc (x9q _ _ _ h45) rfl ?_
     rcases itbE hm1 with ⟨e47, hm1⟩ | ⟨e47, hm1⟩
     · obtain rfl := Option.some.inj hm1
       obtain rfl := hO0 _ rfl
       try dsimp only at hm0
       obtain rfl := Option.some.inj hm0
       simp only [kk0, g79, e34, e36, e38, e43, e47, xc, ↓EVd, isCall, sevalprocAttr]
       all_goals first | done | rfl
     obtain ⟨v48, h49, hm1⟩ := bsE hm1
     simp only [kk0, g79, e34, e36, e38, e43, e47, xc, ↓EVd, isCall, sevalprocAttr]
     refine qc (x4o _ _ _ h49) rfl ?_
     obtain ⟨v50, h51, hm1⟩ := bsE hm1
     simp only [kk0, g79, e34, e36, e38, e43, e47, xc, ↓EVd, isCall, sevalprocAttr]
     refine qcqs (xze _ _ h51) rfl (.cons (.agg (.refl _)) .nil) (by simp only [kk0, g79, e34, e36, e38, e43, e47, FQ, CLO, xc, ↓EVd, isCall, sevalprocAttr]; first | done | rfl) ?_
     obtain ⟨v52, h53, hm1⟩ := bsE hm1
     simp only [kk0, g79, e34, e36, e38, e43, e47, xc, ↓EVd, isCall, sevalprocAttr]
     refine qcb (xbg x3c xjd xli xki (fi := []) (ca := [.ptr (xq v16) 0]) xq v50 (fun z => x5b z v16) _ h53 (fun z b hz => xoi z v16 b hz) (fun z => by simp only [CLO]) rfl (by simp only [CLO]) (fun z => by simp only [xc, ↓EVd, isCall, sevalprocAttr])) rfl (by simp only [kk0, g79, e34, e36, e38, e43, e47, FZ, CLO, xc, ↓EVd, isCall, sevalprocAttr]) ?_
     rcases itbE hm1 with ⟨e55, hm1⟩ | ⟨e55, hm1⟩
     · obtain rfl := Option.some.inj hm1
       obtain rfl := hO0 _ rfl
       try dsimp only at hm0
       obtain rfl := Option.some.inj hm0
       simp only [kk0, g79, e34, e36, e38, e43, e47, e55, xc, ↓EVd, isCall, sevalprocAttr]
       all_goals first | done | rfl
     obtain rfl := Option.some.inj hm1
     simp only [kk0, g79, e34, e36, e38, e43, e47, e55, xc, ↓EVd, isCall, sevalprocAttr]
     refine TI.here (hI0 _ rfl _ ⟨?_, ?_, ?_, ?_, ?_, ?_, ?_, ?_⟩)
     all_goals try simp only [kk0, g79, e34, e36, e38, e43, e47, e55, xc, ↓EVd, isCall, sevalprocAttr]
     all_goals first | omega | exact lq (by omega) | exact nq (by omega) | rfl | (congr 1; omega)
   have g80 := And.intro (And.intro (And.intro ((e4)) ((e15))) (And.intro ((e18)) ((e20)))) (And.intro (And.intro ((e22)) ((e25))) (And.intro ((e27)) ((e29))))
   rcases iteE hm1 with ⟨e57, hm1⟩ | ⟨e57, hm1⟩
   · obtain rfl := Option.some.inj hm1
     obtain rfl := hO0 _ rfl
     try dsimp only at hm0
     obtain rfl := Option.some.inj hm0
     simp only [kk0, g80, e57, xc, ↓EVd, isCall, sevalprocAttr]
     all_goals first | done | rfl
   rcases iteE hm1 with ⟨e59, hm1⟩ | ⟨e59, hm1⟩
   · obtain rfl := Option.some.inj hm1
     obtain rfl := hO0 _ rfl
     try dsimp only at hm0
     obtain rfl := Option.some.inj hm0
     simp only [kk0, g80, e57, e59, xc, ↓EVd, isCall, sevalprocAttr]
     all_goals first | done | rfl
   obtain ⟨v60, h61, hm1⟩ := bsE hm1
   simp only [kk0, g80, e57, e59, xc, ↓EVd, isCall, sevalprocAttr]
   refine qco (xdx x1e xdi x7h x0s x6v rfl (by decide) xe _ _ h61 (fun z => by simp only [CLO])) rfl ?_
   obtain ⟨v62, e64, hm1⟩ := ixE xe hm1
   obtain ⟨v65, h66, hm1⟩ := bsE hm1
   simp only [kk0, g80, e57, e59, e64, xc, ↓EVd, isCall, sevalprocAttr]
   refine qc (x9q _ _ _ h66) rfl ?_
   rcases itbE hm1 with ⟨e68, hm1⟩ | ⟨e68, hm1⟩
   · obtain rfl := Option.some.inj hm1
     obtain rfl := hO0 _ rfl
     try dsimp only at hm0
     obtain rfl := Option.some.inj hm0
     simp only [kk0, g80, e57, e59, e64, e68, xc, ↓EVd, isCall, sevalprocAttr]
     all_goals first | done | rfl
   obtain ⟨v69, h70, hm1⟩ := bsE hm1
   simp only [kk0, g80, e57, e59, e64, e68, xc, ↓EVd, isCall, sevalprocAttr]
   refine qc (x4o _ _ _ h70) rfl ?_
   obtain ⟨v71, h72, hm1⟩ := bsE hm1
   simp only [kk0, g80, e57, e59, e64, e68, xc, ↓EVd, isCall, sevalprocAttr]
   refine qcqs (xze _ _ h72) rfl (.cons (.agg (.refl _)) .nil) (by simp only [kk0, g80, e57, e59, e64, e68, FQ, CLO, xc, ↓EVd, isCall, sevalprocAttr]; first | done | rfl) ?_
   obtain ⟨v73, h74, hm1⟩ := bsE hm1
   simp only [kk0, g80, e57, e59, e64, e68, xc, ↓EVd, isCall, sevalprocAttr]
   refine qcb (xbg x3c xjd xli xki (fi := []) (ca := [.ptr (xq v16) 0]) xq v71 (fun z => x5b z v16) _ h74 (fun z b hz => xoi z v16 b hz) (fun z => by simp only [CLO]) rfl (by simp only [CLO]) (fun z => by simp only [xc, ↓EVd, isCall, sevalprocAttr])) rfl (by simp only [kk0, g80, e57, e59, e64, e68, FZ, CLO, xc, ↓EVd, isCall, sevalprocAttr]) ?_
   rcases itbE hm1 with ⟨e76, hm1⟩ | ⟨e76, hm1⟩
   · obtain rfl := Option.some.inj hm1
     obtain rfl := hO0 _ rfl
     try dsimp only at hm0
     obtain rfl := Option.some.inj hm0
     simp only [kk0, g80, e57, e59, e64, e68, e76, xc, ↓EVd, isCall, sevalprocAttr]
     all_goals first | done | rfl
   obtain rfl := Option.some.inj hm1
   simp only [kk0, g80, e57, e59, e64, e68, e76, xc, ↓EVd, isCall, sevalprocAttr]
   refine TI.here (hI0 _ rfl _ ⟨?_, ?_, ?_, ?_, ?_, ?_, ?_, ?_⟩)
   all_goals try simp only [kk0, g80, e57, e59, e64, e68, e76, xc, ↓EVd, isCall, sevalprocAttr]
   all_goals first | omega | exact lq (by omega) | exact nq (by omega) | rfl | (congr 1; omega)
 obtain rfl := Option.some.inj hm1
 simp only [kk0, e4, e15, xc, ↓EVd, isCall, sevalprocAttr]
 refine TI.here (hJ0_0 _ (hO0 _ rfl))
end Go.Proofs.YtmacnoajlofdbaaDoor.AL

/- Plain laws of chapter 21: the law. -/
set_option linter.all false
namespace Go.Proofs.YtmacnoajlofdbaaDoor.AL
open Go Go.Proofs
def loop21 (t : ByteArray) : Stack := ⟨⟨1, 5, 6, 5⟩, ⟨[⟨1, 0, 2, 0, [], [⟨0, 4, ByteArray.mk #[100]⟩], ⟨0, 0, xl, ⟨0, 0, 0⟩, 0⟩⟩, ⟨1, 0, 2, 0, [], [], ⟨0, 0, xl, ⟨0, 0, 0⟩, 0⟩⟩, ⟨1, 0, 2, 0, [], [], ⟨0, 0, xl, ⟨0, 0, 0⟩, 0⟩⟩, ⟨1, 0, 2, 0, [], [], ⟨2, 0, t, ⟨0, 0, 0⟩, 0⟩⟩, ⟨0, 0, 0, 0, [], [], ⟨0, 0, xl, ⟨0, 0, 0⟩, 0⟩⟩]⟩, [⟨[⟨1, 0, 2, 0, [], [⟨0, 2, ByteArray.mk #[97]⟩], ⟨0, 0, xl, ⟨0, 0, 0⟩, 0⟩⟩, ⟨2, 0, 1, 3, [120], [], ⟨0, 0, xl, ⟨0, 0, 0⟩, 0⟩⟩, ⟨0, 0, 0, 0, [], [], ⟨0, 0, xl, ⟨0, 0, 0⟩, 0⟩⟩, ⟨0, 0, 0, 0, [], [], ⟨0, 0, xl, ⟨0, 0, 0⟩, 0⟩⟩, ⟨0, 0, 0, 0, [], [], ⟨0, 0, xl, ⟨0, 0, 0⟩, 0⟩⟩]⟩]⟩
theorem xgab : findP (loop21 (ByteArray.mk #[47, 100])) = [⟨10, 0, 4, -1⟩] := by kernel_rfl
theorem xfab : findP (loop21 (ByteArray.mk #[47])) = [⟨10, 0, 4, -1⟩] := by kernel_rfl
theorem x0ab : findP (loop21 (ByteArray.mk #[47, 120])) = [⟨11, 0, 4, -1⟩] := by kernel_rfl
theorem x6ab : findP (loop21 (ByteArray.mk #[97])) = [⟨11, 0, 4, -1⟩] := by kernel_rfl
theorem xb8 : findP (loop21 (ByteArray.mk #[97, 47])) = [⟨9, 0, 4, -1⟩] := by kernel_rfl
theorem sb_of {s : Stack} (h : x0d s 24 = some true) : SB s := by
  obtain ⟨r, h1, h2⟩ := xu7 s
  rw [h] at h1
  injection h1 with h1
  exact h2 h1.symm
theorem aw21 {t : ByteArray} {c : Int} (hL : xnj t = some (loop21 t)) (hS : x0d (loop21 t) 24 = some true) (hf : findP (loop21 t) = [⟨c, 0, 4, -1⟩]) : xxb t c = some true := by
  unfold xxb
  have hb := sb_of hS
  rw [hL]
  simp only [Option.bind_some]
  rw [xyk hb.sv hb.pb, hf]
  simp only [Option.bind_some]
  rw [xly (by simp)]
  simp
theorem aw21_0 : xxb (ByteArray.mk #[47, 100]) 10 = some true := aw21 (by kernel_rfl) (by kernel_rfl) xgab
theorem aw21_1 : xxb (ByteArray.mk #[47]) 10 = some true := aw21 (by kernel_rfl) (by kernel_rfl) xfab
theorem aw21_2 : xxb (ByteArray.mk #[47, 120]) 11 = some true := aw21 (by kernel_rfl) (by kernel_rfl) x0ab
theorem aw21_3 : xxb (ByteArray.mk #[97]) 11 = some true := aw21 (by kernel_rfl) (by kernel_rfl) x6ab
theorem aw21_4 : xxb (ByteArray.mk #[97, 47]) 9 = some true := aw21 (by kernel_rfl) (by kernel_rfl) xb8
theorem lp21 : loopsP [ByteArray.mk #[100]] (ByteArray.mk #[100]) = true := by decide +kernel
theorem cl21 : ∃ s, xyl = some s ∧ x4f s = some [⟨1, 1⟩] := by
  refine ⟨_, rfl, ?_⟩
  kernel_rfl
theorem awake21 : xlf = some true := by
  unfold xlf
  obtain ⟨s, h1, h2⟩ := cl21
  rw [aw21_0, aw21_1, aw21_2, aw21_3, aw21_4, xiu (by simp), lp21, h1]
  simp only [Option.bind_some, if_true]
  rw [h2]
  simp only [Option.bind_some]
  rw [xl1 (by simp)]
  simp
end Go.Proofs.YtmacnoajlofdbaaDoor.AL

/- Plain laws of chapter 21: what is told, once. -/
set_option linter.all false
namespace Go.Proofs.YtmacnoajlofdbaaDoor.AL
open Go Go.Proofs
theorem xjbb (s : Stack) (T : List Place) (i : Nat) : clT s T i = 0 ∨ (9 ≤ clT s T i ∧ clT s T i ≤ 12) := by
  unfold clT
  split
  · split
    · exact .inl rfl
    · split
      · exact .inr (by decide)
      · exact .inl rfl
  · unfold clP
    repeat' split
    all_goals first | exact .inl rfl | exact .inr (by decide)
theorem x22 (s : Stack) : ∀ (T : List Place) (L : List Nat) (q : Nat × Int), q ∈ gT s T L → q.2 = 0 ∨ (9 ≤ q.2 ∧ q.2 ≤ 12)
  | T, [], q, h => by simp [gT] at h
  | T, i :: L, q, h => by
    simp only [gT, List.mem_cons] at h
    rcases h with rfl | h
    · exact xjbb s T i
    · exact x22 s _ L q h
theorem xys (s : Stack) (ino : Int) : ∀ (G : List (Nat × Int)) (x : Int), (∀ q ∈ G, q.2 = 0 ∨ (9 ≤ q.2 ∧ q.2 ≤ 12)) → (x = 0 ∨ (9 ≤ x ∧ x ≤ 12)) → (G.foldl (tellX s ino) x = 0 ∨ (9 ≤ G.foldl (tellX s ino) x ∧ G.foldl (tellX s ino) x ≤ 12))
  | [], x, _, hx => hx
  | q :: G, x, hG, hx => by
    rw [List.foldl_cons]
    refine xys s ino G _ (fun q hq => hG q (by simp [hq])) ?_
    unfold tellX
    split
    · exact hG q (by simp)
    · exact hx
theorem x9bb (s : Stack) (ino : Int) : xP s ino = 0 ∨ (9 ≤ xP s ino ∧ xP s ino ≤ 12) :=
  xys s ino _ 9 (fun q hq => x22 s _ _ q hq) (.inr (by decide))
theorem x7p {s : Stack} {f : Finding} (hf : f ∈ findP s) : ∃ j : Nat, j < s.upper.nodes.length ∧ ((reachP s.upper [1])[j]?).getD false = true ∧ redB (nodeP s.upper ((j : Int) + 1)) = true ∧ 9 ≤ f.clause ∧ f.clause ≤ 12 ∧ f.ino = (j : Int) + 1 := by
  unfold findP at hf
  obtain ⟨j, hj, hf⟩ := List.mem_flatMap.1 hf
  simp only [List.mem_range] at hj
  unfold fdP at hf
  split at hf
  · rename_i h
    simp only [List.mem_singleton] at hf
    subst hf
    rcases x9bb s ((j : Int) + 1) with h0 | h0
    · exact absurd h0 h.2.2
    · exact ⟨j, hj, h.1, h.2.1, h0.1, h0.2, rfl⟩
  · cases hf
theorem xw2 {s : Stack} {j : Nat} {f : Finding} (hf : f ∈ fdP s j) : f.ino = (j : Int) + 1 := by
  unfold fdP at hf
  split at hf
  · simp only [List.mem_singleton] at hf
    subst hf
    rfl
  · cases hf
theorem xo2 (s : Stack) : ∀ (L : List Nat), L.Pairwise (· < ·) → (L.flatMap (fdP s)).Pairwise (fun a b : Finding => a.ino < b.ino)
  | [], _ => by simp
  | j :: L, h => by
    rw [List.pairwise_cons] at h
    rw [List.flatMap_cons, List.pairwise_append]
    refine ⟨?_, xo2 s L h.2, ?_⟩
    · have := xaw s j
      match e : fdP s j with
      | [] => exact .nil
      | [x] => simp
      | x :: y :: l => rw [e] at this; simp at this
    · intro a ha b hb
      obtain ⟨i, hi, hb⟩ := List.mem_flatMap.1 hb
      rw [xw2 ha, xw2 hb]
      have := h.1 i hi
      omega
theorem xubb (s : Stack) : (findP s).Pairwise (fun a b : Finding => a.ino < b.ino) := xo2 s _ List.pairwise_lt_range
def dropA (a : Attr) : Attr := ({ ({ a with redirect := xl } : Attr) with has := (bNot .i64 a.has 2) } : Attr)
theorem xecb (a : Attr) : xef a 2 = some (dropA a) := by
  unfold xef dropA
  rw [if_pos (by decide), if_neg (by decide), if_pos (by decide), if_pos (by decide)]
theorem bitsN (k : Fin 32) : 0 ≤ bNot .i64 (k.val : Int) 2 ∧ bNot .i64 (k.val : Int) 2 ≤ 31 ∧ ¬ (wr ((bNot .i64 (k.val : Int) 2).tdiv 2)).tmod 2 = 1 := by
  revert k
  decide +kernel
theorem dropN {n : Node} (h : NV n) : NV { n with attr := dropA n.attr } ∧ redB { n with attr := dropA n.attr } = false := by
  have e : ((n.attr.has.toNat : Nat) : Int) = n.attr.has := by have := h.has0; omega
  have hb := bitsN ⟨n.attr.has.toNat, by have := h.has0; have := h.has1; omega⟩
  simp only [e] at hb
  exact ⟨⟨h.ents, hb.1, hb.2.1⟩, decide_eq_false hb.2.2⟩
def dropS (s : Stack) (j : Nat) (n : Node) : Stack := ⟨s.geo, ⟨s.upper.nodes.set j { n with attr := dropA n.attr }⟩, s.lowers⟩
theorem x58 {s : Stack} (h : SV s) (hb : PB s.upper) {j : Nat} (hj : j < s.upper.nodes.length) : SV (dropS s j s.upper.nodes[j]) ∧ PB (dropS s j s.upper.nodes[j]).upper := by
  have hn := List.getElem_mem hj
  refine ⟨⟨⟨?_, ?_⟩, h.low⟩, ⟨?_, ?_⟩⟩
  · show (s.upper.nodes.set j _).length ≤ 30
    simpa using h.up.len
  · intro x hx
    rcases List.mem_or_eq_of_mem_set hx with hx | rfl
    · exact h.up.nodes x hx
    · exact (dropN (h.up.nodes _ hn)).1
  · show (s.upper.nodes.set j _).length ≤ 24
    simpa using hb.len
  · intro x hx
    rcases List.mem_or_eq_of_mem_set hx with hx | rfl
    · exact hb.ents x hx
    · exact hb.ents s.upper.nodes[j] hn
theorem x93 {s : Stack} (h : SV s) {j : Nat} (hj : j < s.upper.nodes.length) {x : Finding} (hx : x ∈ findP (dropS s j s.upper.nodes[j])) : ¬ x.ino = (j : Int) + 1 := by
  intro he
  obtain ⟨i, hi, _, hr, _, _, hi2⟩ := x7p hx
  have : i = j := by omega
  subst this
  have hn : nodeP (dropS s i s.upper.nodes[i]).upper ((i : Int) + 1) = { s.upper.nodes[i] with attr := dropA s.upper.nodes[i].attr } := by
    have e1 : (dropS s i s.upper.nodes[i]).upper.nodes = s.upper.nodes.set i { s.upper.nodes[i] with attr := dropA s.upper.nodes[i].attr } := rfl
    unfold nodeP
    rw [e1, if_neg (by omega), if_neg (by simp only [List.length_set]; omega)]
    have e2 : ((i : Int) + 1 - 1).toNat = i := by omega
    rw [e2, List.getElem?_set_self hj]
    rfl
  rw [hn, (dropN (h.up.nodes _ (List.getElem_mem hj))).2] at hr
  cases hr
theorem x81 {l : List Node} (h : l.length ≤ 24) : cloneM 144 l = some l := by
  unfold cloneM
  rw [ap_of (by simp; omega) (by omega)]
  rfl
theorem xi5 {s : Stack} (h : SV s) (hb : PB s.upper) {f : Finding} (hf : f ∈ findP s) (i : Int) : (if f.clause < 9 then some (.out (.inr false))
 else if 12 < f.clause then some (.out (.inr false))
 else (cloneM 144 s.upper.nodes).bind fun v39 => (ix v39 (wr (f.ino - 1))).bind fun v41 => (xyf v41.attr 2).bind fun v44 => if (!v44) = true then some (.out (.inr false))
 else (xef v41.attr 2).bind fun v48 => (x7b (⟨(⟨s.geo.lowers, s.geo.inodes, s.geo.blocks, s.geo.log⟩ : Geo), (⟨(v39.set ((wr (f.ino - 1))).toNat ({ v41 with attr := v48 } : Node))⟩ : Branch), s.lowers⟩ : Stack)).bind fun v50 => (xhe (fun z => x5b z f) v50).bind fun v52 => if v52 = true then some (.out (.inr false))
 else some (.nx (wr (i + 1))) : Option (St (Int) ((Unit) ⊕ (Bool)))) = some (.nx (wr (i + 1))) := by
  obtain ⟨j, hj, _, hr, hc1, hc2, hi⟩ := x7p hf
  have hn := hb.len
  have e1 : wr (f.ino - 1) = (j : Int) := by rw [hi, wr_in (by omega) (by omega)]; omega
  have hnj : nodeP s.upper ((j : Int) + 1) = s.upper.nodes[j] := by
    unfold nodeP
    have e2 : ((j : Int) + 1 - 1).toNat = j := by omega
    rw [if_neg (by omega), if_neg (by omega), e2, List.getElem?_eq_getElem hj]
    rfl
  rw [hnj] at hr
  rw [if_neg (by omega), if_neg (by omega), x81 hn, e1]
  simp only [Option.bind_some]
  rw [ix_at hj]
  simp only [Option.bind_some]
  rw [xvbb (h.up.nodes _ (List.getElem_mem hj)), hr]
  simp only [Option.bind_some]
  rw [if_neg (by simp), xecb]
  simp only [Option.bind_some, Int.toNat_natCast]
  obtain ⟨t1, t2⟩ := x58 h hb hj
  have hm := xyk t1 t2
  have e3 : (⟨(⟨s.geo.lowers, s.geo.inodes, s.geo.blocks, s.geo.log⟩ : Geo), (⟨(s.upper.nodes.set j ({ s.upper.nodes[j] with attr := dropA s.upper.nodes[j].attr } : Node))⟩ : Branch), s.lowers⟩ : Stack) = dropS s j s.upper.nodes[j] := rfl
  rw [e3, hm]
  simp only [Option.bind_some]
  have hl := xax t2
  rw [xqh (f := fun x : Finding => decide (x.ino = f.ino)) _ (fun x _ => by
    unfold x5b
    by_cases e : x.ino = f.ino
    · rw [if_pos e, decide_eq_true e]
    · rw [if_neg e, decide_eq_false e]) (by omega)]
  simp only [Option.bind_some]
  rw [if_neg]
  intro ha
  obtain ⟨x, hx, hx2⟩ := List.any_eq_true.1 ha
  exact x93 h hj hx (by rw [← hi]; simpa using hx2)
theorem xct (s : Stack) : x0e s = some true := by
  unfold x0e
  obtain ⟨r, h1, h2⟩ := x4u s 12 (by omega)
  rw [h1, awake21]
  simp only [Option.bind_some]
  cases r with
  | false => rfl
  | true =>
    have hsv := (h2 rfl).1.sv
    have hb := (h2 rfl).1.pb
    have hl := xax hb
    have hrl := x6n s.upper [1]
    have hn := hb.len
    rw [if_neg (by simp), xf2 hb (by simp), xyk hsv hb]
    simp only [Option.bind_some]
    have := xpd (B := x4c s (reachP s.upper [1]) (findP s)) (fun i (_ : Unit) => (i : Int)) (findP s) (fun u _ => u) (fun _ => .inl ()) (fun _ _ => True) (by
      intro i u hi _
      refine ⟨?_, trivial⟩
      have hm := List.getElem_mem hi
      obtain ⟨j, hj, hrj, _, _, _, he⟩ := x7p hm
      have hc := xi5 hsv hb hm (i : Int)
      rw [wr_suc (by omega)] at hc
      simp only [x4c]
      rw [if_pos (by omega), ix_at hi, wr_suc (by omega)]
      simp only [Option.bind_some]
      have e1 : wr ((findP s)[i].ino - 1) = (j : Int) := by rw [he, wr_in (by omega) (by omega)]; omega
      rw [if_neg (by omega), if_neg (by omega), e1, xzz s hj, hrj]
      simp only [Option.bind_some]
      rw [if_neg (by simp)]
      rw [e1] at hc
      by_cases h0 : 0 < (i : Int)
      · have e2 : wr ((i : Int) - 1) = ((i - 1 : Nat) : Int) := by rw [wr_in (by omega) (by omega)]; omega
        rw [if_pos h0, e2, ix_at (show i - 1 < (findP s).length by omega)]
        simp only [Option.bind_some]
        have hpw := List.pairwise_iff_getElem.1 (xubb s) (i - 1) i (by omega) hi (by omega)
        rw [if_neg (by omega)]
        exact hc
      · rw [if_neg h0]
        exact hc) (by
      intro u _
      simp only [x4c]
      rw [if_neg (by omega)]) (s0 := ()) trivial (fuel := big) (by rw [big_eq]; omega)
    have e0 : ((0 : Nat) : Int) = 0 := rfl
    rw [e0] at this
    rw [this.1]
    rfl
theorem xybb (s : Stack) : Ok Tryd.prog 3 [xx s] (bool true) := xqn s true (xct s)
end Go.Proofs.YtmacnoajlofdbaaDoor.AL

/- Each redirect of any stack that may not be is one of a node in the tree, that has one, each node has one at most, and none once it is taken away. -/
namespace Go.Proofs.YtmacnoajlofdbaaDoor
theorem redirectOnce_holds : Rows.RedirectOnceCardSaid := xwn (xnn fun s _ => AL.xybb s)
#print axioms redirectOnce_holds
end Go.Proofs.YtmacnoajlofdbaaDoor

