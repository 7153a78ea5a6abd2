/- A law of the given program is proved: part 43 of 51. -/
import Derived.RangeFuncNested
import Derived.RangeFuncLeaves
import Derived.TacticsIn
import Derived.ControlIn
import Derived.OwnWalkIn
import Derived.Test.YtfkgckbdknpcnaaGreatDoorChecked
import Derived.Test.YtfkgckbdknpcnaaGreatDoorA42
set_option linter.all false
/- Models of functions, and that the functions are as their models: written by gen.py. -/
set_option linter.all false
set_option maxRecDepth 100000
namespace Go.Proofs.YtfkgckbdknpcnaaGreatDoor.AL
open Go Go.Proofs
def x6d (a0 : Node) : Option (Bool) := if a0.kind = 1 then (x2d a0).bind fun v3 => some v3
 else some false
def x6l := aI (aI (@EV) (aI (@R3) (@R68))) (aI (@DAttr) (aI (@DNode) (@DEntry)))
set_option maxHeartbeats 2000000 in
theorem xtl (a0 : Node) (r : Bool) (hm0 : x6d a0 = some r) : Ok Tryz.prog 71 [xf a0] (bool r) := by
 unfold x6d at hm0
 refine okG xpx ?_
 unfold xrp
 rcases iteE hm0 with ⟨e2, hm0⟩ | ⟨e2, hm0⟩
 · obtain ⟨v3, h4, hm0⟩ := bsE hm0
   simp only [e2, x6l, ↓EVd, isCall, sevalprocAttr]
   refine qc (xjl _ _ h4) rfl ?_
   obtain rfl := Option.some.inj hm0
   simp only [e2, x6l, ↓EVd, isCall, sevalprocAttr]
   all_goals first | done | rfl
 obtain rfl := Option.some.inj hm0
 simp only [e2, x6l, ↓EVd, isCall, sevalprocAttr]
 all_goals first | done | rfl
def xdj (a0 : Stack) : Option (View) := (xwc a0.upper 1).bind fun v1 => if v1.kind = 1 then (x6d v1).bind fun v5 => if v5 = true then some (⟨1, []⟩ : View)
 else (xqf a0).bind fun v9 => some (⟨1, v9⟩ : View)
 else (xqf a0).bind fun v12 => some (⟨0, v12⟩ : View)
def xeg := aI (aI (aI (@EV) (aI (@R3) (@R26))) (aI (@R29) (aI (@R68) (@R80)))) (aI (aI (@DBranch) (aI (@DStack) (@DPlace))) (aI (aI (@DAttr) (@DNode)) (aI (@DView) (@DEntry))))
set_option maxHeartbeats 2000000 in
theorem xr1 (a0 : Stack) (r : View) (hm0 : xdj a0 = some r) : Ok Tryz.prog 45 [xl a0] (xjb r) := by
 unfold xdj at hm0
 refine okG xl1 ?_
 unfold xwt
 obtain ⟨v1, h2, hm0⟩ := bsE hm0
 simp only [xeg, ↓EVd, isCall, sevalprocAttr]
 refine qc (x4e _ _ _ h2) rfl ?_
 rcases iteE hm0 with ⟨e4, hm0⟩ | ⟨e4, hm0⟩
 · obtain ⟨v5, h6, hm0⟩ := bsE hm0
   simp only [e4, xeg, ↓EVd, isCall, sevalprocAttr]
   refine qc (xtl _ _ h6) rfl ?_
   rcases itbE hm0 with ⟨e8, hm0⟩ | ⟨e8, hm0⟩
   · obtain rfl := Option.some.inj hm0
     simp only [e4, e8, xeg, ↓EVd, isCall, sevalprocAttr]
     all_goals first | done | rfl | exact xd (by simp only [CLO]) | exact xn (by simp only [CLO]) (Sub.agg (Subs.cons (Sub.refl _) (Subs.cons (Sub.nilS _) (Subs.nil))))
   obtain ⟨v9, h10, hm0⟩ := bsE hm0
   simp only [e4, e8, xeg, ↓EVd, isCall, sevalprocAttr]
   refine qc (x5l _ _ h10) rfl ?_
   have e11 : (.agg [int 1, .sl 2 (v9.map xc)] : AV) = xjb (⟨1, v9⟩ : View) := _root_.id rfl
   obtain rfl := Option.some.inj hm0
   simp only [e4, e8, e11, xeg, ↓EVd, isCall, sevalprocAttr]
   all_goals first | done | rfl | exact xd (by simp only [CLO])
 obtain ⟨v12, h13, hm0⟩ := bsE hm0
 simp only [e4, xeg, ↓EVd, isCall, sevalprocAttr]
 refine qc (x5l _ _ h13) rfl ?_
 have e14 : (.agg [int 0, .sl 2 (v12.map xc)] : AV) = xjb (⟨0, v12⟩ : View) := _root_.id rfl
 obtain rfl := Option.some.inj hm0
 simp only [e4, e14, xeg, ↓EVd, isCall, sevalprocAttr]
 all_goals first | done | rfl | exact xd (by simp only [CLO])
def x2i (a0 : Stack) (a1 : View) (a2 : Int) (a3 : ByteArray) : Option (List Place) := (xwc a0.upper a2).bind fun v1 => if v1.kind = 1 then (x6d v1).bind fun v5 => if v5 = true then some []
 else (x0f v1.attr 2).bind fun v9 => if v9 = true then (xkc v1.attr.redirect).bind fun v13 => if (!v13.2.2) = true then some []
 else if v13.2.1 = true then (xqf a0).bind fun v19 => (x9i a0 v19 v13.1).bind fun v21 => some v21.1
 else (ix v13.1 0).bind fun v23 => (xmg a0 a1.lower v23).bind fun v26 => if v26.1 = 1 then some v26.2
 else some []
 else (xmg a0 a1.lower a3).bind fun v30 => if v30.1 = 1 then some v30.2
 else some []
 else some []
def x8b := aI (aI (aI (aI (@EV) (@R3)) (aI (@R9) (@R26))) (aI (aI (@R29) (@R30)) (aI (@R39) (aI (@R41) (@R66))))) (aI (aI (aI (@R68) (@R80)) (aI (@DBranch) (aI (@DStack) (@DPlace)))) (aI (aI (@DAttr) (@DNode)) (aI (@DView) (aI (@DEntry) (@mixed)))))
set_option maxHeartbeats 2000000 in
theorem xa2 (a0 : Stack) (a1 : View) (a2 : Int) (a3 : ByteArray) (r : List Place) (hm0 : x2i a0 a1 a2 a3 = some r) : Ok Tryz.prog 46 [xl a0, xjb a1, int a2, str a3] (.sl 2 (r.map xc)) := by
 unfold x2i at hm0
 refine okG xw1 ?_
 unfold xxs
 obtain ⟨v1, h2, hm0⟩ := bsE hm0
 simp only [x8b, ↓EVd, isCall, sevalprocAttr]
 refine qc (x4e _ _ _ h2) rfl ?_
 rcases iteE hm0 with ⟨e4, hm0⟩ | ⟨e4, hm0⟩
 · obtain ⟨v5, h6, hm0⟩ := bsE hm0
   simp only [e4, x8b, ↓EVd, isCall, sevalprocAttr]
   refine qc (xtl _ _ h6) rfl ?_
   rcases itbE hm0 with ⟨e8, hm0⟩ | ⟨e8, hm0⟩
   · obtain rfl := Option.some.inj hm0
     simp only [e4, e8, x8b, ↓EVd, isCall, sevalprocAttr]
     all_goals first | done | rfl | exact xn (by simp only [CLO]) (Sub.nilS _)
   obtain ⟨v9, h10, hm0⟩ := bsE hm0
   simp only [e4, e8, x8b, ↓EVd, isCall, sevalprocAttr]
   refine qc (xpn _ _ _ h10) rfl ?_
   rcases itbE hm0 with ⟨e12, hm0⟩ | ⟨e12, hm0⟩
   · obtain ⟨v13, h14, hm0⟩ := bsE hm0
     simp only [e4, e8, e12, x8b, ↓EVd, isCall, sevalprocAttr]
     refine qc (x4j _ _ h14) rfl ?_
     rcases itbE hm0 with ⟨e16, hm0⟩ | ⟨e16, hm0⟩
     · obtain rfl := Option.some.inj hm0
       simp only [e4, e8, e12, e16, x8b, ↓EVd, isCall, sevalprocAttr]
       all_goals first | done | rfl | exact xn (by simp only [CLO]) (Sub.nilS _)
     rcases itbE hm0 with ⟨e18, hm0⟩ | ⟨e18, hm0⟩
     · obtain ⟨v19, h20, hm0⟩ := bsE hm0
       simp only [e4, e8, e12, e16, e18, x8b, ↓EVd, isCall, sevalprocAttr]
       refine qd (x5l _ _ h20) rfl ?_
       obtain ⟨v21, h22, hm0⟩ := bsE hm0
       simp only [e4, e8, e12, e16, e18, x8b, ↓EVd, isCall, sevalprocAttr]
       refine qd (xg2 _ _ _ _ h22) rfl ?_
       obtain rfl := Option.some.inj hm0
       simp only [e4, e8, e12, e16, e18, x8b, ↓EVd, isCall, sevalprocAttr]
       all_goals first | done | rfl | exact xd (by simp only [CLO])
     obtain ⟨v23, e25, hm0⟩ := ixE str hm0
     try simp only [sevalprocAttr, eq_self, true_and] at e25
     obtain ⟨v26, h27, hm0⟩ := bsE hm0
     simp only [e4, e8, e12, e16, e18, e25, x8b, ↓EVd, isCall, sevalprocAttr]
     refine qc (xom _ _ _ _ h27) rfl ?_
     rcases iteE hm0 with ⟨e29, hm0⟩ | ⟨e29, hm0⟩
     · obtain rfl := Option.some.inj hm0
       simp only [e4, e8, e12, e16, e18, e25, e29, x8b, ↓EVd, isCall, sevalprocAttr]
       all_goals first | done | rfl | exact xd (by simp only [CLO])
     obtain rfl := Option.some.inj hm0
     simp only [e4, e8, e12, e16, e18, e25, e29, x8b, ↓EVd, isCall, sevalprocAttr]
     all_goals first | done | rfl | exact xn (by simp only [CLO]) (Sub.nilS _)
   obtain ⟨v30, h31, hm0⟩ := bsE hm0
   simp only [e4, e8, e12, x8b, ↓EVd, isCall, sevalprocAttr]
   refine qc (xom _ _ _ _ h31) rfl ?_
   rcases iteE hm0 with ⟨e33, hm0⟩ | ⟨e33, hm0⟩
   · obtain rfl := Option.some.inj hm0
     simp only [e4, e8, e12, e33, x8b, ↓EVd, isCall, sevalprocAttr]
     all_goals first | done | rfl | exact xd (by simp only [CLO])
   obtain rfl := Option.some.inj hm0
   simp only [e4, e8, e12, e33, x8b, ↓EVd, isCall, sevalprocAttr]
   all_goals first | done | rfl | exact xn (by simp only [CLO]) (Sub.nilS _)
 obtain rfl := Option.some.inj hm0
 simp only [e4, x8b, ↓EVd, isCall, sevalprocAttr]
 all_goals first | done | rfl | exact xn (by simp only [CLO]) (Sub.nilS _)
def xzg (a0 : Stack) (v1 : List Way) : (List View × Int) → Option (St (List View × Int) (List View))
 | (v5, v6) => if v6 < (v1.length : Int) then (ix v1 v6).bind fun v12 => if v12.up < 0 then (xdj a0).bind fun v17 => (ap 32 v5 ([v17] : List View)).bind fun _ => some (.nx ((v5 ++ ([v17] : List View)), (wr (v6 + 1))))
 else (ix v5 v12.up).bind fun v23 => (x2i a0 v23 v12.ino v12.name).bind fun v26 => (ap 32 v5 ([(⟨v12.ino, v26⟩ : View)] : List View)).bind fun _ => some (.nx ((v5 ++ ([(⟨v12.ino, v26⟩ : View)] : List View)), (wr (v6 + 1))))
 else some (.out v5)
def xkg (a0 : Stack) : Option (List Way × List View) := (xdg a0.upper ([1] : List Int)).bind fun v1 => (iter (xzg a0 v1) big (([] : List View), 0)).bind fun o => (match o with
 | v9 => some (v1, v9))
def xjc := aI (aI (aI (aI (@EV) (@R3)) (aI (@R9) (@R26))) (aI (aI (@R29) (@R51)) (aI (@R52) (aI (@R73) (@R77))))) (aI (aI (aI (@R80) (@DBranch)) (aI (@DStack) (aI (@DPlace) (@DAttr)))) (aI (aI (@DNode) (@DWay)) (aI (@DView) (aI (@DEntry) (@mixed)))))
set_option maxHeartbeats 2000000 in
theorem xpm (a0 : Stack) (r : List Way × List View) (hm0 : xkg a0 = some r) : Ok Tryz.prog 25 [xl a0] (.tup [.sl 3 (r.1.map encWay), .sl 2 (r.2.map xjb)]) := by
 unfold xkg at hm0
 refine okG xu1 ?_
 unfold xps
 obtain ⟨v1, h2, hm0⟩ := bsE hm0
 simp only [xjc, ↓EVd, isCall, sevalprocAttr]
 refine qcq (xjr _ _ _ h2) rfl (by simp only [FQ, CLO, xjc, ↓EVd, isCall, sevalprocAttr]; first | done | rfl) ?_
 obtain ⟨o0, ho0, hm0⟩ := bsE hm0
 simp only [xjc, ↓EVd, isCall, sevalprocAttr]
 refine cwp_cx 0 (fun s => ∃ v9 : List View, ∃ l8 : Nat, (s.T 4 = .sl 3 (v1.map encWay) ∧ s.T 5 = .msl l8 v9.length ∧ s.H l8 = some (.row 80 2 (v9.map xjb)) ∧ Lq l8 s.nx) ∧ v9 = o0) ?_ fun J0_0 hJ0_0 => ?_
 · rintro T0 H0 x7 ⟨v9, l8, kk0_0, rfl⟩
   dsimp only [Lq, Nq] at kk0_0
   try dsimp only at hm0
   obtain rfl := Option.some.inj hm0
   simp only [kk0_0, xjc, ↓EVd, isCall, sevalprocAttr]
   all_goals first | done | rfl | exact xve 9 (by simp only [kk0_0, FZ, CLO, xjc, ↓EVd, isCall, sevalprocAttr]) (Sub.tup (Subs.cons (Sub.refl _) (Subs.cons (Sub.refl _) (Subs.nil))))
 refine cwp_lp ho0 (fun (v5, v6) s => ∃ l4 : Nat, s.T 1 = .loc 0 6 0 0 ∧ s.T 4 = .sl 3 (v1.map encWay) ∧ s.T 5 = .msl l4 v5.length ∧ s.T 6 = int v6 ∧ s.H 0 = some (.row 29 6 [xl a0]) ∧ s.H l4 = some (.row 80 2 (v5.map xjb)) ∧ Lq 0 s.nx ∧ Lq l4 s.nx ∧ Nq 0 l4) ?_ ?_
 · refine TI.here ⟨8, ?_, ?_, ?_, ?_, ?_, ?_, ?_, ?_, ?_⟩
   all_goals try simp only [xjc, ↓EVd, isCall, sevalprocAttr]
   all_goals first | omega | exact lq (by omega) | exact nq (by omega) | rfl | (congr 1; omega)
 rintro I0 ⟨v5, v6⟩ T0 H0 x3 st0 ⟨l4, kk0⟩ hm1 hI0 hO0
 dsimp only [Lq, Nq] at kk0
 simp only [xzg] at hm1
 rcases iteE hm1 with ⟨e11, hm1⟩ | ⟨e11, hm1⟩
 · obtain ⟨v12, e14, hm1⟩ := ixE encWay hm1
   rcases iteE hm1 with ⟨e16, hm1⟩ | ⟨e16, hm1⟩
   · obtain ⟨v17, h18, hm1⟩ := bsE hm1
     simp only [kk0, e11, e14, e16, xjc, ↓EVd, isCall, sevalprocAttr]
     refine qc (xr1 _ _ h18) rfl ?_
     obtain ⟨e21, hm1⟩ := apE hm1
     try simp only [ZL] at e21
     obtain rfl := Option.some.inj hm1
     simp only [kk0, e11, e14, e16, e21, xjc, ↓EVd, isCall, sevalprocAttr]
     refine TI.here (hI0 _ rfl _ ⟨(x3 + 14), ?_, ?_, ?_, ?_, ?_, ?_, ?_, ?_, ?_⟩)
     all_goals try simp only [kk0, e11, e14, e16, e21, xjc, ↓EVd, isCall, sevalprocAttr]
     all_goals first | omega | exact lq (by omega) | exact nq (by omega) | rfl | (congr 1; omega)
   obtain ⟨v23, e25, hm1⟩ := ixE xjb hm1
   obtain ⟨v26, h27, hm1⟩ := bsE hm1
   simp only [kk0, e11, e14, e16, e25, xjc, ↓EVd, isCall, sevalprocAttr]
   refine qd (xa2 _ _ _ _ _ h27) rfl ?_
   have e28 : (.agg [int v12.ino, .sl 2 (v26.map xc)] : AV) = xjb (⟨v12.ino, v26⟩ : View) := _root_.id rfl
   obtain ⟨e31, hm1⟩ := apE hm1
   try simp only [ZL] at e31
   obtain rfl := Option.some.inj hm1
   simp only [kk0, e11, e14, e16, e25, e28, e31, xjc, ↓EVd, isCall, sevalprocAttr]
   refine TI.here (hI0 _ rfl _ ⟨(x3 + 38), ?_, ?_, ?_, ?_, ?_, ?_, ?_, ?_, ?_⟩)
   all_goals try simp only [kk0, e11, e14, e16, e25, e28, e31, xjc, ↓EVd, isCall, sevalprocAttr]
   all_goals first | omega | exact lq (by omega) | exact nq (by omega) | rfl | (congr 1; omega)
 obtain rfl := Option.some.inj hm1
 simp only [kk0, e11, xjc, ↓EVd, isCall, sevalprocAttr]
 refine TI.here (hJ0_0 _ ⟨v5, l4, ⟨?_, ?_, ?_, ?_⟩, hO0 _ rfl⟩)
 all_goals try simp only [kk0, e11, xjc, ↓EVd, isCall, sevalprocAttr]
 all_goals first | omega | exact lq (by omega) | exact nq (by omega) | rfl | (congr 1; omega)
end Go.Proofs.YtfkgckbdknpcnaaGreatDoor.AL

/- Plain laws, part 0: nodes. -/
set_option linter.all false
namespace Go.Proofs.YtfkgckbdknpcnaaGreatDoor.AL
open Go Go.Proofs
def x9d : Node := ⟨0, 0, 0, 0, [], [], ⟨0, 0, xk, ⟨0, 0, 0⟩, 0⟩⟩
def nodeP (b : Branch) (ino : Int) : Node := if ino < 1 then x9d else if (b.nodes.length : Int) < ino then x9d else (b.nodes[(ino - 1).toNat]?).getD x9d
structure PB (b : Branch) : Prop where
  len : b.nodes.length ≤ 24
  ents : ∀ x ∈ b.nodes, x.entries.length ≤ 16
theorem at_eq {b : Branch} (hb : PB b) (ino : Int) : xwc b ino = some (nodeP b ino) := by
  unfold xwc nodeP
  split
  · rfl
  · split
    · rfl
    · rename_i h1 h2
      have := hb.len
      rw [wr_in (by omega) (by omega), ix_of (by omega) (by omega)]
      have hlt : (ino - 1).toNat < b.nodes.length := by omega
      simp only [Option.bind_some, List.getElem?_eq_getElem hlt, Option.getD_some]
theorem xuj {b : Branch} (hb : PB b) (ino : Int) : (nodeP b ino).entries.length ≤ 16 := by
  unfold nodeP
  split
  · simp [x9d]
  · split
    · simp [x9d]
    · rename_i h1 h2
      have hlt : (ino - 1).toNat < b.nodes.length := by omega
      simp only [List.getElem?_eq_getElem hlt, Option.getD_some]
      exact hb.ents _ (List.getElem_mem hlt)
theorem xyg {b : Branch} {ino : Int} (h : (nodeP b ino).kind = 1) : 1 ≤ ino ∧ ino ≤ (b.nodes.length : Int) := by
  unfold nodeP at h
  split at h
  · simp [x9d] at h
  · split at h
    · simp [x9d] at h
    · omega
end Go.Proofs.YtfkgckbdknpcnaaGreatDoor.AL

/- Plain laws of chapter 17: nodes, roots, parts. -/
set_option linter.all false
namespace Go.Proofs.YtfkgckbdknpcnaaGreatDoor.AL
open Go Go.Proofs
structure NV (x : Node) : Prop where
  ents : x.entries.length ≤ 32
  has0 : 0 ≤ x.attr.has
  has1 : x.attr.has ≤ 31
structure PU (b : Branch) : Prop where
  len : b.nodes.length ≤ 30
  nodes : ∀ x ∈ b.nodes, NV x
structure SV (s : Stack) : Prop where
  up : PU s.upper
  low : PQ s.lowers
theorem NB.nv {x : Node} (h : NB x) : NV x := ⟨Nat.le_trans h.ents (by omega), h.has0, h.has1⟩
theorem SB.sv {s : Stack} (h : SB s) : SV s := ⟨⟨Nat.le_trans h.up.1 (by omega), fun x hx => (h.up.2 x hx).nv⟩, h.pq⟩
theorem SB.pb {s : Stack} (h : SB s) : PB s.upper := ⟨h.up.1, fun x hx => (h.up.2 x hx).ents⟩
theorem xzk (s : Stack) : (⟨(⟨s.geo.lowers, s.geo.inodes, s.geo.blocks, s.geo.log⟩ : Geo), (⟨s.upper.nodes⟩ : Branch), s.lowers⟩ : Stack) = s := rfl
theorem xhw {s : Stack} (h : SV s) (ino : Int) : xie s ino = some (nodeP s.upper ino) := by
  unfold xie nodeP
  split
  · rfl
  · split
    · rfl
    · rename_i h1 h2
      have := h.up.len
      rw [wr_in (by omega) (by omega), ix_of (by omega) (by omega)]
      have hlt : (ino - 1).toNat < s.upper.nodes.length := by omega
      simp only [Option.bind_some, List.getElem?_eq_getElem hlt, Option.getD_some]
theorem atv_eq {s : Stack} (h : SV s) (ino : Int) : xwc s.upper ino = some (nodeP s.upper ino) := by
  rw [← xhw h ino]
  rfl
theorem xv6 : NV x9d := ⟨by simp [x9d], by simp [x9d], by simp [x9d]⟩
theorem x8h {b : Branch} (h : PU b) (ino : Int) : NV (nodeP b ino) := by
  unfold nodeP
  split
  · exact xv6
  · split
    · exact xv6
    · rename_i h1 h2
      have hlt : (ino - 1).toNat < b.nodes.length := by omega
      simp only [List.getElem?_eq_getElem hlt, Option.getD_some]
      exact h.nodes _ (List.getElem_mem hlt)
def opqV (n : Node) : Bool := decide (n.kind = 1) && opqQ n
theorem xahb {n : Node} (h : NV n) : x4d n = some (opqQ n) := by
  have := x1q (n := { n with entries := [] }) ⟨by simp, h.has0, h.has1⟩
  exact this
theorem xiib {n : Node} (h : NV n) : x2d n = some (opqQ n) := by
  have := xtq (n := { n with entries := [] }) ⟨by simp, h.has0, h.has1⟩
  exact this
theorem x7p {n : Node} (h : NV n) : xtd n = some (opqV n) := by
  have e : xtd n = if n.kind = 1 then x4d n else some false := rfl
  rw [e, xahb h]
  unfold opqV
  by_cases hk : n.kind = 1 <;> simp [hk]
theorem xkn {n : Node} (h : NV n) : x6d n = some (opqV n) := by
  unfold x6d
  rw [xiib h]
  unfold opqV
  by_cases hk : n.kind = 1 <;> simp [hk]
def rootV (s : Stack) : View := ⟨if (nodeP s.upper 1).kind = 1 then 1 else 0, if opqV (nodeP s.upper 1) = true then [] else rootsQ s.lowers⟩
theorem xjcb {s : Stack} (h : SV s) : xck s = some (rootV s) := by
  unfold xck rootV
  rw [xzk, xhw h]
  simp only [Option.bind_some]
  rw [x7p (x8h h.up 1), xi4 h.low]
  simp only [Option.bind_some]
  by_cases hk : (nodeP s.upper 1).kind = 1
  · rw [if_pos hk, if_pos hk]
    cases opqV (nodeP s.upper 1) <;> rfl
  · rw [if_neg hk, if_neg hk]
    cases opqV (nodeP s.upper 1) <;> rfl
theorem xwcb {s : Stack} (h : SV s) : xdj s = some (rootV s) := by
  unfold xdj rootV
  rw [atv_eq h]
  simp only [Option.bind_some]
  rw [xkn (x8h h.up 1), xg0 h.low]
  simp only [Option.bind_some]
  by_cases hk : (nodeP s.upper 1).kind = 1
  · rw [if_pos hk, if_pos hk]
    cases opqV (nodeP s.upper 1) <;> rfl
  · rw [if_neg hk, if_neg hk]
    have : ¬ opqV (nodeP s.upper 1) = true := by simp [opqV, hk]
    rw [if_neg this]
theorem xg9 {s : Stack} (h : SV s) : (rootV s).lower.length ≤ 3 := by
  show (if opqV (nodeP s.upper 1) = true then [] else rootsQ s.lowers).length ≤ 3
  split
  · simp
  · exact xzm h.low
theorem bits2 (k : Fin 32) : bAnd .i64 (k.val : Int) 2 = 0 ↔ ¬ (wr ((k.val : Int).tdiv 2)).tmod 2 = 1 := by
  revert k
  decide +kernel
def redB (n : Node) : Bool := decide ((wr (n.attr.has.tdiv 2)).tmod 2 = 1)
theorem xvu {n : Node} (h : NV n) : bAnd .i64 n.attr.has 2 = 0 ↔ ¬ redB n = true := by
  have e : ((n.attr.has.toNat : Nat) : Int) = n.attr.has := by have := h.has0; omega
  have hb := bits2 ⟨n.attr.has.toNat, by have := h.has0; have := h.has1; omega⟩
  simp only [e] at hb
  rw [hb]
  simp [redB]
theorem xl3 {n : Node} (h : NV n) : x0f n.attr 2 = some (redB n) := by
  unfold x0f xfk redB ck
  rw [if_pos h.has0, if_pos (by decide)]
  simp only [Option.bind_some]
  by_cases hq : (wr (n.attr.has.tdiv 2)).tmod 2 = 1
  · rw [if_pos hq]; exact congrArg some (decide_eq_true hq).symm
  · rw [if_neg hq]; exact congrArg some (decide_eq_false hq).symm
theorem xaw (s : ByteArray) : xsc s = some (redirP s) := by
  by_cases h : s.size ≤ 2000000
  · exact x91 h
  · unfold xsc redirP
    rw [if_pos (by omega), if_pos (by omega)]
theorem xct (s : ByteArray) : xkc s = some (redirP s) := by
  by_cases h : s.size ≤ 2000000
  · exact xoy h
  · unfold xkc redirP
    rw [if_pos (by omega), if_pos (by omega)]
theorem x2m (s : ByteArray) : (redirP s).1.length ≤ 1000 := by
  unfold redirP
  split
  · simp
  · split
    · rename_i h1 h2
      unfold splitP
      split
      · simp
      · split
        · have := xhq s; simp only; omega
        · simp
    · split <;> simp
theorem x3m {s : ByteArray} (h : (redirP s).2.2 = true) (h2 : ¬ (redirP s).2.1 = true) : ∃ x, (redirP s).1 = [x] := by
  unfold redirP at h h2 ⊢
  split
  · rename_i h1; rw [if_pos h1] at h; cases h
  · rename_i h1
    rw [if_neg h1] at h h2
    split
    · rename_i h3; rw [if_pos h3] at h h2; exact absurd h h2
    · rename_i h3
      rw [if_neg h3] at h
      split
      · exact ⟨_, rfl⟩
      · rename_i h4; rw [if_neg h4] at h; cases h
def dirsV (s : Stack) (l : List Place) (nm : ByteArray) : List Place := if (findQ s.lowers l nm).1 = 1 then (findQ s.lowers l nm).2 else []
def partV (s : Stack) (v : View) (n : Node) (nm : ByteArray) : List Place :=
  if n.kind = 1 then if opqQ n = true then [] else if redB n = true then
    if (redirP n.attr.redirect).2.2 = true then if (redirP n.attr.redirect).2.1 = true then (lookQ s.lowers (rootsQ s.lowers) (redirP n.attr.redirect).1).1 else dirsV s v.lower ((redirP n.attr.redirect).1.headD xk) else []
    else dirsV s v.lower nm else []
theorem xg6 {s : Stack} (h : SV s) {l : List Place} (hl : l.length ≤ 1000) (nm : ByteArray) : xjd s l nm = some (dirsV s l nm) := by
  unfold xjd dirsV
  rw [xh6 h.low hl]
  simp only [Option.bind_some]
  split <;> rfl
theorem xqhb {s : Stack} (h : SV s) {v : View} (hv : v.lower.length ≤ 1000) {n : Node} (hn : NV n) (nm : ByteArray) : xwf s v n nm = some (partV s v n nm) := by
  unfold xwf partV
  by_cases hk : n.kind = 1
  · rw [if_pos hk, if_pos hk, x7p hn]
    have eo : opqV n = opqQ n := by simp [opqV, hk]
    rw [eo]
    simp only [Option.bind_some]
    by_cases ho : opqQ n = true
    · rw [if_pos ho, if_pos ho]
    · rw [if_neg ho, if_neg ho, if_neg (by have := hn.has0; omega), xg6 h hv]
      simp only [Option.bind_some]
      by_cases hr : redB n = true
      · rw [if_neg (fun e => (xvu hn).1 e hr), if_pos hr, xaw]
        simp only [Option.bind_some]
        by_cases hok : (redirP n.attr.redirect).2.2 = true
        · rw [if_neg (by simp [hok]), if_pos hok]
          by_cases ha : (redirP n.attr.redirect).2.1 = true
          · have hrl := xzm h.low
            rw [if_pos ha, if_pos ha, xi4 h.low]
            simp only [Option.bind_some]
            rw [xagb h.low (by omega) (x2m _)]
            rfl
          · rw [if_neg ha, if_neg ha]
            obtain ⟨x, hx⟩ := x3m hok ha
            rw [hx]
            have : ix [x] 0 = some x := rfl
            rw [this]
            simp only [Option.bind_some, List.headD_cons]
            rw [xg6 h hv]
            rfl
        · rw [if_pos (by simpa using hok), if_neg hok]
      · rw [if_pos ((xvu hn).2 hr), if_neg hr]
  · rw [if_neg hk, if_neg hk]
theorem x3cb {s : Stack} (h : SV s) {v : View} (hv : v.lower.length ≤ 1000) (ino : Int) (nm : ByteArray) : x2i s v ino nm = some (partV s v (nodeP s.upper ino) nm) := by
  unfold x2i
  rw [atv_eq h]
  simp only [Option.bind_some]
  have hn := x8h h.up ino
  generalize nodeP s.upper ino = n at hn
  unfold partV
  by_cases hk : n.kind = 1
  · rw [if_pos hk, if_pos hk, xkn hn]
    have eo : opqV n = opqQ n := by simp [opqV, hk]
    rw [eo]
    simp only [Option.bind_some]
    by_cases ho : opqQ n = true
    · rw [if_pos ho, if_pos ho]
    · rw [if_neg ho, if_neg ho, xl3 hn]
      simp only [Option.bind_some]
      by_cases hr : redB n = true
      · rw [if_pos hr, if_pos hr, xct]
        simp only [Option.bind_some]
        by_cases hok : (redirP n.attr.redirect).2.2 = true
        · rw [if_neg (by simp [hok]), if_pos hok]
          by_cases ha : (redirP n.attr.redirect).2.1 = true
          · have hrl := xzm h.low
            rw [if_pos ha, if_pos ha, xg0 h.low]
            simp only [Option.bind_some]
            rw [xxcb h.low (by omega) (x2m _)]
            rfl
          · rw [if_neg ha, if_neg ha]
            obtain ⟨x, hx⟩ := x3m hok ha
            rw [hx]
            have : ix [x] 0 = some x := rfl
            rw [this]
            simp only [Option.bind_some, List.headD_cons]
            rw [xcw h.low hv]
            simp only [Option.bind_some, dirsV]
            split <;> rfl
        · rw [if_pos (by simpa using hok), if_neg hok]
      · rw [if_neg hr, if_neg hr, xcw h.low hv]
        simp only [Option.bind_some, dirsV]
        split <;> rfl
  · rw [if_neg hk, if_neg hk]
theorem xq0 (s : Stack) (l : List Place) (nm : ByteArray) : (dirsV s l nm).length ≤ l.length := by
  unfold dirsV
  split
  · exact xso _ _ _
  · simp
theorem xebb {s : Stack} (h : SV s) {v : View} {m : Nat} (hv : v.lower.length ≤ m) (hm : 3 ≤ m) (n : Node) (nm : ByteArray) : (partV s v n nm).length ≤ m := by
  unfold partV
  split
  · split
    · simp
    · split
      · split
        · split
          · have h1 := xl0 (bs := s.lowers) (redirP n.attr.redirect).1 (rootsQ s.lowers)
            have h2 := xzm h.low
            omega
          · exact Nat.le_trans (xq0 _ _ _) hv
        · simp
      · exact Nat.le_trans (xq0 _ _ _) hv
  · simp
theorem x29 {s : Stack} {v : View} {n : Node} {nm : ByteArray} (h : opqV n = true) : partV s v n nm = [] := by
  unfold opqV at h
  simp only [Bool.and_eq_true, decide_eq_true_eq] at h
  unfold partV
  rw [if_pos h.1, if_pos h.2]
end Go.Proofs.YtfkgckbdknpcnaaGreatDoor.AL

/- AL: the program's own cells, where all cells are kept; written by g0.py. -/
set_option linter.all false
namespace Go.Proofs.YtfkgckbdknpcnaaGreatDoor.AL
open Go Go.Proofs Go.RowKit
theorem xdeb {w : World} {b o : Nat} {v : Value} (h : w.cell? ⟨b, o, none⟩ = some v) : ∃ ob, w.heap[b]? = some ob ∧ ob.isCells = true := by
  unfold World.cell? at h
  simp only at h
  split at h
  · rename_i c T fr hb
    exact ⟨_, hb, rfl⟩
  · cases h
theorem GW.keep {w w' : World} (h : GW w) (hs : w.heap.size ≤ w'.heap.size) (hk : ∀ b o, b < gN → w.heap[b]? = some o → o.isCells = true → w'.heap[b]? = some o) : GW w' := by
  obtain ⟨h0, ⟨m0, h1⟩⟩ := h
  refine ⟨Nat.le_trans h0 hs, ⟨m0, ?_⟩⟩
  · obtain ⟨ob, ho, hc⟩ := xdeb h1
    exact (World.cell?_of_block (a := ⟨0, 0, none⟩) ((hk 0 ob (by unfold gN; omega) ho hc).trans ho.symm)).trans h1
end Go.Proofs.YtfkgckbdknpcnaaGreatDoor.AL

/- AL: the walk of an iterator: whatever the rounds do to the world is told by a word JJ of its own. -/
set_option linter.all false
namespace Go.Proofs.YtfkgckbdknpcnaaGreatDoor.AL
open Go.RowKit
mutual
def posz : AV → Bool
  | .val _ => true
  | .agg cs => poszs cs
  | .tup cs => poszs cs
  | .sl sz xs => decide (0 < sz) && poszs xs
  | .ptr x _ => posz x && (match x with
    | .agg cs => !cs.isEmpty
    | x => x.one)
  | .fn _ a b => poszs a && poszs b
  | .ifc _ x => posz x
  | .e0 => true
  | .junk => true
  | _ => false
def poszs : List AV → Bool
  | [] => true
  | x :: xs => posz x && poszs xs
end
def Zc (Z : Nat → Prop) (w : World) (b : Nat) : Prop := Z b ∧ ∃ o, w.heap[b]? = some o ∧ o.isCells = true
theorem x8q {w : World} {b o : Nat} {v : Value} (h : w.cell? ⟨b, o, none⟩ = some v) : ∃ ob, w.heap[b]? = some ob ∧ ob.isCells = true := by
  unfold World.cell? at h
  simp only at h
  split at h
  · rename_i c T fr hb
    exact ⟨_, hb, rfl⟩
  · cases h
mutual
theorem VRep.cellsZ {Z : Nat → Prop} {w : World} : ∀ (x : AV) (u : Value), posz x = true → VRep (Ec Z w) x u → VRep (Ec (Zc Z w) w) x u
  | .val v, u, _, h => by simpa only [VRep] using h
  | .agg cs, u, hc, h => by
    simp only [VRep] at h ⊢
    obtain ⟨us, h1, h2⟩ := h
    exact ⟨us, VReps.cellsZ cs us (by simpa only [posz] using hc) h1, h2⟩
  | .tup cs, u, hc, h => by
    simp only [VRep] at h ⊢
    obtain ⟨us, h1, h2⟩ := h
    exact ⟨us, VReps.cellsZ cs us (by simpa only [posz] using hc) h1, h2⟩
  | .sl sz xs, u, hc, h => by
    simp only [posz, Bool.and_eq_true, decide_eq_true_eq] at hc
    simp only [VRep] at h ⊢
    obtain ⟨us, A, cap, h1, h2, h3, h4⟩ := h
    refine ⟨us, A, cap, VReps.cellsZ xs us hc.2 h1, h2, h3, ?_⟩
    rcases h4 with h4 | ⟨b, o, g1, g2, g3⟩
    · exact .inl h4
    · cases us with
      | nil => exact .inl rfl
      | cons u0 us' =>
        obtain ⟨k1, k2, k3⟩ := g3 0 u0 rfl
        have hlt : 0 < u0.cells.size := by omega
        have := k3 0 u0.cells[0] (by simp [hlt])
        obtain ⟨ob, hob⟩ := x8q this
        exact .inr ⟨b, o, g1, ⟨g2, ob, hob⟩, g3⟩
  | .ptr x off, u, hc, h => by
    simp only [posz, Bool.and_eq_true] at hc
    simp only [VRep] at h ⊢
    obtain ⟨v, b, o, h1, h2, h3, h4⟩ := h
    have hne : 0 < v.cells.size := by
      have hx : x.one = true ∨ ∃ cs, x = .agg cs := by
        cases x <;> first
          | exact .inr ⟨_, rfl⟩
          | exact .inl hc.2
      have := (h1.cells hx).length
      have hl : 0 < x.cells.length := by
        cases x <;> simp_all [AV.cells]
        cases ‹List AV› <;> simp_all
      simp at this
      omega
    have := h4 0 v.cells[0] (by simp [hne])
    obtain ⟨ob, hob⟩ := x8q this
    exact ⟨v, b, o, VRep.cellsZ x v hc.1 h1, h2, ⟨h3, ob, hob⟩, h4⟩
  | .fn f fi ca, u, hc, h => by
    simp only [posz, Bool.and_eq_true] at hc
    simp only [VRep] at h ⊢
    obtain ⟨a, b, h1, h2, h3⟩ := h
    exact ⟨a, b, VReps.cellsZ fi a hc.1 h1, VReps.cellsZ ca b hc.2 h2, h3⟩
  | .ifc t x, u, hc, h => by
    simp only [VRep] at h ⊢
    obtain ⟨v, h1, h2⟩ := h
    exact ⟨v, VRep.cellsZ x v (by simpa only [posz] using hc) h1, h2⟩
  | .e0, u, _, h => by simpa only [VRep] using h
  | .junk, u, _, h => by simp only [VRep]
  | .loc .., _, hc, _ => by simp [posz] at hc
  | .msl .., _, hc, _ => by simp [posz] at hc
  | .mp .., _, hc, _ => by simp [posz] at hc
  | .mtl .., _, hc, _ => by simp [posz] at hc
theorem VReps.cellsZ {Z : Nat → Prop} {w : World} : ∀ (xs : List AV) (us : List Value), poszs xs = true → VReps (Ec Z w) xs us → VReps (Ec (Zc Z w) w) xs us
  | [], us, _, h => by simpa only [VReps] using h
  | x :: xs, us, hc, h => by
    simp only [poszs, Bool.and_eq_true] at hc
    simp only [VReps] at h ⊢
    obtain ⟨u, us', h1, h2, h3⟩ := h
    exact ⟨u, us', VRep.cellsZ x u hc.1 h1, VReps.cellsZ xs us' hc.2 h2, h3⟩
end
section
variable {P : Program} {n : Nat} {σ : Type} (live : σ → Bool) (JJ : σ → World → Prop) (Zx : σ → Nat → Prop)
def SYl (n : Nat) (s : AS) (y : σ) (a : Act) (w : World) : Prop :=
  ∃ (C : Ctx) (E0 : Env) (k0 : Nat) (E : Env), JJ y C.w0 ∧ C.base = C.w0.heap.size ∧ k0 ≤ s.nx ∧ SR C E0 k0 n s a E ∧ E.w = w ∧ (∀ b, C.zone b → ¬ Zx y b) ∧ (∀ b, Zx y b → b < C.base)
def SYd (n : Nat) (s : AS) (y : σ) (a : Act) (w : World) : Prop :=
  JJ y w ∧ a.tmps.size = n ∧ a.defers = [] ∧ ∀ t, VRep (Ec (fun _ => False) w) (s.T t) (a.tmps.getD t undef)
def SY (n : Nat) (s : AS) (y : σ) (a : Act) (w : World) : Prop := if live y = true then SYl JJ Zx n s y a w else SYd JJ n s y a w
def wY (P : Program) (n : Nat) (c : Code) (Q : Exit → AS → σ → Prop) (s : AS) (y : σ) : Prop :=
  ∀ (a : Act) (w : World), SY live JJ Zx n s y a w → c.wp P (fun e a' w' => ∃ s' y', Q e s' y' ∧ SY live JJ Zx n s' y' a' w') a w
def cY (P : Program) (n : Nat) (x : AC) (Q : Exit → AS → σ → Prop) (s : AS) (y : σ) : Prop := ∀ c, comp n c = some x → wY live JJ Zx P n c Q s y
def yQ (next : AS → σ → Prop) (Q : Exit → AS → σ → Prop) : Exit → AS → σ → Prop
  | .normal, s, y => next s y
  | e, s, y => Q e s y
def byQ (id : Nat) (Q : Exit → AS → σ → Prop) : Exit → AS → σ → Prop
  | .exit id', s, y => if id' = id then Q .normal s y else Q (.exit id') s y
  | e, s, y => Q e s y
def gyQ (Q : Exit → AS → σ → Prop) : Exit → AS → σ → Prop
  | .goto _, _, _ => False
  | e, s, y => Q e s y
variable {live JJ Zx} {Q : Exit → AS → σ → Prop} {s : AS} {y : σ}
theorem xhz {a : Act} {w : World} (h : live y = true) (hS : SY live JJ Zx n s y a w) : SYl JJ Zx n s y a w := by unfold SY at hS; rwa [if_pos h] at hS
theorem SYl_SY {a : Act} {w : World} (h : live y = true) (hS : SYl JJ Zx n s y a w) : SY live JJ Zx n s y a w := by unfold AL.SY; rwa [if_pos h]
theorem cY_of {x : AC} {Q' : Exit → AS → Prop} (hy : live y = true) (h : cwp P n x Q' s) (hq : ∀ e s', Q' e s' → Q e s' y) : cY live JJ Zx P n x Q s y := by
  intro c hc a w hSY
  obtain ⟨C, E0, k0, E, hJ, hb, hk, hS, rfl, hz⟩ := xhz hy hSY
  refine wp_mono (h c hc C E0 k0 E a hk hS) ?_
  rintro e a' w' ⟨s', E', h1, h2, h3, rfl⟩
  exact ⟨s', y, hq e s' h1, SYl_SY hy ⟨C, E0, k0, E', hJ, hb, h2, h3, rfl, hz⟩⟩
theorem cY_seq {x z : AC} (h : cY live JJ Zx P n x (yQ (fun s' y' => cY live JJ Zx P n z Q s' y') Q) s y) : cY live JJ Zx P n (.seq x z) Q s y := by
  intro c hc a w hS
  obtain ⟨c1, c2, rfl, h1, h2⟩ := xwq hc
  refine wp_seq (wp_mono (h c1 h1 a w hS) ?_)
  rintro e a' w' ⟨s', y', g1, g2⟩
  cases e with
  | normal => exact g1 c2 h2 a' w' g2
  | exit id => exact ⟨s', y', g1, g2⟩
  | goto l => exact ⟨s', y', g1, g2⟩
  | ret => exact ⟨s', y', g1, g2⟩
  | panic ch => exact ⟨s', y', g1, g2⟩
  | outgrown => exact ⟨s', y', g1, g2⟩
theorem xbn {x z : AC} {o : Operand} {b : Bool} (hb : ev s.T o = .val (.bool b)) (h : if b = true then cY live JJ Zx P n x Q s y else cY live JJ Zx P n z Q s y) : cY live JJ Zx P n (.cond o x z) Q s y := by
  intro c hc a w hS
  obtain ⟨c1, c2, rfl, h1, h2⟩ := xds hc
  have hS' := hS
  have he : a.eval o = .bool b := by
    unfold SY at hS
    split at hS
    · obtain ⟨C, E0, k0, E, hJ, hb', hk, hSR, rfl, hz⟩ := hS
      have he := ev_rep hSR.tmps o
      rw [hb] at he
      simpa only [VRep] using he
    · have he := ev_rep hS.2.2.2 o
      rw [hb] at he
      simpa only [VRep] using he
  refine wp_cond_split he (fun e => ?_) (fun e => ?_)
  · subst e; simp only [if_true] at h; exact h c1 h1 a _ hS'
  · subst e; simp only [Bool.false_eq_true, if_false] at h; exact h c2 h2 a _ hS'
theorem xnz (h : Q .normal s y) : cY live JJ Zx P n .skip Q s y := fun c hc a w hS => by rw [xvs hc]; exact wp_skip ⟨s, y, h, hS⟩
theorem xfy {id : Nat} (h : Q (.exit id) s y) : cY live JJ Zx P n (.exit id) Q s y := fun c hc a w hS => by rw [xmt hc]; exact wp_exit ⟨s, y, h, hS⟩
theorem x1p {id : Nat} {x : AC} (h : cY live JJ Zx P n x (byQ id Q) s y) : cY live JJ Zx P n (.block id x) Q s y := by
  intro c hc a w hS
  obtain ⟨c1, rfl, h1⟩ := xeq hc
  refine wp_block (wp_mono (h c1 h1 a w hS) ?_)
  rintro e a' w' ⟨s', y', g1, g2⟩
  cases e with
  | exit id' =>
    simp only [byQ] at g1
    simp only [Exit.inBlock]
    split
    · rename_i e; rw [if_pos e] at g1; exact ⟨s', y', g1, g2⟩
    · rename_i e; rw [if_neg e] at g1; exact ⟨s', y', g1, g2⟩
  | normal => exact ⟨s', y', g1, g2⟩
  | goto l => exact ⟨s', y', g1, g2⟩
  | ret => exact ⟨s', y', g1, g2⟩
  | panic ch => exact ⟨s', y', g1, g2⟩
  | outgrown => exact ⟨s', y', g1, g2⟩
theorem x1eb {x : AC} (h : cY live JJ Zx P n x (gyQ Q) s y) : cY live JJ Zx P n (.scope x) Q s y := by
  intro c hc a w hS
  obtain ⟨c1, rfl, h1⟩ := x8p hc
  refine wp_scope_straight (wp_mono (h c1 h1 a w hS) ?_)
  rintro e a' w' ⟨s', y', g1, g2⟩
  cases e with
  | goto l => exact g1.elim
  | normal => exact ⟨s', y', g1, g2⟩
  | exit id => exact ⟨s', y', g1, g2⟩
  | ret => exact ⟨s', y', g1, g2⟩
  | panic ch => exact ⟨s', y', g1, g2⟩
  | outgrown => exact ⟨s', y', g1, g2⟩
open Classical in
theorem xk6 {x : AC} (I : Nat → AS → σ → Prop) (k : Nat) (h0 : I k s y) (zero : ∀ s y, ¬ I 0 s y) (round : ∀ k s y, I (k + 1) s y → cY live JJ Zx P n x (yQ (I k) Q) s y) : cY live JJ Zx P n (.loop x) Q s y := by
  intro c hc a w hS
  obtain ⟨c1, rfl, h1⟩ := x3z hc
  let p : Act → World → Nat → Prop := fun a w m => ∃ s y, I m s y ∧ SY live JJ Zx n s y a w
  let μ' : Act → World → Nat := fun a w => if h : ∃ m, p a w m then Classical.choose (x7b h) else 0
  have hμ : ∀ a w, (∃ m, p a w m) → p a w (μ' a w) ∧ ∀ k, p a w k → μ' a w ≤ k := by
    intro a w h
    simp only [μ', dif_pos h]
    exact Classical.choose_spec (x7b h)
  refine wp_loop (fun a w => ∃ m, p a w m) μ' ⟨k, s, y, h0, hS⟩ ?_
  intro a w hI
  obtain ⟨⟨s1, y1, g1, g2⟩, _⟩ := hμ a w hI
  generalize hm : μ' a w = m at g1
  cases m with
  | zero => exact absurd g1 (zero s1 y1)
  | succ m =>
    refine wp_mono (round m s1 y1 g1 c1 h1 a w g2) ?_
    rintro e a' w' ⟨s', y', q1, q2⟩
    cases e with
    | normal =>
      have hp : p a' w' m := ⟨s', y', q1, q2⟩
      refine ⟨⟨m, hp⟩, ?_⟩
      have := (hμ a' w' ⟨m, hp⟩).2 m hp
      omega
    | exit id => exact ⟨s', y', q1, q2⟩
    | goto l => exact ⟨s', y', q1, q2⟩
    | ret => exact ⟨s', y', q1, q2⟩
    | panic ch => exact ⟨s', y', q1, q2⟩
    | outgrown => exact ⟨s', y', q1, q2⟩
end
def keepT (T : Nat → AV) : Nat → AV := fun t => if closed (T t) = true ∧ posz (T t) = true then T t else .junk
theorem xej {T : Nat → AV} {t : Nat} {x : AV} (h : T t = x) (h1 : closed x = true) (h2 : posz x = true) : keepT T t = x := by
  subst h
  unfold keepT
  rw [if_pos ⟨h1, h2⟩]
section
variable {P : Program} {n : Nat} {σ : Type} {live : σ → Bool} {JJ : σ → World → Prop} {Zx : σ → Nat → Prop} {Q : Exit → AS → σ → Prop} {s : AS} {y : σ}
def xwfb (T Tb tx d1 d2 d3 d4 : Nat) : AC := .region [⟨.move (.tmp 0), some d1, none⟩, ⟨.load T (.tmp tx), some d2, none⟩, ⟨.call (Go.Call.mk (.value (.tmp d1)) #[.tmp d2] #[T]), some d3, none⟩, ⟨.unOp .not Tb (.tmp d3), some d4, none⟩]
theorem xnl {ops : Array Oper} {o : Oper} {x : O1} (h : resolve1 ops o = some x) (hx : x.g = none) : o.guard = none ∧ o.op = x.op ∧ o.dst = x.dst := by
  have h2 := xhk h
  unfold resolve1 at h
  split at h
  · rename_i hg
    exact ⟨hg, h2.1.symm, h2.2.symm⟩
  · split at h
    · injection h with h
      subst h
      cases hx
    · cases h
theorem xlk {ops : Array Oper} {l : List Oper} {x : O1} {xs : List O1} (h : xib ops l = some (x :: xs)) : ∃ o l', l = o :: l' ∧ resolve1 ops o = some x ∧ xib ops l' = some xs := by
  cases l with
  | nil => simp [xib] at h
  | cons o l =>
    simp only [xib] at h
    split at h
    · rename_i x' xs' g1 g2
      injection h with h
      injection h with e1 e2
      subst e1; subst e2
      exact ⟨o, l, rfl, g1, g2⟩
    · cases h
theorem xh2 {ops : Array Oper} {l : List Oper} (h : xib ops l = some []) : l = [] := by
  cases l with
  | nil => rfl
  | cons o l =>
    simp only [xib] at h
    split at h
    · injection h with h; cases h
    · cases h
theorem SY.round {y' : σ} {C : Ctx} {E0 : Env} {k0 : Nat} {E : Env} {a : Act} {T : Nat → AV} {H : Nat → Option AO} {nx : Nat} (hS : SR C E0 k0 n ⟨T, H, nx⟩ a E) (hz : ∀ b, C.zone b → ¬ Zx y b) (hx : ∀ b, Zx y b → b < C.base) (hsub : ∀ b, Zx y' b → Zx y b) {W' : World}
    (hlv : live y' = true) (hG : GW W') (hJ : JJ y' W') (hsz : E.w.heap.size ≤ W'.heap.size) (hkeep : ∀ b o, ¬ Zx y b → E.w.heap[b]? = some o → o.isCells = true → W'.heap[b]? = some o) :
    SY live JJ Zx n ⟨keepT T, fun _ => none, nx⟩ y' a W' := by
  let Z' := Zc E.Z E.w
  have hzx : ∀ b, E.Z b → ¬ Zx y b := by
    intro b hb hxb
    rcases hS.heap.zsrc b hb with h | h
    · exact hz b h hxb
    · have := hx b hxb; omega
  have hsame : ∀ b, Z' b → W'.heap[b]? = E.w.heap[b]? := by
    rintro b ⟨hb, o, ho, hc⟩
    rw [ho]
    exact hkeep b o (hzx b hb) ho hc
  have hlt : ∀ b, Z' b → b < W'.heap.size := fun b hb => by have := hS.heap.zlt b hb.1; omega
  let E' : Env := Ec Z' W'
  refine SYl_SY hlv ⟨{ base := W'.heap.size, w0 := W', zone := Z', gw := hG, gb := hG.size }, E', nx, E', hJ, rfl, Nat.le_refl _, ?_, rfl, fun b hb h => hzx b hb.1 (hsub b h), fun b hb => by have := hx b (hsub b hb); have := hS.heap.base; show b < W'.heap.size; omega⟩
  refine ⟨⟨Below.refl _ _, Nat.le_refl _, hlt, fun b _ l c e => by simp [E', Ec] at e, fun b hb => .inl hb, fun l => rfl, fun l x e => by simp [E', Ec] at e, fun l l' b c c' e => by simp [E', Ec] at e, fun l o p e => by simp at e, fun l b c e => by simp [E', Ec] at e⟩, Stab.refl _, fun l k => k.elim, fun l k => .inl k, hS.size, hS.defers, ?_⟩
  intro t
  have ht := hS.tmps t
  simp only [keepT]
  split
  · rename_i hc
    obtain ⟨h1, h2⟩ := hc
    have h3 := VRep.close (Z := E.Z) (fun b hb => hb) _ _ h1 ht
    have h4 := VRep.cellsZ _ _ h2 h3
    exact VRep.stab (E := Ec Z' E.w) (E' := E') ⟨fun _ h => h, fun _ h => h.elim, fun b hb => ⟨hb, hsame b hb⟩⟩ _ _ h4
  · simp only [VRep]
theorem SY.dead {y' : σ} {C : Ctx} {E0 : Env} {k0 : Nat} {E : Env} {a : Act} (hS : SR C E0 k0 n s a E) {W' : World} (hlv : live y' = false) (hJ : JJ y' W') :
    SY live JJ Zx n ⟨fun _ => .junk, fun _ => none, s.nx⟩ y' a W' := by
  unfold AL.SY
  rw [if_neg (by rw [hlv]; simp)]
  exact ⟨hJ, hS.size, hS.defers, fun t => by simp only [VRep]⟩
theorem SY.put {T : Nat → AV} {H : Nat → Option AO} {nx : Nat} {a : Act} {w : World} (h : SY live JJ Zx n ⟨T, H, nx⟩ y a w) {d : Nat} (hd : d < n) {x : AV} {v : Value} (hv : ∀ E, VRep E x v) : SY live JJ Zx n ⟨upd T d x, H, nx⟩ y (a.put (some d) v) w := by
  unfold AL.SY at h ⊢
  split at h
  · rename_i hl
    rw [if_pos hl]
    obtain ⟨C, E0, k0, E, hJ, hb, hk, hS, rfl, hz⟩ := h
    exact ⟨C, E0, k0, E, hJ, hb, hk, ⟨hS.heap, hS.stab, hS.bound, hS.fresh, by rw [x8i]; exact hS.size, by rw [xyc]; exact hS.defers, xij hS.tmps hS.size (d := some d) (fun x e => by cases e; exact hd) (hv E)⟩, rfl, hz⟩
  · rename_i hl
    rw [if_neg hl]
    obtain ⟨h1, h2, h3, h4⟩ := h
    exact ⟨h1, by rw [x8i]; exact h2, by rw [xyc]; exact h3, xij h4 h2 (d := some d) (fun x e => by cases e; exact hd) (hv _)⟩
theorem xyv {B : Nat} {w w' : World} (h : Below B w w') (hB : B = w.heap.size) : w.grownBy w' none := by
  subst hB
  exact ⟨h.os, h.tape, h.output, h.size, fun k hk _ => h.block k hk⟩
theorem xaq {ops : Array Oper} (h : fits n ops = true) {o : Oper} (ho : o ∈ ops.toList) {d : Nat} (hd : o.dst = some d) : d < n := by
  have := List.all_eq_true.1 h o ho
  simpa [hd] using this
theorem xvbb {T Tb tx d1 d2 d3 d4 l m : Nat} {u : Value} {x : AV} {yT yF : σ} {S : AS}
    (hly : live y = true) (hlT : live yT = true) (hlF : live yF = false) (hGW : ∀ W, JJ yT W → GW W) (hab : ∀ y W W', JJ y W → W.grownBy W' none → JJ y W')
    (h0 : S.T 0 = .fn (.yield l) [] []) (e1 : tx ≠ d1) (e2 : d1 ≠ d2) (hx : xxc P T S.H (S.T tx) = some x) (hu : ∀ E v, VRep E x v → v = u)
    (hY : ∀ W, JJ y W → YieldAt Fence.wide m P l #[u] W fun e W' => (e = .returned (.bool true) ∧ JJ yT W' ∧ W.heap.size ≤ W'.heap.size ∧ ∀ b o, ¬ Zx y b → W.heap[b]? = some o → o.isCells = true → W'.heap[b]? = some o) ∨ (e = .returned (.bool false) ∧ JJ yF W'))
    (hsub : ∀ b, Zx yT b → Zx y b)
    (hT : Q .normal ⟨upd (upd (upd (upd (keepT S.T) d1 .junk) d2 .junk) d3 (.val (.bool true))) d4 (.val (.bool false)), fun _ => none, S.nx⟩ yT)
    (hF : Q .normal ⟨upd (upd (upd (upd (fun _ => .junk) d1 .junk) d2 .junk) d3 (.val (.bool false))) d4 (.val (.bool true)), fun _ => none, S.nx⟩ yF) :
    cY live JJ Zx P n (xwfb T Tb tx d1 d2 d3 d4) Q S y := by
  intro c hc a w hSY
  obtain ⟨C, E0, k0, E, hJ, hb, hk, hS, rfl, hz, hzx⟩ := xhz hly hSY
  obtain ⟨id, ops, rfl, hfit, hres⟩ := xyo hc
  obtain ⟨o0, l0, hl0, r0, hres⟩ := xlk hres
  obtain ⟨o1, l1, rfl, r1, hres⟩ := xlk hres
  obtain ⟨o2, l2, rfl, r2, hres⟩ := xlk hres
  obtain ⟨o3, l3, rfl, r3, hres⟩ := xlk hres
  obtain rfl := xh2 hres
  obtain ⟨g0, p0, q0⟩ := xnl r0 rfl
  obtain ⟨g1, p1, q1⟩ := xnl r1 rfl
  obtain ⟨g2, p2, q2⟩ := xnl r2 rfl
  obtain ⟨g3, p3, q3⟩ := xnl r3 rfl
  have n1 : d1 < n := xaq hfit (by rw [hl0]; simp) q0
  have n2 : d2 < n := xaq hfit (o := o1) (by rw [hl0]; simp) q1
  have n3 : d3 < n := xaq hfit (o := o2) (by rw [hl0]; simp) q2
  have n4 : d4 < n := xaq hfit (o := o3) (by rw [hl0]; simp) q3
  have hw : ∀ (o : Oper) (p : Nat → Option Bool), o.guard = none → Region.wanted o p = true := fun o p h => by simp [Region.wanted, h]
  have hv0 : a.tmps.getD 0 undef = .func (.yield l) #[] #[] := by
    have := hS.tmps 0
    rw [h0] at this
    simp only [VRep, VReps] at this
    obtain ⟨_, _, rfl, rfl, h⟩ := this
    exact h
  refine (wpIn_wide (n := m + 1)).1 (wpIn_region_list ?_)
  rw [hl0]
  simp only [wpListIn, hw _ _ g0, hw _ _ g1, hw _ _ g2, hw _ _ g3, if_true]
  have hro : Fence.wide.round = none := rfl
  refine ⟨fun _ _ => trivial, ?_⟩
  rw [hro, Oper.semAt_none]
  have run0 : (execOp a.eval o0).run P E.w = .ok (.value (.func (.yield l) #[] #[])) E.w := by
    have : a.eval (.tmp 0) = .func (.yield l) #[] #[] := hv0
    simp [execOp, p0, this]
  rw [run0, Oper.uponIn_value, q0]
  refine ⟨fun _ _ => trivial, ?_⟩
  rw [hro, Oper.semAt_none]
  obtain ⟨z, hz1, hz2⟩ := xzl (P := P) hS.heap (fun _ _ e => e) (hS.tmps tx) hx
  obtain rfl := hu _ _ hz2
  have ev1 : (a.put (some d1) (.func (.yield l) #[] #[])).eval (.tmp tx) = a.tmps.getD tx undef := by
    simp [Act.put, Act.eval, Array.getElem?_setIfInBounds_ne (Ne.symm e1)]
  have run1 : (execOp (a.put (some d1) (.func (.yield l) #[] #[])).eval o1).run P E.w = .ok (.value z) E.w := by
    simp only [execOp, p1, ev1, Sem.run_bind, hz1, Result.andThen_ok, Sem.run_pure]
  rw [run1, Oper.uponIn_value, q1]
  refine ⟨fun _ _ => trivial, ?_⟩
  rw [hro, Oper.semAt_none]
  have hJ' : JJ y E.w := hab y _ _ hJ (xyv hS.heap.below hb)
  obtain ⟨fn, tm, asg, bo, hrun, hround⟩ := hY E.w hJ'
  have hsz : (a.tmps.setIfInBounds d1 (.func (.yield l) #[] #[])).size = n := by simp [hS.size]
  have ev2 : ((a.put (some d1) (.func (.yield l) #[] #[])).put (some d2) z).eval (.tmp d1) = .func (.yield l) #[] #[] := by
    simp [Act.put, Act.eval, Array.getElem?_setIfInBounds_ne (Ne.symm e2), Array.getElem_setIfInBounds, Ne.symm e2, hS.size, n1]
  have ev3 : ((a.put (some d1) (.func (.yield l) #[] #[])).put (some d2) z).eval (.tmp d2) = z := by
    simp [Act.put, Act.eval, hS.size, n2]
  have run2 : (execOp ((a.put (some d1) (.func (.yield l) #[] #[])).put (some d2) z).eval o2).run P E.w = .ok (.round l fn tm asg bo) E.w := by
    simp only [execOp, p2, resolve, ev2, ev3, Sem.run_bind, Sem.run_pure, Result.andThen_ok, Deferred.ofValue, invoke]
    simpa [ev3, invoke] using hrun
  rw [run2, Oper.uponIn_round, q2]
  refine ⟨fun h => by simp [Fence.wide] at h, ?_⟩
  refine RoundIn.mono (by simpa using hround) ?_
  rintro e W' (⟨rfl, k1, k2, k3⟩ | ⟨rfl, k1⟩)
  · refine ⟨fun _ _ => trivial, ?_⟩
    rw [hro, Oper.semAt_none]
    have run3 : (execOp ((((a.put (some d1) (.func (.yield l) #[] #[])).put (some d2) z).put (some d3) (.bool true))).eval o3).run P W' = .ok (.value (.bool false)) W' := by
      have : ((((a.put (some d1) (.func (.yield l) #[] #[])).put (some d2) z).put (some d3) (.bool true))).eval (.tmp d3) = .bool true := by simp [Act.put, Act.eval, hS.size, n3]
      simp [execOp, p3, this, Op.unary]
    rw [run3, Oper.uponIn_value, q3]
    refine ⟨_, yT, hT, ?_⟩
    refine SY.put (SY.put (SY.put (SY.put (SY.round (T := S.T) (H := S.H) (nx := S.nx) hS hz hzx hsub hlT (hGW _ k1) k1 k2 k3) n1 (fun E => by simp only [VRep])) n2 (fun E => by simp only [VRep])) n3 (fun E => by simp only [VRep])) n4 (fun E => by simp only [VRep])
  · refine ⟨fun _ _ => trivial, ?_⟩
    rw [hro, Oper.semAt_none]
    have run3 : (execOp ((((a.put (some d1) (.func (.yield l) #[] #[])).put (some d2) z).put (some d3) (.bool false))).eval o3).run P W' = .ok (.value (.bool true)) W' := by
      have : ((((a.put (some d1) (.func (.yield l) #[] #[])).put (some d2) z).put (some d3) (.bool false))).eval (.tmp d3) = .bool false := by simp [Act.put, Act.eval, hS.size, n3]
      simp [execOp, p3, this, Op.unary]
    rw [run3, Oper.uponIn_value, q3]
    refine ⟨_, yF, hF, ?_⟩
    refine SY.put (SY.put (SY.put (SY.put (SY.dead hS hlF k1) n1 (fun E => by simp only [VRep])) n2 (fun E => by simp only [VRep])) n3 (fun E => by simp only [VRep])) n4 (fun E => by simp only [VRep])
end
end Go.Proofs.YtfkgckbdknpcnaaGreatDoor.AL

/- AL: straight text in a round of a range over a function, and behind one. -/
set_option linter.all false
namespace Go.Proofs.YtfkgckbdknpcnaaGreatDoor.AL
open Go.RowKit
def Fl (ro : Option Nat) : Fence := { Fence.wide with round := ro }
theorem xe7 {ro : Option Nat} {n : Nat} {P : Program} {f : FuncId} {args : Array Value} {w : World} {R : Ending → World → Prop} (h : Calls P f args w R) : CallsIn (Fl ro) n P f args w R := (callsIn_wide (n := n)).2 h
theorem x68 {ro : Option Nat} {n : Nat} {P : Program} {row : String} {args : Array Value} {w : World} {R : Value → World → Prop} (h : Rows P row args w R) : RowsIn (Fl ro) n P row args w R := fun c cs _ => let ⟨v, w', r, s⟩ := h c cs; ⟨v, w', r, stepsIn_wide.2 s⟩
section
variable {P : Program} {ops : Array Oper} {Q Q' : Exit → Act → World → Prop}
theorem xmr (hq : ∀ a w, Q .normal a w → a.defers = []) (hp : ∀ ch a w, ¬ Q (.panic ch) a w) (ho : ¬ LetsOut Q) : ∀ (l : List Oper) (a : Act) (w : World), wpList P ops Q l a w → a.defers = []
  | [], a, w, h => hq a w h
  | o :: rest, a, w, h => by
    have ih := xmr hq hp ho rest
    unfold wpList at h
    split at h
    · rcases h with h | h
      · unfold Oper.wp Oper.upon at h
        split at h
        · exact (xyc (d := o.dst)).symm.trans (ih _ _ h)
        · exact (xyc (d := o.dst)).symm.trans (ih _ _ h)
        · have := (xyc (d := o.dst)).symm.trans (ih _ _ h)
          cases this
        · obtain ⟨e, w', fr, h1, _⟩ := h []
          cases e with
          | returned v => exact (xyc (d := o.dst)).symm.trans (ih _ _ h1)
          | panicked ch => exact (hp _ _ _ h1).elim
          | outgrown => exact (ho h1).elim
        · obtain ⟨v, w', h1, _⟩ := h default []
          exact (xyc (d := o.dst)).symm.trans (ih _ _ h1)
        · exact (hp _ _ _ h).elim
        · exact h.elim
      · exact (ho h.2).elim
    · exact (xyc (d := o.dst)).symm.trans (ih _ _ h)
theorem xfn (a : Act) (ds : List Deferred) (d : Option Tmp) (v : Value) : ({ a with defers := ds } : Act).put d v = { a.put d v with defers := ds } := by cases d <;> rfl
theorem xis (a : Act) (ds : List Deferred) : ({ a with defers := ds } : Act).eval = a.eval := by funext o; cases o <;> rfl
theorem xbv {ro : Option Nat} {m : Nat} {ds : List Deferred} (hq : ∀ a w, Q .normal a w → a.defers = [] ∧ Q' .normal { a with defers := ds } w) (hp : ∀ ch a w, ¬ Q (.panic ch) a w) (ho : ¬ LetsOut Q) :
    ∀ (l : List Oper), (∀ o ∈ l, ∀ c, o.op ≠ .defer c) → ∀ (a : Act) (w : World), wpList P ops Q l a w → wpListIn (Fl ro) m P ops Q' l { a with defers := ds } w
  | [], _, a, w, h => (hq a w h).2
  | o :: rest, hd, a, w, h => by
    have ih := xbv (ro := ro) (m := m) (ds := ds) hq hp ho rest (fun o h => hd o (by simp [h]))
    have df := fun a w h => xmr (P := P) (ops := ops) (fun a w h => (hq a w h).1) hp ho rest a w h
    unfold wpList at h
    unfold wpListIn
    split at h
    · rename_i hw
      rw [if_pos hw]
      refine ⟨fun _ _ => trivial, ?_⟩
      rw [Oper.semAt_eq _ _ _ (hd o (by simp)), xis]
      rcases h with h | h
      · unfold Oper.wp Oper.upon at h
        split at h
        · rename_i e; rw [e, Oper.uponIn_value, xfn]; exact ih _ _ h
        · rename_i e; rw [e, Oper.uponIn_skip, xfn]; exact ih _ _ h
        · have := (xyc (d := o.dst)).symm.trans (df _ _ h)
          cases this
        · rename_i e; rw [e, Oper.uponIn_enter]
          refine ⟨fun h => (by cases ro <;> cases h), xe7 (h.mono ?_)⟩
          rintro e' w' h1
          cases e' with
          | returned v => show wpListIn _ _ _ _ _ _ _ _; rw [xfn]; exact ih _ _ h1
          | panicked ch => exact (hp _ _ _ h1).elim
          | outgrown => exact (ho h1).elim
        · rename_i e; rw [e, Oper.uponIn_row]
          refine ⟨fun h => (by cases ro <;> cases h), x68 (h.mono ?_)⟩
          intro v w' h1
          rw [xfn]; exact ih _ _ h1
        · exact (hp _ _ _ h).elim
        · exact h.elim
      · exact (ho h.2).elim
    · rename_i hw
      rw [if_neg hw]
      refine ⟨fun _ _ => trivial, ?_⟩
      rw [xfn]
      exact ih _ _ h
end
def xb4 : Op → Bool
  | .defer _ => false
  | _ => true
def frag : AC → Bool
  | .skip => true
  | .ret => true
  | .exit _ => true
  | .region l => l.all fun o => xb4 o.op
  | .seq a b => frag a && frag b
  | .cond _ a b => frag a && frag b
  | .block _ c => frag c
  | _ => false
theorem xzt {ops : Array Oper} : ∀ {l : List Oper} {xs : List O1}, xib ops l = some xs → ∀ o ∈ l, ∃ x ∈ xs, x.op = o.op
  | [], xs, h, o, ho => by simp at ho
  | o' :: l, xs, h, o, ho => by
    simp only [xib] at h
    split at h
    · rename_i x xs' g1 g2
      injection h with h
      subst h
      rcases List.mem_cons.1 ho with rfl | ho
      · exact ⟨x, by simp, (xhk g1).1⟩
      · obtain ⟨y, hy, e⟩ := xzt g2 o ho
        exact ⟨y, by simp [hy], e⟩
    · cases h
section
variable {P : Program} {ro : Option Nat} {m n : Nat} {ds : List Deferred}
def RS (C : Ctx) (E0 : Env) (k0 n : Nat) (ds : List Deferred) (Q : Exit → AS → Prop) : Exit → Act → World → Prop := fun e a' w' => ∃ s' E' a0, Q e s' ∧ k0 ≤ s'.nx ∧ SR C E0 k0 n s' a0 E' ∧ a' = { a0 with defers := ds } ∧ E'.w = w'
theorem wps_in {ops : Array Oper} {l : List O1} {Q : Exit → AS → Prop} {s : AS} {id : Nat} (h1 : fits n ops = true) (h2 : xib ops ops.toList = some l) (hd : l.all (fun o => xb4 o.op) = true)
    (h : wps1 P s.nx 0 l ⟨s.T, s.H, s.nx + l.length⟩ (Q .normal)) {C : Ctx} {E0 : Env} {k0 : Nat} {E : Env} {a : Act} (hk : k0 ≤ s.nx) (hS : SR C E0 k0 n s a E) :
    (Code.region id ops false).wpIn (Fl ro) m P (RS C E0 k0 n ds Q) { a with defers := ds } E.w := by
  have hl : ∀ (l : List Oper) (xs : List O1), xib ops l = some xs → xs.length = l.length := by
    intro l
    induction l with
    | nil => intro xs h; simp only [xib] at h; injection h with h; subst h; rfl
    | cons o l ih =>
      intro xs h
      simp only [xib] at h
      split at h
      · rename_i x xs' g1 g2
        injection h with h
        subst h
        simp [ih _ g2]
      · cases h
  have h' := xvn _ _ _ _ h2 h
  rw [hl _ _ h2] at h'
  simp only [Array.length_toList] at h'
  have hS' : SR C E0 k0 n ⟨s.T, s.H, s.nx + ops.size⟩ a E := ⟨hS.heap, hS.stab, fun l kl => by have := hS.bound l kl; show l < s.nx + ops.size; omega, hS.fresh, hS.size, hS.defers, hS.tmps⟩
  refine wpIn_region_list (xbv (Q := fun e a' w' => e = .normal ∧ ∃ s' E', Q .normal s' ∧ k0 ≤ s'.nx ∧ SR C E0 k0 n s' a' E' ∧ E'.w = w') ?_ ?_ ?_ ops.toList ?_ a E.w
    (xho h1 hk (K := fun s2 => Q .normal s2) ?_ ops.toList 0 _ a E (fun o h => h) hS' ?_ (by simp) h'))
  · rintro a' w' ⟨_, s', E', g1, g2, g3, rfl⟩
    exact ⟨g3.defers, s', E', a', g1, g2, g3, rfl, rfl⟩
  · rintro ch a w ⟨e, _⟩; cases e
  · rintro ⟨a, w, e, _⟩; cases e
  · intro o ho c e
    obtain ⟨x, hx, ex⟩ := xzt h2 o ho
    have := List.all_eq_true.1 hd x hx
    rw [ex, e] at this
    cases this
  · intro s2 a2 E2 hq hk2 hS2
    exact ⟨rfl, s2, E2, hq, hk2, hS2, rfl⟩
  · intro j h1 h2 kj
    have := hS.bound _ kj
    omega
theorem cw_in : ∀ (x : AC) {Q : Exit → AS → Prop} {s : AS}, frag x = true → cw P n x Q s → ∀ c, comp n c = some x → ∀ {C : Ctx} {E0 : Env} {k0 : Nat} {E : Env} {a : Act}, k0 ≤ s.nx → SR C E0 k0 n s a E →
    c.wpIn (Fl ro) m P (RS C E0 k0 n ds Q) { a with defers := ds } E.w
  | .skip, Q, s, _, h, c, hc, C, E0, k0, E, a, hk, hS => by rw [xvs hc]; exact wpIn_skip ⟨s, E, a, h, hk, hS, rfl, rfl⟩
  | .ret, Q, s, _, h, c, hc, C, E0, k0, E, a, hk, hS => by rw [xj2 hc]; exact wpIn_ret ⟨s, E, a, h, hk, hS, rfl, rfl⟩
  | .exit id, Q, s, _, h, c, hc, C, E0, k0, E, a, hk, hS => by rw [xmt hc]; exact wpIn_exit ⟨s, E, a, h, hk, hS, rfl, rfl⟩
  | .region l, Q, s, hf, h, c, hc, C, E0, k0, E, a, hk, hS => by
    obtain ⟨id, ops, rfl, h1, h2⟩ := xyo hc
    exact wps_in h1 h2 hf h hk hS
  | .seq x y, Q, s, hf, h, c, hc, C, E0, k0, E, a, hk, hS => by
    simp only [frag, Bool.and_eq_true] at hf
    obtain ⟨c1, c2, rfl, h1, h2⟩ := xwq hc
    refine wpIn_seq (wpIn_mono (cw_in x hf.1 h c1 h1 hk hS) ?_)
    rintro e a' w' ⟨s', E', a0, g1, g2, g3, rfl, rfl⟩
    cases e with
    | normal => exact cw_in y hf.2 g1 c2 h2 g2 g3
    | exit id => exact ⟨s', E', a0, g1, g2, g3, rfl, rfl⟩
    | goto l => exact ⟨s', E', a0, g1, g2, g3, rfl, rfl⟩
    | ret => exact ⟨s', E', a0, g1, g2, g3, rfl, rfl⟩
    | panic ch => exact ⟨s', E', a0, g1, g2, g3, rfl, rfl⟩
    | outgrown => exact ⟨s', E', a0, g1, g2, g3, rfl, rfl⟩
  | .cond o x y, Q, s, hf, h, c, hc, C, E0, k0, E, a, hk, hS => by
    simp only [frag, Bool.and_eq_true] at hf
    obtain ⟨c1, c2, rfl, h1, h2⟩ := xds hc
    unfold cw condV at h
    split at h
    · rename_i e
      have he := ev_rep hS.tmps o
      rw [e] at he
      simp only [VRep] at he
      exact wpIn_cond_true (by rw [xis]; exact he) (cw_in x hf.1 h c1 h1 hk hS)
    · rename_i e
      have he := ev_rep hS.tmps o
      rw [e] at he
      simp only [VRep] at he
      exact wpIn_cond_false (by rw [xis]; exact he) (cw_in y hf.2 h c2 h2 hk hS)
    · exact h.elim
  | .block id x, Q, s, hf, h, c, hc, C, E0, k0, E, a, hk, hS => by
    simp only [frag] at hf
    obtain ⟨c1, rfl, h1⟩ := xeq hc
    refine wpIn_block (wpIn_mono (cw_in x hf h c1 h1 hk hS) ?_)
    rintro e a' w' ⟨s', E', a0, g1, g2, g3, rfl, rfl⟩
    cases e with
    | exit id' =>
      simp only [blockQ] at g1
      simp only [Exit.inBlock]
      split
      · rename_i e; rw [if_pos e] at g1; exact ⟨s', E', a0, g1, g2, g3, rfl, rfl⟩
      · rename_i e; rw [if_neg e] at g1; exact ⟨s', E', a0, g1, g2, g3, rfl, rfl⟩
    | normal => exact ⟨s', E', a0, g1, g2, g3, rfl, rfl⟩
    | goto l => exact ⟨s', E', a0, g1, g2, g3, rfl, rfl⟩
    | ret => exact ⟨s', E', a0, g1, g2, g3, rfl, rfl⟩
    | panic ch => exact ⟨s', E', a0, g1, g2, g3, rfl, rfl⟩
    | outgrown => exact ⟨s', E', a0, g1, g2, g3, rfl, rfl⟩
end
end Go.Proofs.YtfkgckbdknpcnaaGreatDoor.AL

/- (*walk.trail).names: what is handed on, round by round. -/
set_option linter.all false
namespace Go.Proofs.YtfkgckbdknpcnaaGreatDoor.AL
open Go Go.Proofs Go.RowKit
def xmc (b : Branch) (ways : List Way) : AV := .agg [(sll 13 xf) b.nodes, (sll 3 encWay) ways, .junk, .junk]
def nodeAt (b : Branch) (ino : Int) : Option Node := if ino < 1 then some (⟨0, 0, 0, 0, [], [], (⟨0, 0, xk, (⟨0, 0, 0⟩ : Origin), 0⟩ : Attr)⟩ : Node)
 else if (b.nodes.length : Int) < ino then some (⟨0, 0, 0, 0, [], [], (⟨0, 0, xk, (⟨0, 0, 0⟩ : Origin), 0⟩ : Attr)⟩ : Node)
 else (ix b.nodes (wr (ino - 1))).bind fun v5 => some v5
theorem xhhb (cs : List AV) (hne : cs.isEmpty = false) (h : posz (.agg cs) = true) : posz (((AV.agg cs).ptr 0).ptr 0) = true := by
  simp only [posz] at h
  simp [posz, h, hne, AV.one]
theorem xu0 (x : AV) (h : closed x = true) : closed ((x.ptr 0).ptr 0) = true := by simp [closed, h]
theorem xs8 (x : AV) (n : Int) (h : closed x = true) : closeds [x.ptr 0, int n] = true := by simp [closed, closeds, h, int]
def Y_node := aI (aI (aI (@R3) (@R24)) (aI (@R26) (@R68))) (aI (aI (@DBranch) (@DAttr)) (aI (@DNode) (@DEntry)))
set_option maxHeartbeats 2000000 in
theorem x7hb (b : Branch) (ways : List Way) (ino : Int) (r : Node) (hm0 : nodeAt b ino = some r) : Ok Tryz.prog 65 [.ptr (xmc b ways) 0, int ino] (xf r) := by
  unfold nodeAt at hm0
  refine okF xbd (by simp) ?_
  unfold x4c xmc
  by_cases h1 : ino < 1
  · have e2 : (ino < 1) = True := eq_true h1
    rw [if_pos h1] at hm0
    simp only [Option.some.injEq] at hm0
    subst hm0
    simp only [e2, Y_node, R115, EV, ↓EVd, isCall, Nat.reduceAdd, Nat.reduceSub, Nat.reduceMul, Nat.reduceEqDiff, Nat.reduceBEq, Nat.reduceLT, Nat.reduceLeDiff, ↓reduceIte, reduceCtorEq]
    all_goals first | done | rfl | exact xd (by simp only [CLO]) | exact xn (by simp only [CLO]) (Sub.agg (Subs.cons (Sub.refl _) (Subs.cons (Sub.refl _) (Subs.cons (Sub.refl _) (Subs.cons (Sub.refl _) (Subs.cons (Sub.nilS _) (Subs.cons (Sub.nilS _) (Subs.cons (Sub.refl _) (Subs.cons (Sub.refl _) (Subs.cons (Sub.refl _) (Subs.cons (Sub.refl _) (Subs.cons (Sub.refl _) (Subs.cons (Sub.refl _) (Subs.cons (Sub.refl _) (Subs.nil)))))))))))))))
  · have e2 : (ino < 1) = False := eq_false h1
    rw [if_neg h1] at hm0
    by_cases h3 : (b.nodes.length : Int) < ino
    · have e4 : ((b.nodes.length : Int) < ino) = True := eq_true h3
      rw [if_pos h3] at hm0
      simp only [Option.some.injEq] at hm0
      subst hm0
      simp only [e2, e4, Y_node, R115, EV, ↓EVd, isCall, Nat.reduceAdd, Nat.reduceSub, Nat.reduceMul, Nat.reduceEqDiff, Nat.reduceBEq, Nat.reduceLT, Nat.reduceLeDiff, ↓reduceIte, reduceCtorEq]
      all_goals first | done | rfl | exact xd (by simp only [CLO]) | exact xn (by simp only [CLO]) (Sub.agg (Subs.cons (Sub.refl _) (Subs.cons (Sub.refl _) (Subs.cons (Sub.refl _) (Subs.cons (Sub.refl _) (Subs.cons (Sub.nilS _) (Subs.cons (Sub.nilS _) (Subs.cons (Sub.refl _) (Subs.cons (Sub.refl _) (Subs.cons (Sub.refl _) (Subs.cons (Sub.refl _) (Subs.cons (Sub.refl _) (Subs.cons (Sub.refl _) (Subs.cons (Sub.refl _) (Subs.nil)))))))))))))))
    · have e4 : ((b.nodes.length : Int) < ino) = False := eq_false h3
      rw [if_neg h3] at hm0
      obtain ⟨v5, h5, hm0⟩ := Option.bind_eq_some_iff.1 hm0
      simp only [Option.some.injEq] at hm0
      subst hm0
      have i1 := ix_enc xf h5
      have i2 := x70 h5
      simp only [e2, e4, i1, i2, Y_node, R115, EV, ↓EVd, isCall, Nat.reduceAdd, Nat.reduceSub, Nat.reduceMul, Nat.reduceEqDiff, Nat.reduceBEq, Nat.reduceLT, Nat.reduceLeDiff, ↓reduceIte, reduceCtorEq]
      all_goals exact xd (by simp only [CLO])
section
variable {P : Program} {n : Nat} {σ : Type} {live : σ → Bool} {JJ : σ → World → Prop} {Zx : σ → Nat → Prop} {Q : Exit → AS → σ → Prop} {s : AS} {y : σ}
theorem cY_cw {x : AC} (hy : live y = true) (h : cw P n x (fun e s' => Q e s' y) s) : cY live JJ Zx P n x Q s y := cY_of hy (cw_cwp x h) fun _ _ h => h
theorem xveb {id : Nat} (hy : live y = true) (h : Q .normal s y) : cY live JJ Zx P n (.label id) Q s y := cY_of hy (xuo (Q := fun e s' => Q e s' y) h) fun _ _ h => h
theorem yQ_n (next : AS → σ → Prop) : yQ next Q .normal s y = next s y := _root_.id rfl
end
def entsN (nd : Way → Node) (ways : List Way) (i : Nat) : List Entry := (ways.take i).flatMap fun w => (nd w).entries
theorem x5x (nd : Way → Node) (ways : List Way) (i : Nat) (h : i < ways.length) : entsN nd ways (i + 1) = entsN nd ways i ++ (nd ways[i]).entries := by
  unfold entsN
  rw [List.take_succ_eq_append_getElem h, List.flatMap_append, List.flatMap_cons, List.flatMap_nil, List.append_nil]
theorem x8bb (nd : Way → Node) (ways : List Way) (i j : Nat) (h : i < ways.length) (hj : j < (nd ways[i]).entries.length) : (entsN nd ways i ++ (nd ways[i]).entries.take j).length < (entsN nd ways ways.length).length := by
  have h1 : (entsN nd ways (i + 1)).length ≤ (entsN nd ways ways.length).length := by
    unfold entsN
    rw [List.take_length]
    conv => rhs; rw [← List.take_append_drop (i + 1) ways]
    rw [List.flatMap_append, List.length_append]
    omega
  rw [x5x _ _ _ h] at h1
  simp at h1 ⊢
  omega
def entV (e : Entry) : Value := .agg #[.int .i64 e.slot, .int .i64 e.ino, .string e.name]
theorem xt6 {E : Env} {v : Value} {e : Entry} (h : VRep E (xt e) v) : v = entV e := by
  simp only [xt, int, str, VRep, VReps] at h
  obtain ⟨us, ⟨u1, us1, rfl, ⟨u2, us2, rfl, ⟨u3, us3, rfl, rfl, rfl⟩, rfl⟩, rfl⟩, rfl⟩ := h
  rfl
theorem xs0 {α : Type} (f : α → AV) (h : ∀ x, posz (f x) = true) : ∀ l : List α, poszs (l.map f) = true
  | [] => rfl
  | x :: l => by simp only [List.map_cons, poszs, h x, xs0 f h l, Bool.and_self]
theorem xcy (e : Entry) : posz (xt e) = true := rfl
theorem xj3 (e : Way) : posz (encWay e) = true := rfl
theorem xok {α : Type} (k : Nat) (f : α → AV) (hk : 0 < k) (h : ∀ x, posz (f x) = true) (l : List α) : posz (sll k f l) = true := by
  simp only [sll, posz, xs0 f h l, Bool.and_true, decide_eq_true_eq]; exact hk
theorem posz_D (l : List UInt8) : posz (encD l) = true := by
  simp only [encD]
  exact xok 1 _ (by omega) (fun _ => rfl) l
theorem x69 (x : Node) : posz (xf x) = true := by
  have h1 := posz_D x.data
  have h2 := xok 3 xt (by omega) xcy x.entries
  simp only [xf]
  generalize encD x.data = X at h1
  generalize sll 3 xt x.entries = Y at h2
  simp [posz, poszs, h1, h2, int, str]
theorem xf8 (b : Branch) (ways : List Way) : posz (xmc b ways) = true := by
  have h1 := xok 13 xf (by omega) x69 b.nodes
  have h2 := xok 3 encWay (by omega) xj3 ways
  simp only [xmc]
  generalize sll 13 xf b.nodes = X at h1
  generalize sll 3 encWay ways = Y at h2
  simp [posz, poszs, h1, h2]
theorem xbl (b : Branch) (ways : List Way) : closed (xmc b ways) = true := by
  simp only [xmc, sll, closed, closeds, xmi, cM_Way, Bool.and_self]
section
variable {JJ : Bool × List Entry → World → Prop} {Zx : Bool × List Entry → Nat → Prop} {b : Branch} {ways : List Way} {nd : Way → Node} {l m : Nat}
set_option maxHeartbeats 2000000 in
theorem x08 (hab : ∀ y W W', JJ y W → W.grownBy W' none → JJ y W') (hZ : ∀ ys zs, Zx (true, ys) = Zx (true, zs)) (hGW : ∀ ys W, JJ (true, ys) W → GW W)
    (hn : ∀ w ∈ ways, nodeAt b w.ino = some (nd w)) (hb1 : ways.length < 4611686018427387904) (hb2 : ∀ w ∈ ways, (nd w).entries.length < 4611686018427387904)
    (hY : ∀ pre e W, JJ (true, pre) W → pre.length < (entsN nd ways ways.length).length → YieldAt Fence.wide m Tryz.prog l #[entV e] W fun r W' =>
      (r = .returned (.bool true) ∧ JJ (true, pre ++ [e]) W' ∧ W.heap.size ≤ W'.heap.size ∧ ∀ b o, ¬ Zx (true, pre) b → W.heap[b]? = some o → o.isCells = true → W'.heap[b]? = some o) ∨ (r = .returned (.bool false) ∧ JJ (false, pre ++ [e]) W')) :
    cY Prod.fst JJ Zx Tryz.prog 32 x6h (fun e s y => e = .normal ∧ (y = (true, entsN nd ways ways.length) ∨ ∃ pre, y = (false, pre))) ⟨argT [.fn (.yield l) [] [], .ptr (.ptr (xmc b ways) 0) 0], fun _ => none, 0⟩ (true, []) := by
  unfold x6h
  refine x1eb (cY_seq (xveb rfl ?_))
  refine cY_seq (cY_cw rfl ?_)
  unfold xmc
  simp only [yQ_n, R115, R91, R51, R77, R3, DWay, EV, ↓EVd, isCall, Nat.reduceAdd, Nat.reduceSub, Nat.reduceMul, Nat.reduceEqDiff, Nat.reduceBEq, Nat.reduceLT, Nat.reduceLeDiff, ↓reduceIte, reduceCtorEq]
  have TRp := xhhb _ rfl (xf8 b ways)
  have TRc1 := xbl b ways
  have TRc := xu0 _ TRc1
  have hnode : ∀ w ∈ ways, Ok Tryz.prog 65 [.ptr (xmc b ways) 0, int w.ino] (xf (nd w)) := fun w hw => x7hb b ways _ _ (hn w hw)
  unfold xmc at TRp TRc1 TRc hnode
  generalize hTR : (AV.agg [sll 13 xf b.nodes, sll 3 encWay ways, AV.junk, AV.junk]) = TR at TRp TRc TRc1 hnode
  refine x1p (xk6 (fun k s y => ∃ i : Nat, i ≤ ways.length ∧ k = ways.length - i + 1 ∧ y = (true, entsN nd ways i) ∧ s.T 0 = .fn (.yield l) [] [] ∧ s.T 1 = (TR.ptr 0).ptr 0 ∧ s.T 10 = sll 3 encWay ways ∧ s.T 11 = int ways.length ∧ s.T 12 = int i) (ways.length + 1) ⟨0, by omega, by omega, rfl, rfl, rfl, rfl, rfl, rfl⟩ ?_ ?_)
  · rintro s y ⟨i, h1, h2, _⟩; omega
  rintro k ⟨T, H, nx⟩ y ⟨i, hi, hk, rfl, h0, h1, h10, h11, h12⟩
  dsimp only at h0 h1 h10 h11 h12
  refine cY_seq (cY_cw rfl ?_)
  simp only [yQ_n, h0, h1, h10, h11, h12, R3, EV, ↓EVd, isCall, Nat.reduceAdd, Nat.reduceSub, Nat.reduceMul, Nat.reduceEqDiff, Nat.reduceBEq, Nat.reduceLT, Nat.reduceLeDiff, ↓reduceIte, reduceCtorEq]
  refine ⟨fun hlt => ?_, fun hlt => ?_⟩
  rotate_left
  · refine cY_seq (xbn (b := false) rfl ?_)
    rw [if_neg (by simp)]
    refine xfy ?_
    have : i = ways.length := by omega
    subst this
    exact ⟨rfl, .inl rfl⟩
  have hi' : i < ways.length := by omega
  refine cY_seq (xbn (b := true) rfl ?_)
  rw [if_pos rfl]
  refine xnz ?_
  refine cY_seq (x1p (cY_seq (cY_cw rfl ?_)))
  have e7 : ((0 : Int) ≤ (i : Int)) = True := eq_true (by omega)
  have e8 : (ways.map encWay)[(i : Int).toNat]? = some (encWay ways[i]) := by simp [hi']
  simp only [yQ_n, h0, h1, h10, h11, h12, e7, e8, R3, R51, R77, DWay, EV, ↓EVd, isCall, Nat.reduceAdd, Nat.reduceSub, Nat.reduceMul, Nat.reduceEqDiff, Nat.reduceBEq, Nat.reduceLT, Nat.reduceLeDiff, ↓reduceIte, reduceCtorEq]
  refine cY_seq (cY_cw rfl ?_)
  simp only [yQ_n, h0, h1, h10, h11, h12, R3, R91, R77, DWay, EV, ↓EVd, isCall, Nat.reduceAdd, Nat.reduceSub, Nat.reduceMul, Nat.reduceEqDiff, Nat.reduceBEq, Nat.reduceLT, Nat.reduceLeDiff, ↓reduceIte, reduceCtorEq]
  refine S1_ok (hnode _ (List.getElem_mem hi')) rfl (xs8 _ _ TRc1) ?_
  simp only [yQ_n, h0, h1, h10, h11, h12, R3, R68, R62, DNode, DEntry, EV, ↓EVd, isCall, Nat.reduceAdd, Nat.reduceSub, Nat.reduceMul, Nat.reduceEqDiff, Nat.reduceBEq, Nat.reduceLT, Nat.reduceLeDiff, ↓reduceIte, reduceCtorEq]
  have hbe := hb2 _ (List.getElem_mem hi')
  have hel := x8bb nd ways i
  have hsu := x5x nd ways i hi'
  generalize hes : (nd ways[i]).entries = es at hbe hel hsu
  refine x1p (xk6 (fun k s y => ∃ j : Nat, j ≤ es.length ∧ k = es.length - j + 1 ∧ y = (true, entsN nd ways i ++ es.take j) ∧ s.T 0 = .fn (.yield l) [] [] ∧ s.T 1 = (TR.ptr 0).ptr 0 ∧ s.T 10 = sll 3 encWay ways ∧ s.T 11 = int ways.length ∧ s.T 12 = int i ∧ s.T 20 = sll 3 xt es ∧ s.T 21 = int es.length ∧ s.T 22 = int j) (es.length + 1) ⟨0, by omega, by omega, by simp, h0, h1, h10, h11, h12, by rw [← hes]; rfl, by rw [← hes]; rfl, rfl⟩ ?_ ?_)
  · rintro s y ⟨j, h1, h2, _⟩; omega
  clear h0 h1 h10 h11 h12
  rintro k2 ⟨T2, H2, nx2⟩ y ⟨j, hj, hk2, rfl, h0, h1, h10, h11, h12, h20, h21, h22⟩
  dsimp only at h0 h1 h10 h11 h12 h20 h21 h22
  refine cY_seq (cY_cw rfl ?_)
  simp only [yQ_n, h0, h1, h10, h11, h12, h20, h21, h22, R3, EV, ↓EVd, isCall, Nat.reduceAdd, Nat.reduceSub, Nat.reduceMul, Nat.reduceEqDiff, Nat.reduceBEq, Nat.reduceLT, Nat.reduceLeDiff, ↓reduceIte, reduceCtorEq]
  refine ⟨fun hlt2 => ?_, fun hlt2 => ?_⟩
  rotate_left
  · refine cY_seq (xbn (b := false) rfl ?_)
    rw [if_neg (by simp)]
    refine xfy ?_
    have : j = es.length := by omega
    subst this
    show cY _ _ _ _ _ _ _ _ _
    refine cY_cw rfl ?_
    have e9 : wr ((i : Int) + 1) = ((i + 1 : Nat) : Int) := by rw [wr_in (by omega) (by omega)]; omega
    simp only [yQ_n, h0, h1, h10, h11, h12, e9, R3, EV, ↓EVd, isCall, Nat.reduceAdd, Nat.reduceSub, Nat.reduceMul, Nat.reduceEqDiff, Nat.reduceBEq, Nat.reduceLT, Nat.reduceLeDiff, ↓reduceIte, reduceCtorEq]
    exact ⟨i + 1, by omega, by omega, by rw [hsu, List.take_length], rfl⟩
  have hj' : j < es.length := by omega
  refine cY_seq (xbn (b := true) rfl ?_)
  rw [if_pos rfl]
  refine xnz ?_
  refine cY_seq (x1p (cY_seq (cY_cw rfl ?_)))
  have e7 : ((0 : Int) ≤ (j : Int)) = True := eq_true (by omega)
  have e8 : (es.map xt)[(j : Int).toNat]? = some (xt es[j]) := by simp [hj']
  simp only [yQ_n, h0, h1, h10, h11, h12, h20, h21, h22, e7, e8, R3, R62, R87, DEntry, EV, ↓EVd, isCall, Nat.reduceAdd, Nat.reduceSub, Nat.reduceMul, Nat.reduceEqDiff, Nat.reduceBEq, Nat.reduceLT, Nat.reduceLeDiff, ↓reduceIte, reduceCtorEq]
  refine cY_seq ?_
  refine xvbb (T := 87) (Tb := 4) (tx := 6) (d1 := 26) (d2 := 27) (d3 := 28) (d4 := 29) (l := l) (m := m) (u := entV es[j]) (x := xt es[j]) (yT := (true, entsN nd ways i ++ es.take j ++ [es[j]])) (yF := (false, entsN nd ways i ++ es.take j ++ [es[j]])) rfl rfl rfl (fun W h => hGW _ W h) hab h0 (by omega) (by omega) ?_ (fun E v h => xt6 h) ?_ (fun b h => by rw [hZ _ (entsN nd ways i ++ es.take j)] at h; exact h) ?_ ?_
  · simp only [h0, h1, h10, h11, h12, h20, h21, h22, e7, e8, R3, R62, R87, DEntry, EV, ↓EVd, isCall, Nat.reduceAdd, Nat.reduceSub, Nat.reduceMul, Nat.reduceEqDiff, Nat.reduceBEq, Nat.reduceLT, Nat.reduceLeDiff, ↓reduceIte, reduceCtorEq]
  · intro W hJ
    exact hY _ _ W hJ (by subst hes; exact hel j hi' hj')
  · show cY _ _ _ _ _ _ _ _ _
    refine xbn (b := false) rfl ?_
    rw [if_neg (by simp)]
    refine xnz ?_
    show cY _ _ _ _ _ _ _ _ _
    refine cY_cw rfl ?_
    generalize hK : keepT _ = K
    have k0 : K 0 = .fn (.yield l) [] [] := by rw [← hK]; exact xej h0 rfl rfl
    have k1 : K 1 = (TR.ptr 0).ptr 0 := by rw [← hK]; exact xej h1 TRc TRp
    have k10 : K 10 = sll 3 encWay ways := by rw [← hK]; exact xej h10 (by simp only [sll, closed, cM_Way]) (xok 3 encWay (by omega) xj3 ways)
    have k11 : K 11 = int ways.length := by rw [← hK]; exact xej h11 rfl rfl
    have k12 : K 12 = int i := by rw [← hK]; exact xej h12 rfl rfl
    have k20 : K 20 = sll 3 xt es := by rw [← hK]; exact xej h20 (by simp only [sll, closed, xxe]) (xok 3 xt (by omega) xcy es)
    have k21 : K 21 = int es.length := by rw [← hK]; exact xej h21 rfl rfl
    have k22 : K 22 = int j := by rw [← hK]; exact xej h22 rfl rfl
    have e9 : wr ((j : Int) + 1) = ((j + 1 : Nat) : Int) := by rw [wr_in (by omega) (by omega)]; omega
    simp only [yQ_n, k0, k1, k10, k11, k12, k20, k21, k22, e9, R3, EV, ↓EVd, isCall, Nat.reduceAdd, Nat.reduceSub, Nat.reduceMul, Nat.reduceEqDiff, Nat.reduceBEq, Nat.reduceLT, Nat.reduceLeDiff, ↓reduceIte, reduceCtorEq]
    exact ⟨j + 1, by omega, by omega, by rw [List.take_succ_eq_append_getElem hj', List.append_assoc], rfl⟩
  · show cY _ _ _ _ _ _ _ _ _
    refine xbn (b := true) rfl ?_
    rw [if_pos rfl]
    refine xfy ?_
    exact ⟨rfl, .inr ⟨_, rfl⟩⟩
end
theorem xw3 {P : Program} {fn : Func} (h : fn.results.toList = []) (tmps : Array Value) (w : World) : (results fn tmps).run P w = .ok (.tuple #[]) w := by
  simp only [results, Array.mapM_eq_mapM_toList, h]
  rfl
theorem xseb {w w' : World} (h : GW w) (hg : w.grownBy w' none) : GW w' := GW.keep h hg.size fun b o hb ho _ => (hg.block b (Array.getElem?_eq_some_iff.1 ho).1 (by simp)).trans ho
def KpX (X : Nat → Prop) (A B : World) : Prop := A.heap.size ≤ B.heap.size ∧ ∀ b o, ¬ X b → A.heap[b]? = some o → o.isCells = true → B.heap[b]? = some o
theorem x1x {E : Env} {args : List AV} {vals : List Value} (hv : VReps E args vals) (k : Nat) : ∀ t, VRep E (argT args t) ((vals.toArray ++ Array.replicate k undef).getD t undef) := by
  have hl := hv.length
  intro t
  simp only [argT]
  by_cases ht : t < args.length
  · rw [List.getElem?_eq_getElem ht]
    obtain ⟨u, h1, h2⟩ := hv.get t _ (List.getElem?_eq_getElem ht)
    have : (vals.toArray ++ Array.replicate k undef).getD t undef = u := by
      have hlt : t < vals.length := by omega
      simp only [Array.getD_eq_getD_getElem?, Array.getElem?_append, List.size_toArray, if_pos hlt, List.getElem?_toArray, h1, Option.getD_some]
    rw [this]
    exact h2
  · rw [List.getElem?_eq_none (by omega)]
    have : (vals.toArray ++ Array.replicate k undef).getD t undef = undef := by
      simp only [Array.getD_eq_getD_getElem?, Array.getElem?_append]
      rw [if_neg (by simp; omega)]
      simp only [Array.getElem?_replicate]
      split <;> rfl
    rw [this]
    exact xmm E
theorem xi5 {n : Nat} {b : Branch} {ways : List Way} {nd : Way → Node} {X Z : Nat → Prop} {w : World} {v : Value}
    (hn : ∀ w ∈ ways, nodeAt b w.ino = some (nd w)) (hb1 : ways.length < 4611686018427387904) (hb2 : ∀ w ∈ ways, (nd w).entries.length < 4611686018427387904)
    (hv : VRep (Ec Z w) (.ptr (.ptr (xmc b ways) 0) 0) v) (hZ : ∀ b, Z b → b < w.heap.size) (hX : ∀ b, Z b → ¬ X b) (hXw : ∀ b, X b → b < w.heap.size) (hXg : ∀ b, X b → gN ≤ b) (hgw : GW w) :
    SeqStopsK Fence.wide n Tryz.prog 90 #[v] (fun e : Entry => #[entV e]) (KpX X) (fun ys => ys = entsN nd ways ways.length) (fun _ => True) (entsN nd ways ways.length).length w := by
  intro l J Jx W hW hJ hJx hY h0
  let JJ : Bool × List Entry → World → Prop := fun y W => if y.1 = true then J y.2 W ∧ GW W else Jx y.2 W
  let Zx : Bool × List Entry → Nat → Prop := fun y b => y.1 = true ∧ X b
  have hwalk := x08 (JJ := JJ) (Zx := Zx) (b := b) (ways := ways) (nd := nd) (l := l) (m := n - 1) ?_ ?_ ?_ hn hb1 hb2 ?_
  rotate_left
  · rintro ⟨t, ys⟩ W1 W2 h hg
    cases t with
    | true => exact ⟨hJ ys W1 W2 none h.1 hg (fun r e => by cases e), xseb h.2 hg⟩
    | false => exact hJx ys W1 W2 none h hg (fun r e => by cases e)
  · intro ys zs; rfl
  · intro ys W1 h; exact h.2
  · intro pre e W1 hj hlt
    obtain ⟨fn, tm, asg, bo, g1, g2⟩ := hY pre e W1 hj.1 hlt
    refine ⟨fn, tm, asg, bo, g1, g2.mono ?_⟩
    rintro r W' (⟨rfl, k1, k2, k3⟩ | ⟨rfl, k1⟩)
    · exact .inl ⟨rfl, ⟨k1, GW.keep hj.2 k2 fun b o hb ho hc => k3 b o (fun hx => absurd (hXg b hx) (by omega)) ho hc⟩, k2, fun b o hb => k3 b o fun hx => hb ⟨rfl, hx⟩⟩
    · exact .inr ⟨rfl, k1⟩
  refine callsIn_wide.2 ?_
  obtain ⟨fn, c, h1, h2, h3, h4, h5⟩ := xnp.code
  refine calls_of_wp h1 h2 ?_
  have hsame : ∀ b, Z b → W.heap[b]? = w.heap[b]? := fun b hb => hW.block b (hZ b hb)
  have hv' : VRep (Ec Z W) (.ptr (.ptr (xmc b ways) 0) 0) v := VRep.stab (E := Ec Z w) (E' := Ec Z W) ⟨fun _ h => h, fun _ h => h.elim, fun b hb => ⟨hb, hsame b hb⟩⟩ _ _ hv
  have hargs : VReps (Ec Z W) [.fn (.yield l) [] [], .ptr (.ptr (xmc b ways) 0) 0] [.func (.yield l) #[] #[], v] := by
    simp only [VReps]
    exact ⟨_, _, VRep.fn_mk (va := #[]) (vb := #[]) .nil .nil, ⟨_, _, hv', rfl, rfl⟩, rfl⟩
  have hGW0 : GW W := hgw.mono hW hgw.size
  have hSY : SY Prod.fst JJ Zx 32 ⟨argT [.fn (.yield l) [] [], .ptr (.ptr (xmc b ways) 0) 0], fun _ => none, 0⟩ (true, []) { tmps := (#[Value.func (.yield l) #[] #[]] ++ #[v]) ++ Array.replicate (fn.ntmps - (#[Value.func (.yield l) #[] #[]] ++ #[v]).size) undef, defers := [] } W := by
    refine SYl_SY rfl ⟨{ base := W.heap.size, w0 := W, zone := Z, gw := hGW0, gb := hGW0.size }, Ec Z W, 0, Ec Z W, ?_, rfl, Nat.le_refl _, ?_, rfl, fun b hb hx => hX b hb hx.2, fun b hx => Nat.lt_of_lt_of_le (hXw b hx.2) hW.size⟩
    · exact ⟨h0, hGW0⟩
    · refine ⟨⟨Below.refl _ _, Nat.le_refl _, fun b hb => Nat.lt_of_lt_of_le (hZ b hb) hW.size, fun b _ l c e => by simp [Ec] at e, fun b hb => .inl hb, fun l => rfl, fun l x e => by simp [Ec] at e, fun l l' b c c' e => by simp [Ec] at e, fun l o p e => by simp at e, fun l b c e => by simp [Ec] at e⟩, Stab.refl _, fun l k => k.elim, fun l k => .inl k, by simp [h3], rfl, ?_⟩
      exact x1x hargs _
  refine wp_mono (hwalk c h5 _ _ hSY) ?_
  rintro e a' w' ⟨s', y', ⟨rfl, hq⟩, hSY'⟩
  rcases hq with rfl | ⟨pre, rfl⟩
  · obtain ⟨C, E0, k0, E, q1, q2, q3, q4, rfl, q5⟩ := xhz (y := (true, entsN nd ways ways.length)) rfl hSY'
    have hg := xyv q4.heap.below q2
    obtain ⟨v0, hv1, hv2⟩ := xlr (P := Tryz.prog) (fn := fn) (s := s') (rs := []) q4.heap q4.tmps (by rw [h4]; rfl)
    refine ⟨q4.defers, v0, hv1, ⟨v0, rfl⟩, ?_⟩
    exact .inl ⟨_, rfl, hJ _ _ _ none q1.1 hg (fun r e => by cases e)⟩
  · have hd : SYd JJ 32 s' (false, pre) a' w' := by
      unfold SY at hSY'
      rwa [if_neg (by simp)] at hSY'
    obtain ⟨q1, q2, q3, q4⟩ := hd
    have hv1 : _ := xw3 (P := Tryz.prog) (fn := fn) (by rw [h4]) a'.tmps w'
    refine ⟨q3, _, hv1, ⟨_, rfl⟩, ?_⟩
    exact .inr ⟨pre, trivial, q1⟩
end Go.Proofs.YtfkgckbdknpcnaaGreatDoor.AL

/- (*walk.trail).reach: its pieces; written by reachgen.py. -/
set_option linter.all false
set_option maxRecDepth 100000
namespace Go.Proofs.YtfkgckbdknpcnaaGreatDoor.AL
open Go Go.Proofs
def xut : AC := (.region [zo (.assign (.const (Value.slice none 0 0))) 2])
def xos : AC := (.region [zo (.move (zt 0)) 7, zo (.nilCheck (zt 7)) 8, zo (.fieldAddr 115 (zt 8) 0) 9, zo (.fieldAddr 26 (zt 9) 0) 10, zo (.load 24 (zt 10)) 11, zo (.call (zc (.builtin .len) #[zt 11] #[24])) 12, zo (.makeSlice 58 (zt 12) (zt 12)) 13, zo (.alloc 58) 3, ⟨.store 58 (zt 3) (zt 13), none, none⟩])
def x7r : AC := (.seq (.region [zo (.move (zt 0)) 14, zo (.nilCheck (zt 14)) 15, zo (.fieldAddr 115 (zt 15) 1) 16, zo (.load 51 (zt 16)) 17, zo (.call (zc (.builtin .len) #[zt 17] #[51])) 18, zo (.move (zi (0))) 19]) (.block 0 (.loop (.seq (.region [zo (.binOp .lss 3 (zt 19) (zt 18) 3) 20]) (.seq (.cond (zt 20) .skip (.exit 0)) (.seq (.block 1 (.seq (.region [zo (.indexAddr 51 (zt 17) (zt 19)) 21, zo (.load 77 (zt 21)) 22, zo (.alloc 77) 5, ⟨.store 77 (zt 5) (zt 22), none, none⟩]) (.region [zo (.load 58 (zt 3)) 23, zo (.fieldAddr 77 (zt 5) 0) 24, zo (.load 3 (zt 24)) 25, zo (.binOp .sub 3 (zt 25) (zi (1)) 3) 26, zo (.indexAddr 58 (zt 23) (zt 26)) 27, ⟨.store 4 (zt 27) (.const (Value.bool true)), none, none⟩]))) (.region [zo (.binOp .add 3 (zt 19) (zi (1)) 3) 28, zo (.move (zt 28)) 19])))))))
def xyt : AC := (.region [zo (.move (zt 0)) 29, zo (.call (zc (.value (.func 68)) #[zt 29] #[91])) 30])
def xbm : AC := (.region [zo (.alloc 87) 6, ⟨.store 87 (zt 6) (zt 31), none, none⟩])
def xol : AC := (.block 3 (.seq (.region [zo (.fieldAddr 87 (zt 6) 1) 32, zo (.load 3 (zt 32)) 33, zo (.binOp .geq 3 (zt 33) (zi (1)) 3) 34, zo (.move (zt 34)) 35, ⟨.fieldAddr 87 (zt 6) 1, some 36, (some (35, true))⟩, ⟨.load 3 (zt 36), some 37, (some (35, true))⟩, ⟨.load 58 (zt 3), some 38, (some (35, true))⟩, ⟨.call (zc (.builtin .len) #[zt 38] #[58]), some 39, (some (35, true))⟩, ⟨.binOp .leq 3 (zt 37) (zt 39) 3, some 40, (some (35, true))⟩, zo (.pick (zt 35) (zt 40) (.const (Value.bool false))) 41]) (.cond (zt 41) (.region [zo (.load 58 (zt 3)) 42, zo (.fieldAddr 87 (zt 6) 1) 43, zo (.load 3 (zt 43)) 44, zo (.binOp .sub 3 (zt 44) (zi (1)) 3) 45, zo (.indexAddr 58 (zt 42) (zt 45)) 46, ⟨.store 4 (zt 46) (.const (Value.bool true)), none, none⟩]) .skip)))
def xal : AC := (.seq (.region [zo (.load 58 (zt 3)) 47, zo (.assign (zt 47)) 2]) .ret)
theorem xidb : ∃ (fn : Func) (c0 c1 c2 c7 asg bd ct : Code), Tryz.prog.funcs[43]? = some fn ∧ fn.body = some (.seq c0 (.seq c1 (.seq c2 (.seq (.seq c7 (.block 2 (.rangeFunc (.tmp 30) #[31] asg bd))) ct)))) ∧ fn.ntmps = 48 ∧ fn.results.toList = [.tmp 2] ∧ callable Tryz.prog 43 = true ∧ comp 48 c0 = some xut ∧ comp 48 c1 = some xos ∧ comp 48 c2 = some x7r ∧ comp 48 c7 = some xyt ∧ comp 48 asg = some xbm ∧ comp 48 bd = some xol ∧ comp 48 ct = some xal :=
  ⟨Tryz.f43, _, _, _, _, _, _, _, Tryz.func43, rfl, rfl, rfl, by kernel_rfl, by kernel_rfl, by kernel_rfl, by kernel_rfl, by kernel_rfl, by kernel_rfl, by kernel_rfl, by kernel_rfl⟩
end Go.Proofs.YtfkgckbdknpcnaaGreatDoor.AL

/- (*walk.trail).reach: the walk ahead of the range over a function. -/
set_option linter.all false
namespace Go.Proofs.YtfkgckbdknpcnaaGreatDoor.AL
open Go Go.Proofs Go.RowKit
theorem x9eb (b : Branch) (ways : List Way) : Ok Tryz.prog 68 [.ptr (xmc b ways) 0] (.fn (.func 90) [] [.ptr (.ptr (xmc b ways) 0) 0]) := by
  refine okF x0r (by simp) ?_
  have h := xbl b ways
  unfold xim
  generalize xmc b ways = X at h
  simp only [R91, EV, ↓EVd, isCall, Nat.reduceAdd, Nat.reduceSub, Nat.reduceMul, Nat.reduceEqDiff, Nat.reduceBEq, Nat.reduceLT, Nat.reduceLeDiff, ↓reduceIte, reduceCtorEq]
  exact ⟨4, _, by simp [frz, frzs, closed, closeds, h, upd], Sub.refl _⟩
def stepW (bs : List Bool) (w : Way) : List Bool := bs.set (w.ino - 1).toNat true
def stepE (bs : List Bool) (e : Entry) : List Bool := if 1 ≤ e.ino ∧ e.ino ≤ (bs.length : Int) then bs.set (e.ino - 1).toNat true else bs
theorem x7n (bs : List Bool) (w : Way) : (stepW bs w).length = bs.length := by simp [stepW]
theorem xh0 (bs : List Bool) (e : Entry) : (stepE bs e).length = bs.length := by unfold stepE; split <;> simp
theorem x0z (ws : List Way) : ∀ bs : List Bool, (ws.foldl stepW bs).length = bs.length := by
  induction ws with
  | nil => intro bs; rfl
  | cons w ws ih => intro bs; rw [List.foldl_cons, ih, x7n]
theorem xpo (es : List Entry) : ∀ bs : List Bool, (es.foldl stepE bs).length = bs.length := by
  induction es with
  | nil => intro bs; rfl
  | cons w ws ih => intro bs; rw [List.foldl_cons, ih, xh0]
def KS (b : Branch) (ways : List Way) (s : AS) : Prop :=
  s.T 3 = .loc 8 1 0 0 ∧ s.T 30 = .fn (.func 90) [] [.ptr (.ptr (xmc b ways) 0) 0] ∧ s.H 7 = some (.row 4 1 ((ways.foldl stepW (List.replicate b.nodes.length false)).map bool)) ∧ s.H 8 = some (.row 58 1 [.msl 7 b.nodes.length]) ∧ 8 < s.nx
set_option maxHeartbeats 2000000 in
theorem xfab (b : Branch) (ways : List Way) (hi : ∀ w ∈ ways, 1 ≤ w.ino ∧ w.ino ≤ (b.nodes.length : Int)) (hN : b.nodes.length ≤ 281474976710656) (hW : ways.length < 4611686018427387904) :
    cw Tryz.prog 48 (.seq xut (.seq xos (.seq x7r xyt))) (fun e s => e = .normal ∧ KS b ways s) ⟨argT [.ptr (xmc b ways) 0], fun _ => none, 0⟩ := by
  have e2_0 := eq_true (show (0 : Int) ≤ (b.nodes.length : Int) by omega)
  have e2_1 := eq_true (show (b.nodes.length : Int) ≤ (b.nodes.length : Int) by omega)
  have e2_2 := eq_true (show (1 : Int) * (b.nodes.length : Int) ≤ 281474976710656 by omega)
  have e2_3 := eq_true (show (b.nodes.length : Int) ≤ 9223372036854775807 by omega)
  have hTRc := xbl b ways
  have hnm := x9eb b ways
  have e3 : List.replicate ((b.nodes.length : Int).toNat) (bool false) = (List.replicate b.nodes.length false).map bool := by simp
  unfold xut xos x7r xyt KS
  unfold xmc at hTRc hnm ⊢
  simp only [e2_0, e2_1, e2_2, e2_3, e3, Int.toNat_natCast, R3, R4, R24, R26, R51, R77, R58, R115, R91, DBranch, DNode, DWay, EV, ↓EVd, isCall, Nat.reduceAdd, Nat.reduceSub, Nat.reduceMul, Nat.reduceEqDiff, Nat.reduceBEq, Nat.reduceLT, Nat.reduceLeDiff, ↓reduceIte, reduceCtorEq]
  generalize hTR : (AV.agg [sll 13 xf b.nodes, sll 3 encWay ways, AV.junk, AV.junk]) = TR at hTRc hnm
  refine xnt (fun k s => ∃ i : Nat, i ≤ ways.length ∧ k = ways.length - i + 1 ∧ s.T 0 = TR.ptr 0 ∧ s.T 3 = .loc 8 1 0 0 ∧ s.T 17 = sll 3 encWay ways ∧ s.T 18 = int ways.length ∧ s.T 19 = int i ∧
    s.H 7 = some (.row 4 1 (((ways.take i).foldl stepW (List.replicate b.nodes.length false)).map bool)) ∧ s.H 8 = some (.row 58 1 [.msl 7 b.nodes.length]) ∧ 8 < s.nx) (ways.length + 1) ⟨0, by omega, by omega, rfl, rfl, rfl, rfl, rfl, by simp [upd], by simp [upd], by show 8 < 16; omega⟩ ?_ ?_
  · rintro s ⟨i, h1, h2, _⟩; omega
  rintro k ⟨T, H, nx⟩ ⟨i, hi', hk, h0, h3, h17, h18, h19, g7, g8, hnx⟩
  dsimp only at h0 h3 h17 h18 h19 g7 g8 hnx
  have hL : ((ways.take i).foldl stepW (List.replicate b.nodes.length false)).length = b.nodes.length := by rw [x0z]; simp
  generalize hbs : (ways.take i).foldl stepW (List.replicate b.nodes.length false) = bs at g7 hL
  have q7 : 7 < nx := by omega
  have kk := And.intro (And.intro (ne2 hnx) (And.intro (ne2' hnx) (lt2 hnx))) (And.intro (ne2 q7) (And.intro (ne2' q7) (lt2 q7)))
  apply cw_cwp
  simp only [h0, h3, h17, h18, h19, g7, g8, kk, Int.toNat_natCast, R3, R4, R24, R26, R51, R77, R58, R115, R91, DBranch, DNode, DWay, EV, ↓EVd, isCall, Nat.reduceAdd, Nat.reduceSub, Nat.reduceMul, Nat.reduceEqDiff, Nat.reduceBEq, Nat.reduceLT, Nat.reduceLeDiff, ↓reduceIte, reduceCtorEq]
  refine ⟨fun hlt => ?_, fun hlt => ?_⟩
  rotate_left
  · have : i = ways.length := by omega
    subst this
    rw [List.take_length] at hbs
    refine S1_ok hnm rfl (by simp [closeds, closed, hTRc]) ?_
    simp only [h0, h3, h17, h18, h19, g7, g8, kk, Int.toNat_natCast, R3, R4, R24, R26, R51, R77, R58, R115, R91, DBranch, DNode, DWay, EV, ↓EVd, isCall, Nat.reduceAdd, Nat.reduceSub, Nat.reduceMul, Nat.reduceEqDiff, Nat.reduceBEq, Nat.reduceLT, Nat.reduceLeDiff, ↓reduceIte, reduceCtorEq]
    rw [hbs]
  have hi2 : i < ways.length := by omega
  obtain ⟨w1, w2⟩ := hi _ (List.getElem_mem hi2)
  have e7 : ((0 : Int) ≤ (i : Int)) = True := eq_true (by omega)
  have e8 : (ways.map encWay)[i]? = some (encWay ways[i]) := by simp [hi2]
  have e9 : wr ((i : Int) + 1) = ((i + 1 : Nat) : Int) := by rw [wr_in (by omega) (by omega)]; omega
  have e10 : wr (ways[i].ino - 1) = ways[i].ino - 1 := wr_in (by omega) (by omega)
  have e11 : ((0 : Int) ≤ ways[i].ino - 1) = True := eq_true (by omega)
  obtain ⟨x0, hx0⟩ : ∃ x0, bs[(ways[i].ino - 1).toNat]? = some x0 := ⟨bs[(ways[i].ino - 1).toNat]'(by omega), List.getElem?_eq_getElem _⟩
  have e13 : (bs.map bool)[(ways[i].ino - 1).toNat]? = some (bool x0) := by rw [List.getElem?_map, hx0]; rfl
  have e12 : (ways[i].ino - 1 < (b.nodes.length : Int)) = True := eq_true (by omega)
  simp only [e7, e8, e9, e10, e11, e12, e13, h0, h3, h17, h18, h19, g7, g8, kk, Int.toNat_natCast, R3, R4, R24, R26, R51, R77, R58, R115, R91, DBranch, DNode, DWay, EV, ↓EVd, isCall, Nat.reduceAdd, Nat.reduceSub, Nat.reduceMul, Nat.reduceEqDiff, Nat.reduceBEq, Nat.reduceLT, Nat.reduceLeDiff, ↓reduceIte, reduceCtorEq]
  exact ⟨i + 1, by omega, by omega, rfl, by rw [List.take_succ_eq_append_getElem hi2, List.foldl_append, hbs]; rfl⟩
end Go.Proofs.YtfkgckbdknpcnaaGreatDoor.AL

/- (*walk.trail).reach: the range over a function, and what is handed back. -/
set_option linter.all false
namespace Go.Proofs.YtfkgckbdknpcnaaGreatDoor.AL
open Go Go.Proofs Go.RowKit
def kp (l : Nat) : Bool := l == 7 || l == 8
def Hk (n : Nat) (bs : List Bool) : Nat → Option AO := fun l => if l = 7 then some (.row 4 1 (bs.map bool)) else if l = 8 then some (.row 58 1 [.msl 7 n]) else none
def Er (Es : Env) (Z : Nat → Prop) (W : World) : Env := { Z := Z, w := W, L := fun l => if kp l = true then Es.L l else none, K := Es.K }
theorem VReps.bools {E E' : Env} : ∀ (bs : List Bool) (us : List Value), VReps E (bs.map bool) us → VReps E' (bs.map bool) us
  | [], us, h => by simpa only [List.map_nil, VReps] using h
  | x :: bs, us, h => by
    simp only [List.map_cons, VReps] at h ⊢
    obtain ⟨u, us', h1, h2, h3⟩ := h
    exact ⟨u, us', by simpa only [bool, VRep] using h1, VReps.bools bs us' h2, h3⟩
theorem kp7 : kp 7 = true := rfl
theorem kp8 : kp 8 = true := rfl
theorem HR.shrink {C : Ctx} {Es E : Env} {Z : Nat → Prop} {H : Nat → Option AO} {n : Nat} {bs : List Bool} (hR : HR C E H) (h7 : H 7 = some (.row 4 1 (bs.map bool))) (h8 : H 8 = some (.row 58 1 [.msl 7 n]))
    (hL : ∀ l, kp l = true → E.L l = Es.L l) (hK : Es.K 7 ∧ Es.K 8) (hZ : ∀ b, Z b → E.Z b) : HR C (Er Es Z E.w) (Hk n bs) := by
  have e7 := hR.dom 7
  have e8 := hR.dom 8
  rw [h7, hL 7 rfl] at e7
  rw [h8, hL 8 rfl] at e8
  simp only [Option.isSome_some] at e7 e8
  refine ⟨hR.below, hR.base, fun b hb => hR.zlt b (hZ b hb), ?_, fun b hb => hR.zsrc b (hZ b hb), ?_, ?_, ?_, ?_, ?_⟩
  · intro b hb l c e
    simp only [Er] at e
    split at e
    · rename_i hk; rw [← hL l hk] at e; exact hR.zlive b (hZ b hb) l c e
    · cases e
  · intro l
    simp only [Hk, Er, kp]
    by_cases h : l = 7
    · subst h; simpa using e7
    · by_cases h' : l = 8
      · subst h'; simpa using e8
      · simp [h, h']
  · intro l x e
    simp only [Er, kp] at e
    by_cases h : l = 7
    · subst h; exact hK.1
    · by_cases h' : l = 8
      · subst h'; exact hK.2
      · simp [h, h'] at e
  · intro l l' b c c' e e'
    simp only [Er] at e e'
    split at e
    · split at e'
      · rename_i g g'
        rw [← hL l g] at e
        rw [← hL l' g'] at e'
        exact hR.inj l l' b c c' e e'
      · cases e'
    · cases e
  · intro l o p ho hp
    simp only [Er] at hp
    split at hp
    · rename_i hk
      rw [← hL l hk] at hp
      simp only [Hk] at ho
      by_cases h : l = 7
      · subst h
        simp only [if_true] at ho
        injection ho with ho
        subst ho
        have := hR.obj 7 _ p h7 hp
        cases p with
        | none => simpa only [ORep] using this
        | some q =>
          obtain ⟨b, c⟩ := q
          simp only [ORep] at this ⊢
          obtain ⟨cur, us, g1, g2, g3⟩ := this
          exact ⟨cur, us, g1, VReps.bools _ _ g2, g3⟩
      · by_cases h' : l = 8
        · subst h'
          simp only [if_neg h, if_true] at ho
          injection ho with ho
          subst ho
          have := hR.obj 8 _ p h8 hp
          cases p with
          | none => simpa only [ORep] using this
          | some q =>
            obtain ⟨b, c⟩ := q
            simp only [ORep] at this ⊢
            obtain ⟨cur, us, g1, g2, g3⟩ := this
            refine ⟨cur, us, g1, ?_, g3⟩
            simp only [VReps, VRep] at g2 ⊢
            obtain ⟨u, us', ⟨A, c0, q1, q2, q3, q4, q5, q6⟩, r1, r2⟩ := g2
            refine ⟨u, us', ⟨A, c0, hK.1, q2, q3, q4, ?_, ?_⟩, r1, r2⟩
            · intro b c e; simp only [Er, kp7, if_true] at e; rw [← hL 7 rfl] at e; exact q5 b c e
            · intro e; simp only [Er, kp7, if_true] at e; rw [← hL 7 rfl] at e; exact q6 e
        · simp [h, h'] at ho
    · cases hp
  · intro l b c e
    simp only [Er] at e
    split at e
    · rename_i hk; rw [← hL l hk] at e; exact hR.old l b c e
    · cases e
theorem HR.grown {C : Ctx} {Es : Env} {Z : Nat → Prop} {W W' : World} {n B : Nat} {bs : List Bool} {row : Option Nat} (hR : HR C (Er Es Z W) (Hk n bs)) (hg : W.grownBy W' row) (hrow : ∀ r, row = some r → B ≤ r ∧ ∃ o : Obj, W.heap[r]? = some o ∧ o.isCells = false)
    (hB : C.base ≤ B) (hZ : ∀ b, Z b → b < B) : HR C (Er Es Z W') (Hk n bs) := by
  have hblock : ∀ b, b < W.heap.size → (∀ r, row = some r → b ≠ r) → W'.heap[b]? = W.heap[b]? := fun b hb hr => hg.block b hb (fun e => hr b e.symm rfl)
  refine ⟨?_, Nat.le_trans hR.base hg.size, fun b hb => Nat.lt_of_lt_of_le (hR.zlt b hb) hg.size, hR.zlive, hR.zsrc, hR.dom, hR.known, hR.inj, ?_, fun l b c e => ⟨(hR.old l b c e).1, Nat.lt_of_lt_of_le (hR.old l b c e).2 hg.size⟩⟩
  · refine ⟨hg.os.trans hR.below.os, hg.tape.trans hR.below.tape, hg.output.trans hR.below.output, Nat.le_trans hR.below.size hg.size, fun k hk => ?_⟩
    refine (hblock k (Nat.lt_of_lt_of_le hk hR.base) fun r e => ?_).trans (hR.below.block k hk)
    have := (hrow r e).1
    omega
  · intro l o p ho hp
    have hst : Stab (Er Es Z W) (Er Es Z W') := ⟨fun _ h => h, fun _ _ _ h => h, fun b hb => ⟨hb, hblock b (hR.zlt b hb) fun r e => by have := (hrow r e).1; have := hZ b hb; omega⟩⟩
    have h0 := hR.obj l o p ho hp
    refine ORep.stab hst ?_ h0
    rintro b c rfl
    refine hblock b (hR.old l b c hp).2 fun r e => ?_
    rintro rfl
    obtain ⟨_, ob, g1, g2⟩ := hrow b e
    have : ∃ T sz xs, o = .row T sz xs := by
      simp only [Hk] at ho
      split at ho
      · injection ho with ho; exact ⟨_, _, _, ho.symm⟩
      · split at ho
        · injection ho with ho; exact ⟨_, _, _, ho.symm⟩
        · cases ho
    obtain ⟨T, sz, xs, rfl⟩ := this
    simp only [ORep] at h0
    obtain ⟨cur, us, q1, _⟩ := h0
    have e1 : (Er Es Z W).w.heap[b]? = W.heap[b]? := rfl
    rw [e1, g1] at q1
    injection q1 with q1
    subst q1
    cases g2
section
variable {T : Nat → AV} {H : Nat → Option AO} {nx n : Nat} {x : Entry} {bs : List Bool}
theorem xtdb (h3 : T 3 = .loc 8 1 0 0) (h31 : T 31 = xt x) (g7 : H 7 = some (.row 4 1 (bs.map bool))) (g8 : H 8 = some (.row 58 1 [.msl 7 n])) (hnx : 8 < nx) :
    cw Tryz.prog 48 xbm (fun e s => e = .normal ∧ s.T 3 = .loc 8 1 0 0 ∧ (∃ lb, s.T 6 = .loc lb 3 0 0 ∧ lb ≠ 7 ∧ lb ≠ 8 ∧ s.H lb = some (.row 87 3 [xt x])) ∧ s.H 7 = some (.row 4 1 (bs.map bool)) ∧ s.H 8 = some (.row 58 1 [.msl 7 n])) ⟨T, H, nx⟩ := by
  have q7 : 7 < nx := by omega
  have kk := And.intro (And.intro (ne2 hnx) (And.intro (ne2' hnx) (lt2 hnx))) (And.intro (ne2 q7) (And.intro (ne2' q7) (lt2 q7)))
  unfold xbm
  simp only [h3, h31, g7, g8, kk, Int.toNat_natCast, R3, R4, R87, R58, DEntry, EV, ↓EVd, isCall, Nat.reduceAdd, Nat.reduceSub, Nat.reduceMul, Nat.reduceEqDiff, Nat.reduceBEq, Nat.reduceLT, Nat.reduceLeDiff, ↓reduceIte, reduceCtorEq]
  have n7 : (7 = nx) = False := by simp; omega
  have n8 : (8 = nx) = False := by simp; omega
  simp only [n7, n8, if_false, and_true]
  exact ⟨nx, rfl, by omega, by omega, by simp⟩
set_option maxHeartbeats 1000000 in
theorem xp9 (h3 : T 3 = .loc 8 1 0 0) (h6 : T 6 = .ptr (xt x) 0) (g7 : H 7 = some (.row 4 1 (bs.map bool))) (g8 : H 8 = some (.row 58 1 [.msl 7 n])) (hnx : 8 < nx) (hn : bs.length = n) (hN : n ≤ 281474976710656) :
    cw Tryz.prog 48 xol (fun e s => e = .normal ∧ s.H 7 = some (.row 4 1 ((stepE bs x).map bool)) ∧ s.H 8 = some (.row 58 1 [.msl 7 n])) ⟨T, H, nx⟩ := by
  have q7 : 7 < nx := by omega
  have kk := And.intro (And.intro (ne2 hnx) (And.intro (ne2' hnx) (lt2 hnx))) (And.intro (ne2 q7) (And.intro (ne2' q7) (lt2 q7)))
  unfold xol
  unfold stepE
  by_cases h1 : 1 ≤ x.ino
  · have e1 := eq_true h1
    by_cases h2 : x.ino ≤ (n : Int)
    · have e2 := eq_true h2
      obtain ⟨x0, hx0⟩ : ∃ x0, bs[(x.ino - 1).toNat]? = some x0 := ⟨bs[(x.ino - 1).toNat]'(by omega), List.getElem?_eq_getElem _⟩
      have e13 : (bs.map bool)[(x.ino - 1).toNat]? = some (bool x0) := by rw [List.getElem?_map, hx0]; rfl
      have e10 : wr (x.ino - 1) = x.ino - 1 := wr_in (by omega) (by omega)
      have e11 : ((0 : Int) ≤ x.ino - 1) = True := eq_true (by omega)
      have e12 : (x.ino - 1 < (n : Int)) = True := eq_true (by omega)
      simp only [e1, e2, e10, e11, e12, e13, h3, h6, g7, g8, kk, hn, and_self, true_and, and_true, if_true, Int.toNat_natCast, R3, R4, R87, R58, DEntry, EV, ↓EVd, isCall, Nat.reduceAdd, Nat.reduceSub, Nat.reduceMul, Nat.reduceEqDiff, Nat.reduceBEq, Nat.reduceLT, Nat.reduceLeDiff, ↓reduceIte, reduceCtorEq]
    · have e2 := eq_false h2
      simp only [e1, e2, h3, h6, g7, g8, kk, hn, and_false, if_false, and_self, true_and, and_true, Int.toNat_natCast, R3, R4, R87, R58, DEntry, EV, ↓EVd, isCall, Nat.reduceAdd, Nat.reduceSub, Nat.reduceMul, Nat.reduceEqDiff, Nat.reduceBEq, Nat.reduceLT, Nat.reduceLeDiff, ↓reduceIte, reduceCtorEq]
  · have e1 := eq_false h1
    simp only [e1, h3, h6, g7, g8, kk, false_and, if_false, and_self, true_and, and_true, Int.toNat_natCast, R3, R4, R87, R58, DEntry, EV, ↓EVd, isCall, Nat.reduceAdd, Nat.reduceSub, Nat.reduceMul, Nat.reduceEqDiff, Nat.reduceBEq, Nat.reduceLT, Nat.reduceLeDiff, ↓reduceIte, reduceCtorEq]
theorem xgab (h3 : T 3 = .loc 8 1 0 0) (g7 : H 7 = some (.row 4 1 (bs.map bool))) (g8 : H 8 = some (.row 58 1 [.msl 7 n])) :
    cw Tryz.prog 48 xal (fun e s => e = .ret ∧ s.T 2 = .msl 7 n ∧ s.H 7 = some (.row 4 1 (bs.map bool)) ∧ s.H 8 = some (.row 58 1 [.msl 7 n])) ⟨T, H, nx⟩ := by
  unfold xal
  simp only [h3, g7, g8, Int.toNat_natCast, R3, R4, R87, R58, DEntry, EV, ↓EVd, isCall, Nat.reduceAdd, Nat.reduceSub, Nat.reduceMul, Nat.reduceEqDiff, Nat.reduceBEq, Nat.reduceLT, Nat.reduceLeDiff, ↓reduceIte, reduceCtorEq]
end
def Xb (Es : Env) (b : Nat) : Prop := ∃ l c, kp l = true ∧ Es.L l = some (some (b, c))
def Z1 (C : Ctx) (Es : Env) (Z : Nat → Prop) (W : World) (b : Nat) : Prop := Z b ∨ (C.base ≤ b ∧ b < W.heap.size ∧ ¬ Xb Es b)
theorem HR.wide {C : Ctx} {Es : Env} {Z : Nat → Prop} {W : World} {H : Nat → Option AO} (hR : HR C (Er Es Z W) H) : HR C (Er Es (Z1 C Es Z W) W) H ∧ Stab (Er Es Z W) (Er Es (Z1 C Es Z W) W) := by
  have hst : Stab (Er Es Z W) (Er Es (Z1 C Es Z W) W) := ⟨fun _ h => h, fun _ _ _ h => h, fun b hb => ⟨.inl hb, rfl⟩⟩
  refine ⟨⟨hR.below, hR.base, ?_, ?_, ?_, hR.dom, hR.known, hR.inj, fun l o p ho hp => ORep.stab hst (fun _ _ _ => rfl) (hR.obj l o p ho hp), hR.old⟩, hst⟩
  · rintro b (hb | hb)
    · exact hR.zlt b hb
    · exact hb.2.1
  · rintro b (hb | hb) l c e
    · exact hR.zlive b hb l c e
    · simp only [Er] at e
      split at e
      · exact hb.2.2 ⟨l, c, ‹_›, e⟩
      · cases e
  · rintro b (hb | hb)
    · exact hR.zsrc b hb
    · exact .inr hb.1
theorem after {C : Ctx} {Es : Env} {Z : Nat → Prop} {W : World} {n k0 : Nat} {bs bs' : List Bool} {s2 : AS} {a2 : Act} {E2 : Env} (hR : HR C (Er Es Z W) (Hk n bs)) (hK : Es.K 7 ∧ Es.K 8)
    (hS : SR C (Er Es (Z1 C Es Z W) W) k0 48 s2 a2 E2) (g7 : s2.H 7 = some (.row 4 1 (bs'.map bool))) (g8 : s2.H 8 = some (.row 58 1 [.msl 7 n])) :
    HR C (Er Es Z E2.w) (Hk n bs') ∧ W.heap.size ≤ E2.w.heap.size ∧ (∀ b o, ¬ Xb Es b → W.heap[b]? = some o → E2.w.heap[b]? = some o) := by
  have hL : ∀ l, kp l = true → E2.L l = Es.L l := by
    intro l hl
    have hk : (Er Es (Z1 C Es Z W) W).K l := by
      simp only [kp, Bool.or_eq_true, beq_iff_eq] at hl
      rcases hl with rfl | rfl
      · exact hK.1
      · exact hK.2
    have hd := hS.heap.dom l
    have : (s2.H l).isSome = true := by
      simp only [kp, Bool.or_eq_true, beq_iff_eq] at hl
      rcases hl with rfl | rfl
      · rw [g7]; rfl
      · rw [g8]; rfl
    rw [this] at hd
    obtain ⟨p, hp⟩ := Option.isSome_iff_exists.1 hd.symm
    have := hS.stab.L l hk p hp
    simp only [Er, hl, if_true] at this
    rw [hp, this]
  have hZ : ∀ b, Z b → E2.Z b := fun b hb => (hS.stab.Z b (.inl hb)).1
  have hkeep : ∀ b o, ¬ Xb Es b → W.heap[b]? = some o → E2.w.heap[b]? = some o := by
    intro b o hx ho
    by_cases hb : b < C.base
    · rw [hS.heap.below.block b hb, ← hR.below.block b hb]; exact ho
    · have hlt : b < W.heap.size := (Array.getElem?_eq_some_iff.1 ho).1
      rw [(hS.stab.Z b (.inr ⟨by omega, hlt, hx⟩)).2]; exact ho
  refine ⟨HR.shrink hS.heap g7 g8 hL hK hZ, ?_, hkeep⟩
  by_cases h0 : W.heap.size ≤ C.base
  · exact Nat.le_trans h0 hS.heap.base
  · have hlt : W.heap.size - 1 < W.heap.size := by omega
    by_cases hx : Xb Es (W.heap.size - 1)
    · obtain ⟨l, c, hl, e⟩ := hx
      rw [← hL l hl] at e
      have := (hS.heap.old l _ c e).2
      omega
    · have := hkeep (W.heap.size - 1) W.heap[W.heap.size - 1] hx (Array.getElem?_eq_getElem hlt)
      have := (Array.getElem?_eq_some_iff.1 this).1
      omega
def nK (K : AS → Prop) : Exit → AS → Prop := fun e s => e = .normal ∧ K s
theorem peel {P : Program} {n m k0 : Nat} {K : AS → Prop} {C : Ctx} {E0 E : Env} {a : Act} {s : AS} {Q : Exit → Act → World → Prop} {c1 c2 : Code} {x y : AC} (hc : comp n c1 = some x) (h : cw P n (.seq x y) (nK K) s) (hk : k0 ≤ s.nx) (hS : SR C E0 k0 n s a E)
    (k : ∀ s' a' E', cw P n y (nK K) s' → k0 ≤ s'.nx → SR C E0 k0 n s' a' E' → c2.wpIn Fence.wide m P Q a' E'.w) : (Code.seq c1 c2).wpIn Fence.wide m P Q a E.w := by
  refine wpIn_seq (wpIn_mono (wpIn_wide.2 (cw_cwp x h c1 hc C E0 k0 E a hk hS)) ?_)
  rintro e a' w' ⟨s', E', h1, h2, h3, rfl⟩
  cases e with
  | normal => exact k s' a' E' h1 h2 h3
  | exit id => exact absurd h1.1 (by simp)
  | goto l => exact absurd h1.1 (by simp)
  | ret => exact absurd h1.1 (by simp)
  | panic ch => exact absurd h1.1 (by simp)
  | outgrown => exact absurd h1.1 (by simp)
end Go.Proofs.YtfkgckbdknpcnaaGreatDoor.AL

