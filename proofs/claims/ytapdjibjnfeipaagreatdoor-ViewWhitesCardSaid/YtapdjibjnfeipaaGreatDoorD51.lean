/- A law of the given program is proved: part 51 of 51. -/
import Derived.Test.YtapdjibjnfeipaaGreatDoorD50
set_option linter.all false
/- Models of functions, and that the functions are as their models: written by gen.py. -/
set_option linter.all false
set_option maxRecDepth 100000
namespace Go.Proofs.YtapdjibjnfeipaaGreatDoor.AL
open Go Go.Proofs
def xkc (a0 : Entry) (a1 : Stack) : Option (Bool) := if a0.ino = (a1.upper.nodes.length : Int) then some true
 else some false
def xzi := aI (aI (aI (@EV) (aI (@R3) (@R24))) (aI (@R26) (aI (@R29) (@R55)))) (aI (aI (@R68) (aI (@DBranch) (@DStack))) (aI (@DEntry) (aI (@DAttr) (@DNode))))
set_option maxHeartbeats 2000000 in
theorem xio (a0 : Entry) (a1 : Stack) (r : Bool) (hm0 : xkc a0 a1 = some r) : Ok Tryz.prog 34 [xr a0, .ptr (xi a1) 0] (bool r) := by
 unfold xkc at hm0
 refine okG x7n ?_
 unfold xij
 rcases iteE hm0 with ⟨e2, hm0⟩ | ⟨e2, hm0⟩
 · obtain rfl := Option.some.inj hm0
   simp only [e2, xzi, ↓EVd, isCall, sevalprocAttr]
   all_goals first | done | rfl
 obtain rfl := Option.some.inj hm0
 simp only [e2, xzi, ↓EVd, isCall, sevalprocAttr]
 all_goals first | done | rfl
def xdc (a0 : Stack) : (Int × Stack) → Option (St (Int × Stack) ((Stack) ⊕ (Bool)))
 | (v48, v49) => if v48 < (a0.upper.nodes.length : Int) then (ix a0.upper.nodes v48).bind fun v54 => (xoe (fun z => xkc z v49) v54.entries).bind fun v57 => if v57 = true then (x8b ).bind fun v61 => some (.out (.inr v61))
 else some (.nx ((wr (v48 + 1)), v49))
 else some (.out (.inl v49))
def xne (a0 : Stack) (a1 : ByteArray) (a2 : ByteArray) : Option (Bool) := (xqf a0 23).bind fun v1 => if (!v1) = true then (x8b ).bind fun v5 => some v5
 else if 40 < (a1.size : Int) then (x8b ).bind fun v9 => some v9
 else if 40 < (a2.size : Int) then (x8b ).bind fun v13 => some v13
 else if a1 = a2 then (x8b ).bind fun v17 => some v17
 else if (a0.upper.nodes.length : Int) = 0 then (x8b ).bind fun v21 => some v21
 else (ix a0.upper.nodes 0).bind fun v23 => if v23.kind = 1 then (cloneM 144 a0.upper.nodes).bind fun v28 => (ap 144 v28 ([(⟨4, 0, 0, 0, [], [], (⟨0, 0, xl, (⟨0, 0, 0⟩ : Origin), 0⟩ : Attr)⟩ : Node)] : List Node)).bind fun _ => (ap 32 ([(⟨0, ((v28 ++ ([(⟨4, 0, 0, 0, [], [], (⟨0, 0, xl, (⟨0, 0, 0⟩ : Origin), 0⟩ : Attr)⟩ : Node)] : List Node)).length : Int), a1⟩ : Entry)] : List Entry) v23.entries).bind fun _ => (ix v28 0).bind fun v39 => (ck (0 ≤ (a0.upper.nodes.length : Int) ∧ (a0.upper.nodes.length : Int) ≤ ((v28 ++ ([(⟨4, 0, 0, 0, [], [], (⟨0, 0, xl, (⟨0, 0, 0⟩ : Origin), 0⟩ : Attr)⟩ : Node)] : List Node)).length : Int))).bind fun _ => (iter (xdc a0) big (0, (⟨(⟨a0.geo.lowers, a0.geo.inodes, a0.geo.blocks, a0.geo.log⟩ : Geo), (⟨((v28 ++ ([(⟨4, 0, 0, 0, [], [], (⟨0, 0, xl, (⟨0, 0, 0⟩ : Origin), 0⟩ : Attr)⟩ : Node)] : List Node)).set 0 (⟨v39.kind, v39.impure, v39.nlink, v39.gen, v39.data, (([(⟨0, ((v28 ++ ([(⟨4, 0, 0, 0, [], [], (⟨0, 0, xl, (⟨0, 0, 0⟩ : Origin), 0⟩ : Attr)⟩ : Node)] : List Node)).length : Int), a1⟩ : Entry)] : List Entry) ++ v23.entries), (⟨v39.attr.has, v39.attr.opaque0, v39.attr.redirect, (⟨v39.attr.origin.layer, v39.attr.origin.ino, v39.attr.origin.gen⟩ : Origin), v39.attr.shown⟩ : Attr)⟩ : Node))⟩ : Branch), a0.lowers⟩ : Stack))).bind fun o => (match o with
 | (.inl v51) => (x6c v51).bind fun v63 => (x5c v51 v63 a1).bind fun v65 => (x6c a0).bind fun v67 => (x5c a0 v67 a2).bind fun v69 => (x6c v51).bind fun v71 => (x5c v51 v71 a2).bind fun v73 => if v65.1 = 0 then if v69.1 = v73.1 then if (decide (v69.2.2 = v73.2.2)) = true then (x6c v51).bind fun v81 => (xbe v51 v81).bind fun v83 => (xub v83 a1).bind fun v85 => if (!v85) = true then (x8b ).bind fun v89 => some v89
 else some false
 else some false
 else some false
 else some false
 | (.inr r) => some r)
 else (x8b ).bind fun v91 => some v91
def xb := aI (aI (aI (aI (@EV) (@R3)) (aI (@R9) (aI (@R24) (@R26)))) (aI (aI (@R29) (@R32)) (aI (@R42) (aI (@R45) (@R55))))) (aI (aI (aI (@R62) (@R68)) (aI (@DBranch) (aI (@DStack) (@DView)))) (aI (aI (@DPlace) (aI (@DEntry) (@DAttr))) (aI (@DNode) (aI (@eq45) (@mixed)))))
set_option maxHeartbeats 2000000 in
theorem x1p (a0 : Stack) (a1 : ByteArray) (a2 : ByteArray) (r : Bool) (hm0 : xne a0 a1 a2 = some r) : Ok Tryz.prog 6 [xi a0, str a1, str a2] (bool r) := by
 unfold xne at hm0
 refine okG x7p ?_
 unfold xil
 obtain ⟨v1, h2, hm0⟩ := bsE hm0
 simp only [xb, ↓EVd, isCall, sevalprocAttr]
 refine qc (xjv _ _ _ h2) rfl ?_
 rcases itbE hm0 with ⟨e4, hm0⟩ | ⟨e4, hm0⟩
 · obtain ⟨v5, h6, hm0⟩ := bsE hm0
   simp only [e4, xb, ↓EVd, isCall, sevalprocAttr]
   refine qc (x1c  _ h6) rfl ?_
   obtain rfl := Option.some.inj hm0
   simp only [e4, xb, ↓EVd, isCall, sevalprocAttr]
   all_goals first | done | rfl
 rcases iteE hm0 with ⟨e8, hm0⟩ | ⟨e8, hm0⟩
 · obtain ⟨v9, h10, hm0⟩ := bsE hm0
   simp only [e4, e8, xb, ↓EVd, isCall, sevalprocAttr]
   refine qc (x1c  _ h10) rfl ?_
   obtain rfl := Option.some.inj hm0
   simp only [e4, e8, xb, ↓EVd, isCall, sevalprocAttr]
   all_goals first | done | rfl
 rcases iteE hm0 with ⟨e12, hm0⟩ | ⟨e12, hm0⟩
 · obtain ⟨v13, h14, hm0⟩ := bsE hm0
   simp only [e4, e8, e12, xb, ↓EVd, isCall, sevalprocAttr]
   refine qc (x1c  _ h14) rfl ?_
   obtain rfl := Option.some.inj hm0
   simp only [e4, e8, e12, xb, ↓EVd, isCall, sevalprocAttr]
   all_goals first | done | rfl
 rcases iteE hm0 with ⟨e16, hm0⟩ | ⟨e16, hm0⟩
 · obtain ⟨v17, h18, hm0⟩ := bsE hm0
   simp only [e4, e8, e12, e16, xb, ↓EVd, isCall, sevalprocAttr]
   refine qc (x1c  _ h18) rfl ?_
   obtain rfl := Option.some.inj hm0
   simp only [e4, e8, e12, e16, xb, ↓EVd, isCall, sevalprocAttr]
   all_goals first | done | rfl
 rcases iteE hm0 with ⟨e20, hm0⟩ | ⟨e20, hm0⟩
 · obtain ⟨v21, h22, hm0⟩ := bsE hm0
   simp only [e4, e8, e12, e16, e20, xb, ↓EVd, isCall, sevalprocAttr]
   refine qc (x1c  _ h22) rfl ?_
   obtain rfl := Option.some.inj hm0
   simp only [e4, e8, e12, e16, e20, xb, ↓EVd, isCall, sevalprocAttr]
   all_goals first | done | rfl
 obtain ⟨v23, e25, hm0⟩ := ixE xh hm0
 try simp only [sevalprocAttr, eq_self, true_and] at e25
 rcases iteE hm0 with ⟨e27, hm0⟩ | ⟨e27, hm0⟩
 · obtain ⟨v28, h29, hm0⟩ := bsE hm0
   simp only [e4, e8, e12, e16, e20, e25, e27, xb, ↓EVd, isCall, sevalprocAttr]
   refine qco (xmv xoh x2d x0e xcs x0r rfl (by decide) xh _ _ h29 (fun z => by simp only [CLO])) rfl ?_
   obtain ⟨e32, hm0⟩ := apE hm0
   try simp only [ZL] at e32
   have g93 := And.intro (And.intro (And.intro ((e4)) ((e8))) (And.intro ((e12)) ((e16)))) (And.intro (And.intro ((e20)) ((e25))) (And.intro ((e27)) ((e32))))
   simp only [g93, xb, ↓EVd, isCall, sevalprocAttr]
   refine fineI [([], []), ([], []), ([37], []), ([], []), ([], []), ([37], []), ([], []), ([], []), ([], []), ([], []), ([], []), ([], []), ([0], []), ([], []), ([], []), ([], []), ([], [59]), ([45], []), ([], []), ([], [45])] rfl (by simp only [MT, sevalprocAttr]; first | done | omega) ?_
   have e34 : (.agg [int 0, int ((v28 ++ ([(⟨4, 0, 0, 0, [], [], (⟨0, 0, xl, (⟨0, 0, 0⟩ : Origin), 0⟩ : Attr)⟩ : Node)] : List Node)).length : Int), str a1] : AV) = xr (⟨0, ((v28 ++ ([(⟨4, 0, 0, 0, [], [], (⟨0, 0, xl, (⟨0, 0, 0⟩ : Origin), 0⟩ : Attr)⟩ : Node)] : List Node)).length : Int), a1⟩ : Entry) := _root_.id rfl
   obtain ⟨e37, hm0⟩ := apE hm0
   try simp only [ZL] at e37
   obtain ⟨v39, h40, hm0⟩ := bsE hm0
   have e41 := eq_true (xuv h40)
   have e42 := eq_true (ix_ltP (.agg [int 4, int 0, int 0, int 0, nilS, nilS, int 0, int 0, str xl, int 0, int 0, int 0, int 0]) h40)
   have e43 := (show (v28.map xh ++ [.agg [int 4, int 0, int 0, int 0, nilS, nilS, int 0, int 0, str xl, int 0, int 0, int 0, int 0]])[0]? = some (xh v39) from xr6 xh (.agg [int 4, int 0, int 0, int 0, nilS, nilS, int 0, int 0, str xl, int 0, int 0, int 0, int 0]) h40)
   obtain ⟨e45, hm0⟩ := ckE hm0
   have e46 : ∀ l, x3b Tryz.prog 24 (.msl l ((v28 ++ ([(⟨4, 0, 0, 0, [], [], (⟨0, 0, xl, (⟨0, 0, 0⟩ : Origin), 0⟩ : Attr)⟩ : Node)] : List Node))).length) none (some (int (a0.upper.nodes.length : Int))) none = some (.msl l a0.upper.nodes.length) := x72 x2d x0e e45
   try simp only [ZL] at e46
   have g94 := And.intro (And.intro (And.intro ((g93)) ((e34))) (And.intro ((e37)) ((e41)))) (And.intro (And.intro ((e42)) ((e43))) (And.intro ((e45)) ((e46))))
   obtain ⟨o0, ho0, hm0⟩ := bsE hm0
   simp only [g94, xb, ↓EVd, isCall, sevalprocAttr]
   refine cwp_cx 0 (fun s => ∃ v51 : Stack, (s.T 1 = str a1 ∧ s.T 2 = str a2 ∧ s.T 3 = .loc 0 6 0 0 ∧ s.T 7 = .loc 37 6 0 0 ∧ s.H 0 = some (.row 29 6 [xi a0]) ∧ s.H 37 = some (.row 29 6 [xi v51]) ∧ Lq 0 s.nx ∧ Lq 37 s.nx) ∧ (.inl v51) = o0) ?_ fun J0_0 hJ0_0 => ?_
   · rintro T0 H0 x50 ⟨v51, kk0_0, rfl⟩
     dsimp only [Lq, Nq] at kk0_0
     try dsimp only at hm0
     obtain ⟨v63, h64, hm0⟩ := bsE hm0
     simp only [kk0_0, g94, xb, ↓EVd, isCall, sevalprocAttr]
     refine qd (xye _ _ h64) rfl ?_
     obtain ⟨v65, h66, hm0⟩ := bsE hm0
     simp only [kk0_0, g94, xb, ↓EVd, isCall, sevalprocAttr]
     refine qd (x8e _ _ _ _ h66) rfl ?_
     obtain ⟨v67, h68, hm0⟩ := bsE hm0
     simp only [kk0_0, g94, xb, ↓EVd, isCall, sevalprocAttr]
     refine qd (xye _ _ h68) rfl ?_
     obtain ⟨v69, h70, hm0⟩ := bsE hm0
     simp only [kk0_0, g94, xb, ↓EVd, isCall, sevalprocAttr]
     refine qd (x8e _ _ _ _ h70) rfl ?_
     obtain ⟨v71, h72, hm0⟩ := bsE hm0
     simp only [kk0_0, g94, xb, ↓EVd, isCall, sevalprocAttr]
     refine qd (xye _ _ h72) rfl ?_
     obtain ⟨v73, h74, hm0⟩ := bsE hm0
     simp only [kk0_0, g94, xb, ↓EVd, isCall, sevalprocAttr]
     refine qd (x8e _ _ _ _ h74) rfl ?_
     rcases iteE hm0 with ⟨e76, hm0⟩ | ⟨e76, hm0⟩
     · rcases iteE hm0 with ⟨e78, hm0⟩ | ⟨e78, hm0⟩
       · rcases itbE hm0 with ⟨e80, hm0⟩ | ⟨e80, hm0⟩
         · obtain ⟨v81, h82, hm0⟩ := bsE hm0
           simp only [kk0_0, g94, e76, e78, e80, xb, ↓EVd, isCall, sevalprocAttr]
           refine qd (xye _ _ h82) rfl ?_
           obtain ⟨v83, h84, hm0⟩ := bsE hm0
           simp only [kk0_0, g94, e76, e78, e80, xb, ↓EVd, isCall, sevalprocAttr]
           refine qd (xxp _ _ _ h84) rfl ?_
           obtain ⟨v85, h86, hm0⟩ := bsE hm0
           simp only [kk0_0, g94, e76, e78, e80, xb, ↓EVd, isCall, sevalprocAttr]
           refine qd (x1h _ _ _ h86) rfl ?_
           rcases itbE hm0 with ⟨e88, hm0⟩ | ⟨e88, hm0⟩
           · obtain ⟨v89, h90, hm0⟩ := bsE hm0
             simp only [kk0_0, g94, e76, e78, e80, e88, xb, ↓EVd, isCall, sevalprocAttr]
             refine qd (x1c  _ h90) rfl ?_
             obtain rfl := Option.some.inj hm0
             simp only [kk0_0, g94, e76, e78, e80, e88, xb, ↓EVd, isCall, sevalprocAttr]
             all_goals first | done | rfl
           obtain rfl := Option.some.inj hm0
           simp only [kk0_0, g94, e76, e78, e80, e88, xb, ↓EVd, isCall, sevalprocAttr]
           all_goals first | done | rfl
         obtain rfl := Option.some.inj hm0
         simp only [kk0_0, g94, e76, e78, e80, xb, ↓EVd, isCall, sevalprocAttr]
         all_goals first | done | rfl
       obtain rfl := Option.some.inj hm0
       simp only [kk0_0, g94, e76, e78, xb, ↓EVd, isCall, sevalprocAttr]
       all_goals first | done | rfl
     obtain rfl := Option.some.inj hm0
     simp only [kk0_0, g94, e76, xb, ↓EVd, isCall, sevalprocAttr]
     all_goals first | done | rfl
   refine cwp_lp ho0 (fun (v48, v49) s => s.T 1 = str a1 ∧ s.T 2 = str a2 ∧ s.T 3 = .loc 0 6 0 0 ∧ s.T 7 = .loc 37 6 0 0 ∧ s.T 90 = int (a0.upper.nodes.length : Int) ∧ s.T 91 = int v48 ∧ s.H 0 = some (.row 29 6 [xi a0]) ∧ s.H 37 = some (.row 29 6 [xi v49]) ∧ Lq 0 s.nx ∧ Lq 37 s.nx) ?_ ?_
   · refine TI.by (Tn.rowi 45 68 13 (v28.map xh ++ [.agg [int 4, int 0, int 0, int 0, nilS, nilS, int 0, int 0, str xl, int 0, int 0, int 0, int 0]] : List AV) [int v39.kind, int v39.impure, int v39.nlink, int v39.gen, .sl 1 (v39.data.map u8), .msl 66 (1 + v23.entries.length), int v39.attr.has, int v39.attr.opaque0, str v39.attr.redirect, int v39.attr.origin.layer, int v39.attr.origin.ino, int v39.attr.origin.gen, int v39.attr.shown] 0 5 66 (1 + v23.entries.length) 55 3 ((([(⟨0, ((v28 ++ ([(⟨4, 0, 0, 0, [], [], (⟨0, 0, xl, (⟨0, 0, 0⟩ : Origin), 0⟩ : Attr)⟩ : Node)] : List Node)).length : Int), a1⟩ : Entry)] : List Entry) ++ v23.entries).map xr) (by simp only [g94, xb, ↓EVd, isCall, sevalprocAttr]; first | done | rfl) (by simp only [List.length_append, List.length_map, List.length_cons, List.length_nil]; omega) (by simp only [g94, xb, ↓EVd, isCall, sevalprocAttr]; first | done | rfl) rfl (by simp only [List.length_append, List.length_map, List.length_cons, List.length_nil]; first | done | omega) (by simp only [CLO]) (by simp only [g94, xb, ↓EVd, isCall, sevalprocAttr])) ?_
     refine TI.by (Tn.row 45 68 13 ((v28.map xh ++ [.agg [int 4, int 0, int 0, int 0, nilS, nilS, int 0, int 0, str xl, int 0, int 0, int 0, int 0]] : List AV).set 0 (.agg [int v39.kind, int v39.impure, int v39.nlink, int v39.gen, .sl 1 (v39.data.map u8), .sl 3 ((([(⟨0, ((v28 ++ ([(⟨4, 0, 0, 0, [], [], (⟨0, 0, xl, (⟨0, 0, 0⟩ : Origin), 0⟩ : Attr)⟩ : Node)] : List Node)).length : Int), a1⟩ : Entry)] : List Entry) ++ v23.entries).map xr), int v39.attr.has, int v39.attr.opaque0, str v39.attr.redirect, int v39.attr.origin.layer, int v39.attr.origin.ino, int v39.attr.origin.gen, int v39.attr.shown])) (((v28 ++ ([(⟨4, 0, 0, 0, [], [], (⟨0, 0, xl, (⟨0, 0, 0⟩ : Origin), 0⟩ : Attr)⟩ : Node)] : List Node)).set 0 (⟨v39.kind, v39.impure, v39.nlink, v39.gen, v39.data, (([(⟨0, ((v28 ++ ([(⟨4, 0, 0, 0, [], [], (⟨0, 0, xl, (⟨0, 0, 0⟩ : Origin), 0⟩ : Attr)⟩ : Node)] : List Node)).length : Int), a1⟩ : Entry)] : List Entry) ++ v23.entries), (⟨v39.attr.has, v39.attr.opaque0, v39.attr.redirect, (⟨v39.attr.origin.layer, v39.attr.origin.ino, v39.attr.origin.gen⟩ : Origin), v39.attr.shown⟩ : Attr)⟩ : Node)).map xh) (by simp only [g94, xb, ↓EVd, isCall, sevalprocAttr]; first | done | rfl) (Subs.seti1 xh v28 (show Sub (.agg [int 4, int 0, int 0, int 0, nilS, nilS, int 0, int 0, str xl, int 0, int 0, int 0, int 0]) (xh (⟨4, 0, 0, 0, [], [], (⟨0, 0, xl, (⟨0, 0, 0⟩ : Origin), 0⟩ : Attr)⟩ : Node)) from Sub.agg (.cons (.refl _) (.cons (.refl _) (.cons (.refl _) (.cons (.refl _) (.cons (.nilS _) (.cons (.nilS _) (.refl _)))))))) 0 (show Sub (.agg [int v39.kind, int v39.impure, int v39.nlink, int v39.gen, .sl 1 (v39.data.map u8), .sl 3 ((([(⟨0, ((v28 ++ ([(⟨4, 0, 0, 0, [], [], (⟨0, 0, xl, (⟨0, 0, 0⟩ : Origin), 0⟩ : Attr)⟩ : Node)] : List Node)).length : Int), a1⟩ : Entry)] : List Entry) ++ v23.entries).map xr), int v39.attr.has, int v39.attr.opaque0, str v39.attr.redirect, int v39.attr.origin.layer, int v39.attr.origin.ino, int v39.attr.origin.gen, int v39.attr.shown]) (xh (⟨v39.kind, v39.impure, v39.nlink, v39.gen, v39.data, (([(⟨0, ((v28 ++ ([(⟨4, 0, 0, 0, [], [], (⟨0, 0, xl, (⟨0, 0, 0⟩ : Origin), 0⟩ : Attr)⟩ : Node)] : List Node)).length : Int), a1⟩ : Entry)] : List Entry) ++ v23.entries), (⟨v39.attr.has, v39.attr.opaque0, v39.attr.redirect, (⟨v39.attr.origin.layer, v39.attr.origin.ino, v39.attr.origin.gen⟩ : Origin), v39.attr.shown⟩ : Attr)⟩ : Node)) from Sub.agg (.refl _)))) ?_
     refine TI.by (Tn.rowq 37 29 6 [] [int a0.geo.lowers, int a0.geo.inodes, int a0.geo.blocks, int a0.geo.log, .msl 45 ((v28 ++ ([(⟨4, 0, 0, 0, [], [], (⟨0, 0, xl, (⟨0, 0, 0⟩ : Origin), 0⟩ : Attr)⟩ : Node)] : List Node)).set 0 (⟨v39.kind, v39.impure, v39.nlink, v39.gen, v39.data, (([(⟨0, ((v28 ++ ([(⟨4, 0, 0, 0, [], [], (⟨0, 0, xl, (⟨0, 0, 0⟩ : Origin), 0⟩ : Attr)⟩ : Node)] : List Node)).length : Int), a1⟩ : Entry)] : List Entry) ++ v23.entries), (⟨v39.attr.has, v39.attr.opaque0, v39.attr.redirect, (⟨v39.attr.origin.layer, v39.attr.origin.ino, v39.attr.origin.gen⟩ : Origin), v39.attr.shown⟩ : Attr)⟩ : Node)).length, .sl 1 (a0.lowers.map xk)] 4 45 ((v28 ++ ([(⟨4, 0, 0, 0, [], [], (⟨0, 0, xl, (⟨0, 0, 0⟩ : Origin), 0⟩ : Attr)⟩ : Node)] : List Node)).set 0 (⟨v39.kind, v39.impure, v39.nlink, v39.gen, v39.data, (([(⟨0, ((v28 ++ ([(⟨4, 0, 0, 0, [], [], (⟨0, 0, xl, (⟨0, 0, 0⟩ : Origin), 0⟩ : Attr)⟩ : Node)] : List Node)).length : Int), a1⟩ : Entry)] : List Entry) ++ v23.entries), (⟨v39.attr.has, v39.attr.opaque0, v39.attr.redirect, (⟨v39.attr.origin.layer, v39.attr.origin.ino, v39.attr.origin.gen⟩ : Origin), v39.attr.shown⟩ : Attr)⟩ : Node)).length 68 13 (((v28 ++ ([(⟨4, 0, 0, 0, [], [], (⟨0, 0, xl, (⟨0, 0, 0⟩ : Origin), 0⟩ : Attr)⟩ : Node)] : List Node)).set 0 (⟨v39.kind, v39.impure, v39.nlink, v39.gen, v39.data, (([(⟨0, ((v28 ++ ([(⟨4, 0, 0, 0, [], [], (⟨0, 0, xl, (⟨0, 0, 0⟩ : Origin), 0⟩ : Attr)⟩ : Node)] : List Node)).length : Int), a1⟩ : Entry)] : List Entry) ++ v23.entries), (⟨v39.attr.has, v39.attr.opaque0, v39.attr.redirect, (⟨v39.attr.origin.layer, v39.attr.origin.ino, v39.attr.origin.gen⟩ : Origin), v39.attr.shown⟩ : Attr)⟩ : Node)).map xh) (by simp only [g94, xb, ↓EVd, isCall, sevalprocAttr]) (by simp only [g94, xb, ↓EVd, isCall, sevalprocAttr]) rfl (by simp only [g94, xb, ↓EVd, isCall, sevalprocAttr]) (by simp only [CLO]) (by simp only [g94, xb, ↓EVd, isCall, sevalprocAttr])) ?_
     refine TI.here ⟨?_, ?_, ?_, ?_, ?_, ?_, ?_, ?_, ?_, ?_⟩
     all_goals try simp only [g94, xb, ↓EVd, isCall, sevalprocAttr]
     all_goals first | omega | exact lq (by omega) | exact nq (by omega) | rfl | (congr 1; omega)
   rintro I0 ⟨v48, v49⟩ T0 H0 x47 st0 kk0 hm1 hI0 hO0
   dsimp only [Lq, Nq] at kk0
   simp only [xdc] at hm1
   rcases iteE hm1 with ⟨e53, hm1⟩ | ⟨e53, hm1⟩
   · obtain ⟨v54, e56, hm1⟩ := ixE xh hm1
     obtain ⟨v57, h58, hm1⟩ := bsE hm1
     simp only [kk0, g94, e53, e56, xb, ↓EVd, isCall, sevalprocAttr]
     refine qcb (xpg x3c x6b xre x3f (fi := []) (ca := [.ptr (xi v49) 0]) xr v54.entries (fun z => xkc z v49) _ h58 (fun z b hz => xio z v49 b hz) (fun z => by simp only [CLO]) rfl (by simp only [CLO]) (fun z => by simp only [xb, ↓EVd, isCall, sevalprocAttr])) rfl (by simp only [kk0, g94, e53, e56, FZ, CLO, xb, ↓EVd, isCall, sevalprocAttr]) ?_
     rcases itbE hm1 with ⟨e60, hm1⟩ | ⟨e60, hm1⟩
     · obtain ⟨v61, h62, hm1⟩ := bsE hm1
       simp only [kk0, g94, e53, e56, e60, xb, ↓EVd, isCall, sevalprocAttr]
       refine qc (x1c  _ h62) rfl ?_
       obtain rfl := Option.some.inj hm1
       obtain rfl := hO0 _ rfl
       try dsimp only at hm0
       obtain rfl := Option.some.inj hm0
       simp only [kk0, g94, e53, e56, e60, xb, ↓EVd, isCall, sevalprocAttr]
       all_goals first | done | rfl
     obtain rfl := Option.some.inj hm1
     simp only [kk0, g94, e53, e56, e60, xb, ↓EVd, isCall, sevalprocAttr]
     refine TI.here (hI0 _ rfl _ ⟨?_, ?_, ?_, ?_, ?_, ?_, ?_, ?_, ?_, ?_⟩)
     all_goals try simp only [kk0, g94, e53, e56, e60, xb, ↓EVd, isCall, sevalprocAttr]
     all_goals first | omega | exact lq (by omega) | exact nq (by omega) | rfl | (congr 1; omega)
   obtain rfl := Option.some.inj hm1
   simp only [kk0, g94, e53, xb, ↓EVd, isCall, sevalprocAttr]
   refine TI.here (hJ0_0 _ ⟨v49, ⟨?_, ?_, ?_, ?_, ?_, ?_, ?_, ?_⟩, hO0 _ rfl⟩)
   all_goals try simp only [kk0, g94, e53, xb, ↓EVd, isCall, sevalprocAttr]
   all_goals first | omega | exact lq (by omega) | exact nq (by omega) | rfl | (congr 1; omega)
 obtain ⟨v91, h92, hm0⟩ := bsE hm0
 simp only [e4, e8, e12, e16, e20, e25, e27, xb, ↓EVd, isCall, sevalprocAttr]
 refine qc (x1c  _ h92) rfl ?_
 obtain rfl := Option.some.inj hm0
 simp only [e4, e8, e12, e16, e20, e25, e27, xb, ↓EVd, isCall, sevalprocAttr]
 all_goals first | done | rfl
end Go.Proofs.YtapdjibjnfeipaaGreatDoor.AL

/- Plain laws of chapter 17: a whiteout that is put into the upper root. -/
set_option linter.all false
namespace Go.Proofs.YtapdjibjnfeipaaGreatDoor.AL
open Go Go.Proofs
def WNd : Node := ⟨4, 0, 0, 0, [], [], ⟨0, 0, xl, ⟨0, 0, 0⟩, 0⟩⟩
def n0P (s : Stack) : Node := (s.upper.nodes[0]?).getD WNd
def topN (s : Stack) (nm : ByteArray) : Node := ⟨(n0P s).kind, (n0P s).impure, (n0P s).nlink, (n0P s).gen, (n0P s).data, ⟨0, ((s.upper.nodes ++ [WNd]).length : Int), nm⟩ :: (n0P s).entries, (n0P s).attr⟩
def whN (s : Stack) (nm : ByteArray) : List Node := (s.upper.nodes ++ [WNd]).set 0 (topN s nm)
def whX (s : Stack) (nm : ByteArray) : Stack := ⟨s.geo, ⟨whN s nm⟩, s.lowers⟩
theorem wh_len (s : Stack) (nm : ByteArray) : (whX s nm).upper.nodes.length = s.upper.nodes.length + 1 := by
  show (whN s nm).length = _
  unfold whN
  rw [List.length_set, List.length_append]
  rfl
theorem whP {s : Stack} {nm : ByteArray} (h0 : 0 < s.upper.nodes.length) (ino : Int) : nodeP (whX s nm).upper ino = if ino = (s.upper.nodes.length : Int) + 1 then WNd else if ino = 1 then topN s nm else nodeP s.upper ino := by
  have hl := wh_len s nm
  unfold nodeP
  rw [hl]
  by_cases h1 : ino < 1
  · rw [if_pos h1, if_neg (by omega), if_neg (by omega), if_pos h1]
  rw [if_neg h1]
  by_cases h2 : ((s.upper.nodes.length + 1 : Nat) : Int) < ino
  · rw [if_pos h2, if_neg (by omega), if_neg (by omega), if_neg h1, if_pos (by omega)]
  rw [if_neg h2]
  by_cases h3 : ino = (s.upper.nodes.length : Int) + 1
  · rw [if_pos h3]
    have : (ino - 1).toNat = s.upper.nodes.length := by omega
    rw [this]
    show ((((s.upper.nodes ++ [WNd]).set 0 (topN s nm))[s.upper.nodes.length]?).getD xxd) = WNd
    rw [List.getElem?_set_ne (by omega), List.getElem?_append_right (Nat.le_refl _)]
    simp
  rw [if_neg h3]
  by_cases h4 : ino = 1
  · rw [if_pos h4]
    have : (ino - 1).toNat = 0 := by omega
    rw [this]
    show ((((s.upper.nodes ++ [WNd]).set 0 (topN s nm))[0]?).getD xxd) = topN s nm
    rw [List.getElem?_set_self (by simp)]
    rfl
  rw [if_neg h4, if_neg h1, if_neg (by omega)]
  show ((((s.upper.nodes ++ [WNd]).set 0 (topN s nm))[(ino - 1).toNat]?).getD xxd) = _
  rw [List.getElem?_set_ne (by omega), List.getElem?_append_left (by omega)]
theorem n0_mem {s : Stack} (h0 : 0 < s.upper.nodes.length) : n0P s ∈ s.upper.nodes := by
  unfold n0P
  rw [List.getElem?_eq_getElem h0]
  exact List.getElem_mem h0
theorem xcm {s : Stack} (h0 : 0 < s.upper.nodes.length) : nodeP s.upper 1 = n0P s := by
  unfold nodeP n0P
  rw [if_neg (by omega), if_neg (by omega)]
  have : ((1 : Int) - 1).toNat = 0 := rfl
  rw [this, List.getElem?_eq_getElem h0]
  rfl
theorem wh_sv {s : Stack} {nm : ByteArray} (h : SB s) (hk : (s.upper.nodes.length : Int) ≤ 23) (h0 : 0 < s.upper.nodes.length) : SV (whX s nm) := by
  refine ⟨⟨by rw [wh_len]; omega, fun x hx => ?_⟩, h.pq⟩
  have hx' : x ∈ (s.upper.nodes ++ [WNd]).set 0 (topN s nm) := hx
  rcases List.mem_or_eq_of_mem_set hx' with hx | rfl
  · rcases List.mem_append.1 hx with hx | hx
    · exact (h.up.2 x hx).nv
    · obtain rfl := List.mem_singleton.1 hx
      exact ⟨by simp [WNd], by simp [WNd], by simp [WNd]⟩
  · have hn := h.up.2 _ (n0_mem h0)
    have he := hn.ents
    exact ⟨by show (n0P s).entries.length + 1 ≤ 32; omega, hn.has0, hn.has1⟩
theorem xq7 {s : Stack} {nm : ByteArray} (h0 : 0 < s.upper.nodes.length) : rootV (whX s nm) = rootV s := by
  have e1 : nodeP (whX s nm).upper 1 = topN s nm := by rw [whP h0, if_neg (by omega), if_pos rfl]
  have e2 : opqV (topN s nm) = opqV (n0P s) := rfl
  unfold rootV
  rw [e1, xcm h0, e2]
  rfl
theorem xwz {s : Stack} {nm : ByteArray} (h0 : 0 < s.upper.nodes.length) {ino : Int} (h : ¬ ino = (s.upper.nodes.length : Int) + 1) : (nodeP (whX s nm).upper ino).kind = (nodeP s.upper ino).kind := by
  rw [whP h0, if_neg h]
  by_cases h1 : ino = 1
  · rw [if_pos h1, h1, xcm h0]; rfl
  · rw [if_neg h1]
theorem x6v {α : Type} {p q : α → Bool} : ∀ (l : List α), (∀ x ∈ l, p x = q x) → l.find? p = l.find? q
  | [], _ => rfl
  | x :: l, h => by
    rw [List.find?_cons, List.find?_cons, h x (by simp), x6v l fun y hy => h y (by simp [hy])]
theorem x43 {s : Stack} {nm : ByteArray} (h0 : 0 < s.upper.nodes.length) (hk : (n0P s).kind = 1) : (stpV (whX s nm) (rootV s) nm).1 = 0 := by
  have hl : ((s.upper.nodes ++ [WNd]).length : Int) = (s.upper.nodes.length : Int) + 1 := by rw [List.length_append]; simp
  have er : (rootV s).upper = 1 := by
    unfold rootV
    rw [xcm h0]
    exact if_pos hk
  have e1 : nodeP (whX s nm).upper 1 = topN s nm := by rw [whP h0, if_neg (by omega), if_pos rfl]
  have e2 : nodeP (whX s nm).upper ((s.upper.nodes ++ [WNd]).length : Int) = WNd := by rw [whP h0, if_pos hl]
  have ee : entV (whX s nm) (rootV s) nm = some ⟨0, ((s.upper.nodes ++ [WNd]).length : Int), nm⟩ := by
    unfold entV
    rw [er, e1, if_pos (show (topN s nm).kind = 1 from hk)]
    show List.find? _ (_ :: _) = _
    rw [List.find?_cons]
    have : entF (whX s nm) nm ⟨0, ((s.upper.nodes ++ [WNd]).length : Int), nm⟩ = true := by
      unfold entF
      simp only [decide_true, Bool.true_and]
      rw [e2]
      rfl
    rw [this]
  unfold stpV
  rw [ee]
  show (upV _ _ _ _).1 = 0
  unfold upV
  rw [e2]
  rfl
theorem xq5 {s : Stack} {nm other : ByteArray} (h0 : 0 < s.upper.nodes.length) (hk : (n0P s).kind = 1) (hne : ¬ nm = other) (hno : ∀ e ∈ (n0P s).entries, ¬ e.ino = (s.upper.nodes.length : Int) + 1) :
    (stpV (whX s nm) (rootV s) other).1 = (stpV s (rootV s) other).1 ∧ (stpV (whX s nm) (rootV s) other).2.2 = (stpV s (rootV s) other).2.2 := by
  have er : (rootV s).upper = 1 := by
    unfold rootV
    rw [xcm h0]
    exact if_pos hk
  have e1 : nodeP (whX s nm).upper 1 = topN s nm := by rw [whP h0, if_neg (by omega), if_pos rfl]
  have ee : entV (whX s nm) (rootV s) other = entV s (rootV s) other := by
    unfold entV
    rw [er, e1, xcm h0, if_pos (show (topN s nm).kind = 1 from hk), if_pos hk]
    show List.find? _ (_ :: _) = _
    rw [List.find?_cons]
    have : entF (whX s nm) other ⟨0, ((s.upper.nodes ++ [WNd]).length : Int), nm⟩ = false := by
      unfold entF
      simp [hne]
    rw [this]
    show List.find? _ (n0P s).entries = _
    refine x6v _ fun e he => ?_
    unfold entF
    rw [xwz h0 (hno e he)]
  unfold stpV
  rw [ee]
  cases he : entV s (rootV s) other with
  | none => exact ⟨rfl, rfl⟩
  | some e =>
    obtain ⟨g1, g2, g3, g4⟩ := xjq he
    rw [er, xcm h0] at g3
    have hkk := xwz (nm := nm) h0 (hno e g3)
    show (upV _ _ _ _).1 = (upV _ _ _ _).1 ∧ (upV _ _ _ _).2.2 = (upV _ _ _ _).2.2
    unfold upV
    rw [hkk]
    split
    · exact ⟨rfl, rfl⟩
    · split
      · exact ⟨rfl, rfl⟩
      · split <;> exact ⟨rfl, rfl⟩
theorem xk7 {s : Stack} {nm : ByteArray} (h : SB s) (hk : (s.upper.nodes.length : Int) ≤ 23) : ∃ r, iter (xdc s) big (0, whX s nm) = some r ∧ (r = .inr true ∨ r = .inl (whX s nm) ∧ ∀ x ∈ s.upper.nodes, ∀ e ∈ x.entries, ¬ e.ino = (s.upper.nodes.length : Int) + 1) := by
  obtain ⟨r, h1, h2⟩ := xbl (B := xdc s) (R := fun r => r = .inr true ∨ r = .inl (whX s nm) ∧ ∀ x ∈ s.upper.nodes, ∀ e ∈ x.entries, ¬ e.ino = (s.upper.nodes.length : Int) + 1)
    (fun i t => t = ((i : Int), whX s nm) ∧ i ≤ s.upper.nodes.length ∧ ∀ (j : Nat) (hj : j < s.upper.nodes.length), j < i → ∀ e ∈ (s.upper.nodes[j]).entries, ¬ e.ino = (s.upper.nodes.length : Int) + 1) s.upper.nodes.length (by
    rintro i t ⟨rfl, hi, hj⟩
    refine ⟨hi, ?_⟩
    simp only [xdc]
    by_cases hlt : i < s.upper.nodes.length
    · rw [if_pos (by omega), ix_at hlt]
      simp only [Option.bind_some]
      have hnb := (h.up.2 _ (List.getElem_mem hlt)).ents
      have hw : ∀ e : Entry, xkc e (whX s nm) = some (decide (e.ino = (s.upper.nodes.length : Int) + 1)) := fun e => by
        unfold xkc
        rw [wh_len]
        by_cases he : e.ino = (s.upper.nodes.length : Int) + 1
        · rw [if_pos (by omega)]; simp [he]
        · rw [if_neg (by omega)]; simp [he]
      rw [xng (f := fun e : Entry => decide (e.ino = (s.upper.nodes.length : Int) + 1)) _ (fun e _ => hw e) (by omega), awake17, wr_suc (by omega)]
      simp only [Option.bind_some]
      by_cases ha : ((s.upper.nodes[i]).entries.any fun e => decide (e.ino = (s.upper.nodes.length : Int) + 1)) = true
      · rw [if_pos ha]
        exact .inr ⟨_, rfl, .inl rfl⟩
      · rw [if_neg ha]
        refine .inl ⟨_, rfl, rfl, by omega, fun j hjl hji e he => ?_⟩
        by_cases hij : j = i
        · subst hij
          intro hc
          exact ha (List.any_eq_true.2 ⟨e, he, decide_eq_true hc⟩)
        · exact hj j hjl (by omega) e he
    · rw [if_neg (by omega)]
      refine .inr ⟨_, rfl, .inr ⟨rfl, fun x hx e he => ?_⟩⟩
      obtain ⟨j, hjl, rfl⟩ := List.getElem_of_mem hx
      exact hj j hjl (by omega) e he) big 0 (0, whX s nm) ⟨rfl, by omega, fun j _ hj => by omega⟩ (by rw [big_eq]; omega)
  exact ⟨r, h1, h2⟩
theorem x6u (s : Stack) (nm other : ByteArray) : xne s nm other = some true := by
  unfold xne
  obtain ⟨r, h1, h2⟩ := xt0 s 23 (by omega)
  rw [h1, awake17]
  simp only [Option.bind_some]
  cases r with
  | false => rfl
  | true =>
    rw [if_neg (by simp)]
    have hsb := (h2 rfl).1
    have hk := (h2 rfl).2.few
    by_cases c1 : 40 < (nm.size : Int)
    · rw [if_pos c1]
    rw [if_neg c1]
    by_cases c2 : 40 < (other.size : Int)
    · rw [if_pos c2]
    rw [if_neg c2]
    by_cases c3 : nm = other
    · rw [if_pos c3]
    rw [if_neg c3]
    by_cases c4 : (s.upper.nodes.length : Int) = 0
    · rw [if_pos c4]
    rw [if_neg c4]
    have h0 : 0 < s.upper.nodes.length := by omega
    have hn0 : ix s.upper.nodes 0 = some (n0P s) := by
      rw [ix_of (by omega) (by omega)]
      unfold n0P
      rw [List.getElem?_eq_getElem h0]
      rfl
    rw [hn0]
    simp only [Option.bind_some]
    by_cases c5 : (n0P s).kind = 1
    · rw [if_pos c5, xky (by omega) (by decide)]
      simp only [Option.bind_some]
      rw [ap_of (by rw [List.length_cons, List.length_nil]; omega) (by decide)]
      simp only [Option.bind_some]
      have hen := (hsb.up.2 _ (n0_mem h0)).ents
      rw [ap_of (by rw [List.length_cons, List.length_nil]; omega) (by decide), hn0]
      simp only [Option.bind_some]
      unfold ck
      rw [if_pos ⟨by omega, by rw [List.length_append]; omega⟩]
      simp only [Option.bind_some]
      obtain ⟨o, g1, g2⟩ := xk7 (nm := nm) hsb hk
      change ((iter (xdc s) big (0, whX s nm)).bind _) = _
      rw [g1]
      simp only [Option.bind_some]
      rcases g2 with rfl | ⟨rfl, g2⟩
      · rfl
      · have hx := wh_sv (nm := nm) hsb hk h0
        have hs := hsb.sv
        have hrl := xfw hs
        have hr := xq7 (nm := nm) h0
        simp only
        rw [x9x hx, x9x hs, hr]
        simp only [Option.bind_some]
        rw [xvr hx (by omega), xvr hs (by omega), xvr hx (by omega), xx1 hx (by omega)]
        simp only [Option.bind_some]
        obtain ⟨w1, w2⟩ := xq5 (nm := nm) (other := other) h0 c5 c3 (g2 _ (n0_mem h0))
        have w0 := x43 (nm := nm) h0 c5
        have hnl := xl0 hx (v := rootV s) (m := 3) hrl
        obtain ⟨b, b1, b2⟩ := xrx (l := namesV (whX s nm) (rootV s)) nm (by omega)
        rw [xz0] at b2
        have hb : b = false := by
          cases b with
          | false => rfl
          | true => exact absurd w0 (b2.1 rfl)
        rw [if_pos w0, if_pos w1.symm, w2, b1, hb]
        simp
    · rw [if_neg c5]
theorem xf8 (s : Stack) (nm other : ByteArray) : Ok Tryz.prog 6 [xi s, str nm, str other] (bool true) := x1p s nm other true (x6u s nm other)
end Go.Proofs.YtapdjibjnfeipaaGreatDoor.AL

/- A whiteout that is put into the upper root hides what was beneath, and no other name: for every stack and any two names. -/
namespace Go.Proofs.YtapdjibjnfeipaaGreatDoor
theorem viewWhites_holds : Rows.ViewWhitesCardSaid := xvq (xyp fun s a b _ _ _ => AL.xf8 s a b)
#print axioms viewWhites_holds
end Go.Proofs.YtapdjibjnfeipaaGreatDoor

