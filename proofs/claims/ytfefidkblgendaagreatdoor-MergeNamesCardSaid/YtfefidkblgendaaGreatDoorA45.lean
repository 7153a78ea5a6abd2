/- What any node of any stack should say of copies, and which say otherwise, is what the document says: part 45 of 51. -/
import Derived.Test.YtfefidkblgendaaGreatDoorA44
set_option linter.all false
/- Models of functions, and that the functions are as their models: written by gen.py. -/
set_option linter.all false
set_option maxRecDepth 100000
namespace Go.Proofs.YtfefidkblgendaaGreatDoor.AL
open Go Go.Proofs
def xvd (a0 : List UInt8) (a1 : List UInt8) : Option (Bool) := if (xsh a0) = (xsh a1) then some true
 else some false
def xns := aI (aI (@EV) (@R5)) (aI (@R9) (@R30))
set_option maxHeartbeats 2000000 in
theorem xum (a0 : List UInt8) (a1 : List UInt8) (r : Bool) (hm0 : xvd a0 a1 = some r) : Ok Tryz.prog 15 [.sl 1 (a0.map u8), .sl 1 (a1.map u8)] (bool r) := by
 unfold xvd at hm0
 refine okG x5z ?_
 unfold x2s
 have e1 : convE Tryz.prog 30 9 (.sl 1 (a0.map u8)) = some (str (xsh a0), []) := xiy _ (e := 5) (by kernel_rfl) (by kernel_rfl) (by kernel_rfl)
 have e2 : convE Tryz.prog 30 9 (.sl 1 (a1.map u8)) = some (str (xsh a1), []) := xiy _ (e := 5) (by kernel_rfl) (by kernel_rfl) (by kernel_rfl)
 rcases iteE hm0 with ⟨e4, hm0⟩ | ⟨e4, hm0⟩
 · obtain rfl := Option.some.inj hm0
   simp only [e1, e2, e4, xns, ↓EVd, isCall, sevalprocAttr]
   all_goals first | done | rfl
 obtain rfl := Option.some.inj hm0
 simp only [e1, e2, e4, xns, ↓EVd, isCall, sevalprocAttr]
 all_goals first | done | rfl
def xjh (a0 : Stack) (a1 : Origin) : Option (Node × Bool) := if a1.layer < 1 then some ((⟨0, 0, 0, 0, [], [], (⟨0, 0, xl, (⟨0, 0, 0⟩ : Origin), 0⟩ : Attr)⟩ : Node), false)
 else if (a0.lowers.length : Int) < a1.layer then some ((⟨0, 0, 0, 0, [], [], (⟨0, 0, xl, (⟨0, 0, 0⟩ : Origin), 0⟩ : Attr)⟩ : Node), false)
 else (ix a0.lowers (wr (a1.layer - 1))).bind fun v5 => if a1.ino < 1 then some ((⟨0, 0, 0, 0, [], [], (⟨0, 0, xl, (⟨0, 0, 0⟩ : Origin), 0⟩ : Attr)⟩ : Node), false)
 else if (v5.nodes.length : Int) < a1.ino then some ((⟨0, 0, 0, 0, [], [], (⟨0, 0, xl, (⟨0, 0, 0⟩ : Origin), 0⟩ : Attr)⟩ : Node), false)
 else (ix v5.nodes (wr (a1.ino - 1))).bind fun v12 => if v12.kind = 1 then if v12.gen = a1.gen then some (v12, true)
 else some ((⟨0, 0, 0, 0, [], [], (⟨0, 0, xl, (⟨0, 0, 0⟩ : Origin), 0⟩ : Attr)⟩ : Node), false)
 else if v12.kind = 2 then if v12.gen = a1.gen then some (v12, true)
 else some ((⟨0, 0, 0, 0, [], [], (⟨0, 0, xl, (⟨0, 0, 0⟩ : Origin), 0⟩ : Attr)⟩ : Node), false)
 else if v12.kind = 3 then if v12.gen = a1.gen then some (v12, true)
 else some ((⟨0, 0, 0, 0, [], [], (⟨0, 0, xl, (⟨0, 0, 0⟩ : Origin), 0⟩ : Attr)⟩ : Node), false)
 else some ((⟨0, 0, 0, 0, [], [], (⟨0, 0, xl, (⟨0, 0, 0⟩ : Origin), 0⟩ : Attr)⟩ : Node), false)
def xmc := aI (aI (aI (@EV) (aI (@R3) (@R24))) (aI (aI (@R26) (@R27)) (aI (@R29) (@R67)))) (aI (aI (@R71) (aI (@DBranch) (@DStack))) (aI (aI (@DOrigin) (@DAttr)) (aI (@DNode) (@DEntry))))
set_option maxHeartbeats 2000000 in
theorem x70 (a0 : Stack) (a1 : Origin) (r : Node × Bool) (hm0 : xjh a0 a1 = some r) : Ok Tryz.prog 39 [xf a0, xxd a1] (.tup [xo r.1, bool r.2]) := by
 unfold xjh at hm0
 refine okG xk0 ?_
 unfold x4s
 rcases iteE hm0 with ⟨e2, hm0⟩ | ⟨e2, hm0⟩
 · obtain rfl := Option.some.inj hm0
   simp only [e2, xmc, ↓EVd, isCall, sevalprocAttr]
   all_goals first | done | rfl | exact xb (by simp only [CLO]) | exact xe (by simp only [CLO]) (Sub.tup (Subs.cons (Sub.agg (Subs.cons (Sub.refl _) (Subs.cons (Sub.refl _) (Subs.cons (Sub.refl _) (Subs.cons (Sub.refl _) (Subs.cons (Sub.nilS _) (Subs.cons (Sub.nilS _) (Subs.cons (Sub.refl _) (Subs.cons (Sub.refl _) (Subs.cons (Sub.refl _) (Subs.cons (Sub.refl _) (Subs.cons (Sub.refl _) (Subs.cons (Sub.refl _) (Subs.cons (Sub.refl _) (Subs.nil))))))))))))))) (Subs.cons (Sub.refl _) (Subs.nil))))
 rcases iteE hm0 with ⟨e4, hm0⟩ | ⟨e4, hm0⟩
 · obtain rfl := Option.some.inj hm0
   simp only [e2, e4, xmc, ↓EVd, isCall, sevalprocAttr]
   all_goals first | done | rfl | exact xb (by simp only [CLO]) | exact xe (by simp only [CLO]) (Sub.tup (Subs.cons (Sub.agg (Subs.cons (Sub.refl _) (Subs.cons (Sub.refl _) (Subs.cons (Sub.refl _) (Subs.cons (Sub.refl _) (Subs.cons (Sub.nilS _) (Subs.cons (Sub.nilS _) (Subs.cons (Sub.refl _) (Subs.cons (Sub.refl _) (Subs.cons (Sub.refl _) (Subs.cons (Sub.refl _) (Subs.cons (Sub.refl _) (Subs.cons (Sub.refl _) (Subs.cons (Sub.refl _) (Subs.nil))))))))))))))) (Subs.cons (Sub.refl _) (Subs.nil))))
 obtain ⟨v5, e7, hm0⟩ := ixE xcb hm0
 rcases iteE hm0 with ⟨e9, hm0⟩ | ⟨e9, hm0⟩
 · obtain rfl := Option.some.inj hm0
   simp only [e2, e4, e7, e9, xmc, ↓EVd, isCall, sevalprocAttr]
   all_goals first | done | rfl | exact xb (by simp only [CLO]) | exact xe (by simp only [CLO]) (Sub.tup (Subs.cons (Sub.agg (Subs.cons (Sub.refl _) (Subs.cons (Sub.refl _) (Subs.cons (Sub.refl _) (Subs.cons (Sub.refl _) (Subs.cons (Sub.nilS _) (Subs.cons (Sub.nilS _) (Subs.cons (Sub.refl _) (Subs.cons (Sub.refl _) (Subs.cons (Sub.refl _) (Subs.cons (Sub.refl _) (Subs.cons (Sub.refl _) (Subs.cons (Sub.refl _) (Subs.cons (Sub.refl _) (Subs.nil))))))))))))))) (Subs.cons (Sub.refl _) (Subs.nil))))
 rcases iteE hm0 with ⟨e11, hm0⟩ | ⟨e11, hm0⟩
 · obtain rfl := Option.some.inj hm0
   simp only [e2, e4, e7, e9, e11, xmc, ↓EVd, isCall, sevalprocAttr]
   all_goals first | done | rfl | exact xb (by simp only [CLO]) | exact xe (by simp only [CLO]) (Sub.tup (Subs.cons (Sub.agg (Subs.cons (Sub.refl _) (Subs.cons (Sub.refl _) (Subs.cons (Sub.refl _) (Subs.cons (Sub.refl _) (Subs.cons (Sub.nilS _) (Subs.cons (Sub.nilS _) (Subs.cons (Sub.refl _) (Subs.cons (Sub.refl _) (Subs.cons (Sub.refl _) (Subs.cons (Sub.refl _) (Subs.cons (Sub.refl _) (Subs.cons (Sub.refl _) (Subs.cons (Sub.refl _) (Subs.nil))))))))))))))) (Subs.cons (Sub.refl _) (Subs.nil))))
 obtain ⟨v12, e14, hm0⟩ := ixE xo hm0
 rcases iteE hm0 with ⟨e16, hm0⟩ | ⟨e16, hm0⟩
 · rcases iteE hm0 with ⟨e18, hm0⟩ | ⟨e18, hm0⟩
   · obtain rfl := Option.some.inj hm0
     simp only [e2, e4, e7, e9, e11, e14, e16, e18, xmc, ↓EVd, isCall, sevalprocAttr]
     all_goals first | done | rfl | exact xb (by simp only [CLO]) | exact xe (by simp only [CLO]) (Sub.tup (Subs.cons (Sub.refl _) (Subs.cons (Sub.refl _) (Subs.nil))))
   obtain rfl := Option.some.inj hm0
   simp only [e2, e4, e7, e9, e11, e14, e16, e18, xmc, ↓EVd, isCall, sevalprocAttr]
   all_goals first | done | rfl | exact xb (by simp only [CLO]) | exact xe (by simp only [CLO]) (Sub.tup (Subs.cons (Sub.agg (Subs.cons (Sub.refl _) (Subs.cons (Sub.refl _) (Subs.cons (Sub.refl _) (Subs.cons (Sub.refl _) (Subs.cons (Sub.nilS _) (Subs.cons (Sub.nilS _) (Subs.cons (Sub.refl _) (Subs.cons (Sub.refl _) (Subs.cons (Sub.refl _) (Subs.cons (Sub.refl _) (Subs.cons (Sub.refl _) (Subs.cons (Sub.refl _) (Subs.cons (Sub.refl _) (Subs.nil))))))))))))))) (Subs.cons (Sub.refl _) (Subs.nil))))
 rcases iteE hm0 with ⟨e20, hm0⟩ | ⟨e20, hm0⟩
 · have g27 := And.intro (And.intro (And.intro ((e2)) ((e4))) (And.intro ((e7)) ((e9)))) (And.intro (And.intro ((e11)) ((e14))) (And.intro ((e16)) ((e20))))
   rcases iteE hm0 with ⟨e22, hm0⟩ | ⟨e22, hm0⟩
   · obtain rfl := Option.some.inj hm0
     simp only [g27, e22, xmc, ↓EVd, isCall, sevalprocAttr]
     all_goals first | done | rfl | exact xb (by simp only [CLO]) | exact xe (by simp only [CLO]) (Sub.tup (Subs.cons (Sub.refl _) (Subs.cons (Sub.refl _) (Subs.nil))))
   obtain rfl := Option.some.inj hm0
   simp only [g27, e22, xmc, ↓EVd, isCall, sevalprocAttr]
   all_goals first | done | rfl | exact xb (by simp only [CLO]) | exact xe (by simp only [CLO]) (Sub.tup (Subs.cons (Sub.agg (Subs.cons (Sub.refl _) (Subs.cons (Sub.refl _) (Subs.cons (Sub.refl _) (Subs.cons (Sub.refl _) (Subs.cons (Sub.nilS _) (Subs.cons (Sub.nilS _) (Subs.cons (Sub.refl _) (Subs.cons (Sub.refl _) (Subs.cons (Sub.refl _) (Subs.cons (Sub.refl _) (Subs.cons (Sub.refl _) (Subs.cons (Sub.refl _) (Subs.cons (Sub.refl _) (Subs.nil))))))))))))))) (Subs.cons (Sub.refl _) (Subs.nil))))
 have g28 := And.intro (And.intro (And.intro ((e2)) ((e4))) (And.intro ((e7)) ((e9)))) (And.intro (And.intro ((e11)) ((e14))) (And.intro ((e16)) ((e20))))
 rcases iteE hm0 with ⟨e24, hm0⟩ | ⟨e24, hm0⟩
 · rcases iteE hm0 with ⟨e26, hm0⟩ | ⟨e26, hm0⟩
   · obtain rfl := Option.some.inj hm0
     simp only [g28, e24, e26, xmc, ↓EVd, isCall, sevalprocAttr]
     all_goals first | done | rfl | exact xb (by simp only [CLO]) | exact xe (by simp only [CLO]) (Sub.tup (Subs.cons (Sub.refl _) (Subs.cons (Sub.refl _) (Subs.nil))))
   obtain rfl := Option.some.inj hm0
   simp only [g28, e24, e26, xmc, ↓EVd, isCall, sevalprocAttr]
   all_goals first | done | rfl | exact xb (by simp only [CLO]) | exact xe (by simp only [CLO]) (Sub.tup (Subs.cons (Sub.agg (Subs.cons (Sub.refl _) (Subs.cons (Sub.refl _) (Subs.cons (Sub.refl _) (Subs.cons (Sub.refl _) (Subs.cons (Sub.nilS _) (Subs.cons (Sub.nilS _) (Subs.cons (Sub.refl _) (Subs.cons (Sub.refl _) (Subs.cons (Sub.refl _) (Subs.cons (Sub.refl _) (Subs.cons (Sub.refl _) (Subs.cons (Sub.refl _) (Subs.cons (Sub.refl _) (Subs.nil))))))))))))))) (Subs.cons (Sub.refl _) (Subs.nil))))
 obtain rfl := Option.some.inj hm0
 simp only [g28, e24, xmc, ↓EVd, isCall, sevalprocAttr]
 all_goals first | done | rfl | exact xb (by simp only [CLO]) | exact xe (by simp only [CLO]) (Sub.tup (Subs.cons (Sub.agg (Subs.cons (Sub.refl _) (Subs.cons (Sub.refl _) (Subs.cons (Sub.refl _) (Subs.cons (Sub.refl _) (Subs.cons (Sub.nilS _) (Subs.cons (Sub.nilS _) (Subs.cons (Sub.refl _) (Subs.cons (Sub.refl _) (Subs.cons (Sub.refl _) (Subs.cons (Sub.refl _) (Subs.cons (Sub.refl _) (Subs.cons (Sub.refl _) (Subs.cons (Sub.refl _) (Subs.nil))))))))))))))) (Subs.cons (Sub.refl _) (Subs.nil))))
def xii (a0 : Stack) (a1 : Origin) : Option (Node × Bool) := (xgc a0 (⟨a1.layer, a1.ino⟩ : Place)).bind fun v2 => if v2.kind = 1 then if v2.gen = a1.gen then some (v2, true)
 else some ((⟨0, 0, 0, 0, [], [], (⟨0, 0, xl, (⟨0, 0, 0⟩ : Origin), 0⟩ : Attr)⟩ : Node), false)
 else if v2.kind = 2 then if v2.gen = a1.gen then some (v2, true)
 else some ((⟨0, 0, 0, 0, [], [], (⟨0, 0, xl, (⟨0, 0, 0⟩ : Origin), 0⟩ : Attr)⟩ : Node), false)
 else if v2.kind = 3 then if v2.gen = a1.gen then some (v2, true)
 else some ((⟨0, 0, 0, 0, [], [], (⟨0, 0, xl, (⟨0, 0, 0⟩ : Origin), 0⟩ : Attr)⟩ : Node), false)
 else some ((⟨0, 0, 0, 0, [], [], (⟨0, 0, xl, (⟨0, 0, 0⟩ : Origin), 0⟩ : Attr)⟩ : Node), false)
def xde := aI (aI (aI (@EV) (aI (@R3) (@R29))) (aI (@R44) (aI (@R67) (@R71)))) (aI (aI (@DBranch) (aI (@DStack) (@DPlace))) (aI (aI (@DOrigin) (@DAttr)) (aI (@DNode) (@DEntry))))
set_option maxHeartbeats 2000000 in
theorem x92 (a0 : Stack) (a1 : Origin) (r : Node × Bool) (hm0 : xii a0 a1 = some r) : Ok Tryz.prog 43 [xf a0, xxd a1] (.tup [xo r.1, bool r.2]) := by
 unfold xii at hm0
 refine okG xk3 ?_
 unfold x9t
 have e1 : (.agg [int a1.layer, int a1.ino] : AV) = xc (⟨a1.layer, a1.ino⟩ : Place) := _root_.id rfl
 obtain ⟨v2, h3, hm0⟩ := bsE hm0
 simp only [e1, xde, ↓EVd, isCall, sevalprocAttr]
 refine qc (x1d _ _ _ h3) rfl ?_
 rcases iteE hm0 with ⟨e5, hm0⟩ | ⟨e5, hm0⟩
 · rcases iteE hm0 with ⟨e7, hm0⟩ | ⟨e7, hm0⟩
   · obtain rfl := Option.some.inj hm0
     simp only [e1, e5, e7, xde, ↓EVd, isCall, sevalprocAttr]
     all_goals first | done | rfl | exact xb (by simp only [CLO]) | exact xe (by simp only [CLO]) (Sub.tup (Subs.cons (Sub.refl _) (Subs.cons (Sub.refl _) (Subs.nil))))
   obtain rfl := Option.some.inj hm0
   simp only [e1, e5, e7, xde, ↓EVd, isCall, sevalprocAttr]
   all_goals first | done | rfl | exact xb (by simp only [CLO]) | exact xe (by simp only [CLO]) (Sub.tup (Subs.cons (Sub.agg (Subs.cons (Sub.refl _) (Subs.cons (Sub.refl _) (Subs.cons (Sub.refl _) (Subs.cons (Sub.refl _) (Subs.cons (Sub.nilS _) (Subs.cons (Sub.nilS _) (Subs.cons (Sub.refl _) (Subs.cons (Sub.refl _) (Subs.cons (Sub.refl _) (Subs.cons (Sub.refl _) (Subs.cons (Sub.refl _) (Subs.cons (Sub.refl _) (Subs.cons (Sub.refl _) (Subs.nil))))))))))))))) (Subs.cons (Sub.refl _) (Subs.nil))))
 rcases iteE hm0 with ⟨e9, hm0⟩ | ⟨e9, hm0⟩
 · rcases iteE hm0 with ⟨e11, hm0⟩ | ⟨e11, hm0⟩
   · obtain rfl := Option.some.inj hm0
     simp only [e1, e5, e9, e11, xde, ↓EVd, isCall, sevalprocAttr]
     all_goals first | done | rfl | exact xb (by simp only [CLO]) | exact xe (by simp only [CLO]) (Sub.tup (Subs.cons (Sub.refl _) (Subs.cons (Sub.refl _) (Subs.nil))))
   obtain rfl := Option.some.inj hm0
   simp only [e1, e5, e9, e11, xde, ↓EVd, isCall, sevalprocAttr]
   all_goals first | done | rfl | exact xb (by simp only [CLO]) | exact xe (by simp only [CLO]) (Sub.tup (Subs.cons (Sub.agg (Subs.cons (Sub.refl _) (Subs.cons (Sub.refl _) (Subs.cons (Sub.refl _) (Subs.cons (Sub.refl _) (Subs.cons (Sub.nilS _) (Subs.cons (Sub.nilS _) (Subs.cons (Sub.refl _) (Subs.cons (Sub.refl _) (Subs.cons (Sub.refl _) (Subs.cons (Sub.refl _) (Subs.cons (Sub.refl _) (Subs.cons (Sub.refl _) (Subs.cons (Sub.refl _) (Subs.nil))))))))))))))) (Subs.cons (Sub.refl _) (Subs.nil))))
 rcases iteE hm0 with ⟨e13, hm0⟩ | ⟨e13, hm0⟩
 · rcases iteE hm0 with ⟨e15, hm0⟩ | ⟨e15, hm0⟩
   · obtain rfl := Option.some.inj hm0
     simp only [e1, e5, e9, e13, e15, xde, ↓EVd, isCall, sevalprocAttr]
     all_goals first | done | rfl | exact xb (by simp only [CLO]) | exact xe (by simp only [CLO]) (Sub.tup (Subs.cons (Sub.refl _) (Subs.cons (Sub.refl _) (Subs.nil))))
   obtain rfl := Option.some.inj hm0
   simp only [e1, e5, e9, e13, e15, xde, ↓EVd, isCall, sevalprocAttr]
   all_goals first | done | rfl | exact xb (by simp only [CLO]) | exact xe (by simp only [CLO]) (Sub.tup (Subs.cons (Sub.agg (Subs.cons (Sub.refl _) (Subs.cons (Sub.refl _) (Subs.cons (Sub.refl _) (Subs.cons (Sub.refl _) (Subs.cons (Sub.nilS _) (Subs.cons (Sub.nilS _) (Subs.cons (Sub.refl _) (Subs.cons (Sub.refl _) (Subs.cons (Sub.refl _) (Subs.cons (Sub.refl _) (Subs.cons (Sub.refl _) (Subs.cons (Sub.refl _) (Subs.cons (Sub.refl _) (Subs.nil))))))))))))))) (Subs.cons (Sub.refl _) (Subs.nil))))
 obtain rfl := Option.some.inj hm0
 simp only [e1, e5, e9, e13, xde, ↓EVd, isCall, sevalprocAttr]
 all_goals first | done | rfl | exact xb (by simp only [CLO]) | exact xe (by simp only [CLO]) (Sub.tup (Subs.cons (Sub.agg (Subs.cons (Sub.refl _) (Subs.cons (Sub.refl _) (Subs.cons (Sub.refl _) (Subs.cons (Sub.refl _) (Subs.cons (Sub.nilS _) (Subs.cons (Sub.nilS _) (Subs.cons (Sub.refl _) (Subs.cons (Sub.refl _) (Subs.cons (Sub.refl _) (Subs.cons (Sub.refl _) (Subs.cons (Sub.refl _) (Subs.cons (Sub.refl _) (Subs.cons (Sub.refl _) (Subs.nil))))))))))))))) (Subs.cons (Sub.refl _) (Subs.nil))))
def xwd (a0 : Stack) (a1 : List ByteArray) : (Int × Int × View × Place) → Option (St (Int × Int × View × Place) ((View × Int × Place) ⊕ (Int × View × Place)))
 | (v8, v9, v10, v11) => if v9 < (a1.length : Int) then if v8 = 1 then (ix a1 v9).bind fun v20 => (xje a0 v10 v20).bind fun v23 => some (.nx (v23.1, (wr (v9 + 1)), v23.2.1, v23.2.2))
 else some (.out (.inr (0, (⟨0, []⟩ : View), (⟨0, 0⟩ : Place))))
 else some (.out (.inl (v10, v8, v11)))
def x2n (a0 : Stack) (a1 : List ByteArray) : (Int × Int × View × Place) → Option (St (Int × Int × View × Place) ((View × Int × Place) ⊕ (Int × View × Place)))
 | (v32, v33, v34, v35) => if v33 < (a1.length : Int) then if v32 = 1 then (ix a1 v33).bind fun v44 => (xje a0 v34 v44).bind fun v47 => some (.nx (v47.1, (wr (v33 + 1)), v47.2.1, v47.2.2))
 else some (.out (.inr (0, (⟨0, []⟩ : View), (⟨0, 0⟩ : Place))))
 else some (.out (.inl (v34, v32, v35)))
def x0n (a0 : Stack) (a1 : List ByteArray) : (Int × Int × View × Place) → Option (St (Int × Int × View × Place) ((View × Int × Place) ⊕ (Int × View × Place)))
 | (v51, v52, v53, v54) => if v52 < (a1.length : Int) then if v51 = 1 then (ix a1 v52).bind fun v63 => (xje a0 v53 v63).bind fun v66 => some (.nx (v66.1, (wr (v52 + 1)), v66.2.1, v66.2.2))
 else some (.out (.inr (0, (⟨0, []⟩ : View), (⟨0, 0⟩ : Place))))
 else some (.out (.inl (v53, v51, v54)))
def x1i (a0 : Stack) (a1 : List ByteArray) : Option (Int × View × Place) := (x9h a0).bind fun v1 => if 0 < v1.upper then (iter (xwd a0 a1) big (1, 0, v1, (⟨0, 1⟩ : Place))).bind fun o => (match o with
 | (.inl (v13, v14, v15)) => some (v14, v13, v15)
 | (.inr r) => some r)
 else if 0 < (v1.lower.length : Int) then (ix v1.lower 0).bind fun v28 => (iter (x2n a0 a1) big (1, 0, v1, v28)).bind fun o => (match o with
 | (.inl (v37, v38, v39)) => some (v38, v37, v39)
 | (.inr r) => some r)
 else (iter (x0n a0 a1) big (1, 0, v1, (⟨0, 0⟩ : Place))).bind fun o => (match o with
 | (.inl (v56, v57, v58)) => some (v57, v56, v58)
 | (.inr r) => some r)
def xz := aI (aI (aI (aI (@EV) (@R3)) (aI (@R9) (@R29))) (aI (aI (@R31) (@R40)) (aI (@R42) (@R44)))) (aI (aI (aI (@DBranch) (@DStack)) (aI (@DView) (@DPlace))) (aI (aI (@DOrigin) (@DAttr)) (aI (@DNode) (aI (@DEntry) (@mixed)))))
set_option maxHeartbeats 2000000 in
theorem xww (a0 : Stack) (a1 : List ByteArray) (r : Int × View × Place) (hm0 : x1i a0 a1 = some r) : Ok Tryz.prog 14 [xf a0, .sl 1 (a1.map str)] (.tup [int r.1, xn r.2.1, xc r.2.2]) := by
 unfold x1i at hm0
 refine okG x25 ?_
 unfold xby
 obtain ⟨v1, h2, hm0⟩ := bsE hm0
 simp only [xz, ↓EVd, isCall, sevalprocAttr]
 refine qc (xe3 _ _ h2) rfl ?_
 have e3 : (.agg [int 0, int 0] : AV) = xc (⟨0, 0⟩ : Place) := _root_.id rfl
 rcases iteE hm0 with ⟨e5, hm0⟩ | ⟨e5, hm0⟩
 · have e6 : (.agg [int 0, int 1] : AV) = xc (⟨0, 1⟩ : Place) := _root_.id rfl
   obtain ⟨o0, ho0, hm0⟩ := bsE hm0
   simp only [e3, e5, e6, xz, ↓EVd, isCall, sevalprocAttr]
   refine cwp_cx 0 (fun s => ∃ v13 : View, ∃ v14 : Int, ∃ v15 : Place, (s.T 5 = .loc 2 2 0 0 ∧ s.T 6 = .loc 3 2 0 0 ∧ s.T 7 = .loc 6 2 0 0 ∧ s.T 8 = int v14 ∧ s.T 9 = .loc 9 2 0 0 ∧ s.H 2 = some (.row 42 2 [.agg [int 0, nilS]]) ∧ s.H 3 = some (.row 44 2 [.agg [int 0, int 0]]) ∧ s.H 6 = some (.row 42 2 [xn v13]) ∧ s.H 9 = some (.row 44 2 [xc v15]) ∧ Lq 2 s.nx ∧ Lq 3 s.nx ∧ Lq 6 s.nx ∧ Lq 9 s.nx) ∧ (.inl (v13, v14, v15)) = o0) ?_ fun J0_0 hJ0_0 => ?_
   · rintro T0 H0 x12 ⟨v13, v14, v15, kk0_0, rfl⟩
     dsimp only [Lq, Nq] at kk0_0
     try dsimp only at hm0
     simp only [kk0_0, e3, e5, e6, xz, ↓EVd, isCall, sevalprocAttr]
     refine fineI [([], []), ([6], []), ([9], []), ([], []), ([], [2]), ([], [3])] rfl (by simp only [MT, sevalprocAttr]; first | done | omega) ?_
     obtain rfl := Option.some.inj hm0
     simp only [kk0_0, e3, e5, e6, xz, ↓EVd, isCall, sevalprocAttr]
     all_goals first | done | rfl | exact xb (by simp only [CLO]) | exact xe (by simp only [CLO]) (Sub.tup (Subs.cons (Sub.refl _) (Subs.cons (Sub.refl _) (Subs.cons (Sub.refl _) (Subs.nil)))))
   refine cwp_lp ho0 (fun (v8, v9, v10, v11) s => s.T 1 = .sl 1 (a1.map str) ∧ s.T 2 = .loc 0 6 0 0 ∧ s.T 5 = .loc 2 2 0 0 ∧ s.T 6 = .loc 3 2 0 0 ∧ s.T 7 = .loc 6 2 0 0 ∧ s.T 8 = int v8 ∧ s.T 9 = .loc 9 2 0 0 ∧ s.T 10 = int v9 ∧ s.H 0 = some (.row 29 6 [xf a0]) ∧ s.H 2 = some (.row 42 2 [.agg [int 0, nilS]]) ∧ s.H 3 = some (.row 44 2 [.agg [int 0, int 0]]) ∧ s.H 6 = some (.row 42 2 [xn v10]) ∧ s.H 9 = some (.row 44 2 [xc v11]) ∧ Lq 0 s.nx ∧ Lq 2 s.nx ∧ Lq 3 s.nx ∧ Lq 6 s.nx ∧ Lq 9 s.nx) ?_ ?_
   · refine TI.here ⟨?_, ?_, ?_, ?_, ?_, ?_, ?_, ?_, ?_, ?_, ?_, ?_, ?_, ?_, ?_, ?_, ?_, ?_⟩
     all_goals try simp only [e3, e5, e6, xz, ↓EVd, isCall, sevalprocAttr]
     all_goals first | omega | exact lq (by omega) | exact nq (by omega) | rfl | (congr 1; omega)
   rintro I0 ⟨v8, v9, v10, v11⟩ T0 H0 x7 st0 kk0 hm1 hI0 hO0
   dsimp only [Lq, Nq] at kk0
   simp only [xwd] at hm1
   rcases iteE hm1 with ⟨e17, hm1⟩ | ⟨e17, hm1⟩
   · rcases iteE hm1 with ⟨e19, hm1⟩ | ⟨e19, hm1⟩
     · obtain ⟨v20, e22, hm1⟩ := ixE str hm1
       obtain ⟨v23, h24, hm1⟩ := bsE hm1
       simp only [kk0, e3, e5, e6, e17, e19, e22, xz, ↓EVd, isCall, sevalprocAttr]
       refine qd (x7j _ _ _ _ h24) rfl ?_
       obtain rfl := Option.some.inj hm1
       simp only [kk0, e3, e5, e6, e17, e19, e22, xz, ↓EVd, isCall, sevalprocAttr]
       refine TI.here (hI0 _ rfl _ ⟨?_, ?_, ?_, ?_, ?_, ?_, ?_, ?_, ?_, ?_, ?_, ?_, ?_, ?_, ?_, ?_, ?_, ?_⟩)
       all_goals try simp only [kk0, e3, e5, e6, e17, e19, e22, xz, ↓EVd, isCall, sevalprocAttr]
       all_goals first | omega | exact lq (by omega) | exact nq (by omega) | rfl | (congr 1; omega)
     have e25 : (.agg [int 0, int 0] : AV) = xc (⟨0, 0⟩ : Place) := _root_.id rfl
     obtain rfl := Option.some.inj hm1
     obtain rfl := hO0 _ rfl
     try dsimp only at hm0
     obtain rfl := Option.some.inj hm0
     simp only [kk0, e3, e5, e6, e17, e19, e25, xz, ↓EVd, isCall, sevalprocAttr]
     all_goals first | done | rfl | exact xb (by simp only [CLO]) | exact xe (by simp only [CLO]) (Sub.tup (Subs.cons (Sub.refl _) (Subs.cons (Sub.agg (Subs.cons (Sub.refl _) (Subs.cons (Sub.nilS _) (Subs.nil)))) (Subs.cons (Sub.refl _) (Subs.nil)))))
   obtain rfl := Option.some.inj hm1
   simp only [kk0, e3, e5, e6, e17, xz, ↓EVd, isCall, sevalprocAttr]
   refine TI.here (hJ0_0 _ ⟨v10, v8, v11, ⟨?_, ?_, ?_, ?_, ?_, ?_, ?_, ?_, ?_, ?_, ?_, ?_, ?_⟩, hO0 _ rfl⟩)
   all_goals try simp only [kk0, e3, e5, e6, e17, xz, ↓EVd, isCall, sevalprocAttr]
   all_goals first | omega | exact lq (by omega) | exact nq (by omega) | rfl | (congr 1; omega)
 rcases iteE hm0 with ⟨e27, hm0⟩ | ⟨e27, hm0⟩
 · obtain ⟨v28, e30, hm0⟩ := ixE xc hm0
   try simp only [sevalprocAttr, eq_self, true_and] at e30
   obtain ⟨o1, ho1, hm0⟩ := bsE hm0
   simp only [e3, e5, e27, e30, xz, ↓EVd, isCall, sevalprocAttr]
   refine cwp_cx 0 (fun s => ∃ v37 : View, ∃ v38 : Int, ∃ v39 : Place, (s.T 5 = .loc 2 2 0 0 ∧ s.T 6 = .loc 3 2 0 0 ∧ s.T 7 = .loc 6 2 0 0 ∧ s.T 8 = int v38 ∧ s.T 9 = .loc 9 2 0 0 ∧ s.H 2 = some (.row 42 2 [.agg [int 0, nilS]]) ∧ s.H 3 = some (.row 44 2 [.agg [int 0, int 0]]) ∧ s.H 6 = some (.row 42 2 [xn v37]) ∧ s.H 9 = some (.row 44 2 [xc v39]) ∧ Lq 2 s.nx ∧ Lq 3 s.nx ∧ Lq 6 s.nx ∧ Lq 9 s.nx) ∧ (.inl (v37, v38, v39)) = o1) ?_ fun J1_0 hJ1_0 => ?_
   · rintro T1 H1 x36 ⟨v37, v38, v39, kk1_0, rfl⟩
     dsimp only [Lq, Nq] at kk1_0
     try dsimp only at hm0
     simp only [kk1_0, e3, e5, e27, e30, xz, ↓EVd, isCall, sevalprocAttr]
     refine fineI [([], []), ([6], []), ([9], []), ([], []), ([], [2]), ([], [3])] rfl (by simp only [MT, sevalprocAttr]; first | done | omega) ?_
     obtain rfl := Option.some.inj hm0
     simp only [kk1_0, e3, e5, e27, e30, xz, ↓EVd, isCall, sevalprocAttr]
     all_goals first | done | rfl | exact xb (by simp only [CLO]) | exact xe (by simp only [CLO]) (Sub.tup (Subs.cons (Sub.refl _) (Subs.cons (Sub.refl _) (Subs.cons (Sub.refl _) (Subs.nil)))))
   refine cwp_lp ho1 (fun (v32, v33, v34, v35) s => s.T 1 = .sl 1 (a1.map str) ∧ s.T 2 = .loc 0 6 0 0 ∧ s.T 5 = .loc 2 2 0 0 ∧ s.T 6 = .loc 3 2 0 0 ∧ s.T 7 = .loc 6 2 0 0 ∧ s.T 8 = int v32 ∧ s.T 9 = .loc 9 2 0 0 ∧ s.T 10 = int v33 ∧ s.H 0 = some (.row 29 6 [xf a0]) ∧ s.H 2 = some (.row 42 2 [.agg [int 0, nilS]]) ∧ s.H 3 = some (.row 44 2 [.agg [int 0, int 0]]) ∧ s.H 6 = some (.row 42 2 [xn v34]) ∧ s.H 9 = some (.row 44 2 [xc v35]) ∧ Lq 0 s.nx ∧ Lq 2 s.nx ∧ Lq 3 s.nx ∧ Lq 6 s.nx ∧ Lq 9 s.nx) ?_ ?_
   · refine TI.here ⟨?_, ?_, ?_, ?_, ?_, ?_, ?_, ?_, ?_, ?_, ?_, ?_, ?_, ?_, ?_, ?_, ?_, ?_⟩
     all_goals try simp only [e3, e5, e27, e30, xz, ↓EVd, isCall, sevalprocAttr]
     all_goals first | omega | exact lq (by omega) | exact nq (by omega) | rfl | (congr 1; omega)
   rintro I1 ⟨v32, v33, v34, v35⟩ T1 H1 x31 st1 kk1 hm1 hI1 hO1
   dsimp only [Lq, Nq] at kk1
   simp only [x2n] at hm1
   rcases iteE hm1 with ⟨e41, hm1⟩ | ⟨e41, hm1⟩
   · rcases iteE hm1 with ⟨e43, hm1⟩ | ⟨e43, hm1⟩
     · obtain ⟨v44, e46, hm1⟩ := ixE str hm1
       obtain ⟨v47, h48, hm1⟩ := bsE hm1
       simp only [kk1, e3, e5, e27, e30, e41, e43, e46, xz, ↓EVd, isCall, sevalprocAttr]
       refine qd (x7j _ _ _ _ h48) rfl ?_
       obtain rfl := Option.some.inj hm1
       simp only [kk1, e3, e5, e27, e30, e41, e43, e46, xz, ↓EVd, isCall, sevalprocAttr]
       refine TI.here (hI1 _ rfl _ ⟨?_, ?_, ?_, ?_, ?_, ?_, ?_, ?_, ?_, ?_, ?_, ?_, ?_, ?_, ?_, ?_, ?_, ?_⟩)
       all_goals try simp only [kk1, e3, e5, e27, e30, e41, e43, e46, xz, ↓EVd, isCall, sevalprocAttr]
       all_goals first | omega | exact lq (by omega) | exact nq (by omega) | rfl | (congr 1; omega)
     have e49 : (.agg [int 0, int 0] : AV) = xc (⟨0, 0⟩ : Place) := _root_.id rfl
     obtain rfl := Option.some.inj hm1
     obtain rfl := hO1 _ rfl
     try dsimp only at hm0
     obtain rfl := Option.some.inj hm0
     simp only [kk1, e3, e5, e27, e30, e41, e43, e49, xz, ↓EVd, isCall, sevalprocAttr]
     all_goals first | done | rfl | exact xb (by simp only [CLO]) | exact xe (by simp only [CLO]) (Sub.tup (Subs.cons (Sub.refl _) (Subs.cons (Sub.agg (Subs.cons (Sub.refl _) (Subs.cons (Sub.nilS _) (Subs.nil)))) (Subs.cons (Sub.refl _) (Subs.nil)))))
   obtain rfl := Option.some.inj hm1
   simp only [kk1, e3, e5, e27, e30, e41, xz, ↓EVd, isCall, sevalprocAttr]
   refine TI.here (hJ1_0 _ ⟨v34, v32, v35, ⟨?_, ?_, ?_, ?_, ?_, ?_, ?_, ?_, ?_, ?_, ?_, ?_, ?_⟩, hO1 _ rfl⟩)
   all_goals try simp only [kk1, e3, e5, e27, e30, e41, xz, ↓EVd, isCall, sevalprocAttr]
   all_goals first | omega | exact lq (by omega) | exact nq (by omega) | rfl | (congr 1; omega)
 obtain ⟨o2, ho2, hm0⟩ := bsE hm0
 simp only [e3, e5, e27, xz, ↓EVd, isCall, sevalprocAttr]
 refine cwp_cx 0 (fun s => ∃ v56 : View, ∃ v57 : Int, ∃ v58 : Place, (s.T 5 = .loc 2 2 0 0 ∧ s.T 6 = .loc 3 2 0 0 ∧ s.T 7 = .loc 6 2 0 0 ∧ s.T 8 = int v57 ∧ s.T 9 = .loc 9 2 0 0 ∧ s.H 2 = some (.row 42 2 [.agg [int 0, nilS]]) ∧ s.H 3 = some (.row 44 2 [.agg [int 0, int 0]]) ∧ s.H 6 = some (.row 42 2 [xn v56]) ∧ s.H 9 = some (.row 44 2 [xc v58]) ∧ Lq 2 s.nx ∧ Lq 3 s.nx ∧ Lq 6 s.nx ∧ Lq 9 s.nx) ∧ (.inl (v56, v57, v58)) = o2) ?_ fun J2_0 hJ2_0 => ?_
 · rintro T2 H2 x55 ⟨v56, v57, v58, kk2_0, rfl⟩
   dsimp only [Lq, Nq] at kk2_0
   try dsimp only at hm0
   simp only [kk2_0, e3, e5, e27, xz, ↓EVd, isCall, sevalprocAttr]
   refine fineI [([], []), ([6], []), ([9], []), ([], []), ([], [2]), ([], [3])] rfl (by simp only [MT, sevalprocAttr]; first | done | omega) ?_
   obtain rfl := Option.some.inj hm0
   simp only [kk2_0, e3, e5, e27, xz, ↓EVd, isCall, sevalprocAttr]
   all_goals first | done | rfl | exact xb (by simp only [CLO]) | exact xe (by simp only [CLO]) (Sub.tup (Subs.cons (Sub.refl _) (Subs.cons (Sub.refl _) (Subs.cons (Sub.refl _) (Subs.nil)))))
 refine cwp_lp ho2 (fun (v51, v52, v53, v54) s => s.T 1 = .sl 1 (a1.map str) ∧ s.T 2 = .loc 0 6 0 0 ∧ s.T 5 = .loc 2 2 0 0 ∧ s.T 6 = .loc 3 2 0 0 ∧ s.T 7 = .loc 6 2 0 0 ∧ s.T 8 = int v51 ∧ s.T 9 = .loc 9 2 0 0 ∧ s.T 10 = int v52 ∧ s.H 0 = some (.row 29 6 [xf a0]) ∧ s.H 2 = some (.row 42 2 [.agg [int 0, nilS]]) ∧ s.H 3 = some (.row 44 2 [.agg [int 0, int 0]]) ∧ s.H 6 = some (.row 42 2 [xn v53]) ∧ s.H 9 = some (.row 44 2 [xc v54]) ∧ Lq 0 s.nx ∧ Lq 2 s.nx ∧ Lq 3 s.nx ∧ Lq 6 s.nx ∧ Lq 9 s.nx) ?_ ?_
 · refine TI.here ⟨?_, ?_, ?_, ?_, ?_, ?_, ?_, ?_, ?_, ?_, ?_, ?_, ?_, ?_, ?_, ?_, ?_, ?_⟩
   all_goals try simp only [e3, e5, e27, xz, ↓EVd, isCall, sevalprocAttr]
   all_goals first | omega | exact lq (by omega) | exact nq (by omega) | rfl | (congr 1; omega)
 rintro I2 ⟨v51, v52, v53, v54⟩ T2 H2 x50 st2 kk2 hm1 hI2 hO2
 dsimp only [Lq, Nq] at kk2
 simp only [x0n] at hm1
 rcases iteE hm1 with ⟨e60, hm1⟩ | ⟨e60, hm1⟩
 · rcases iteE hm1 with ⟨e62, hm1⟩ | ⟨e62, hm1⟩
   · obtain ⟨v63, e65, hm1⟩ := ixE str hm1
     obtain ⟨v66, h67, hm1⟩ := bsE hm1
     simp only [kk2, e3, e5, e27, e60, e62, e65, xz, ↓EVd, isCall, sevalprocAttr]
     refine qd (x7j _ _ _ _ h67) rfl ?_
     obtain rfl := Option.some.inj hm1
     simp only [kk2, e3, e5, e27, e60, e62, e65, xz, ↓EVd, isCall, sevalprocAttr]
     refine TI.here (hI2 _ rfl _ ⟨?_, ?_, ?_, ?_, ?_, ?_, ?_, ?_, ?_, ?_, ?_, ?_, ?_, ?_, ?_, ?_, ?_, ?_⟩)
     all_goals try simp only [kk2, e3, e5, e27, e60, e62, e65, xz, ↓EVd, isCall, sevalprocAttr]
     all_goals first | omega | exact lq (by omega) | exact nq (by omega) | rfl | (congr 1; omega)
   have e68 : (.agg [int 0, int 0] : AV) = xc (⟨0, 0⟩ : Place) := _root_.id rfl
   obtain rfl := Option.some.inj hm1
   obtain rfl := hO2 _ rfl
   try dsimp only at hm0
   obtain rfl := Option.some.inj hm0
   simp only [kk2, e3, e5, e27, e60, e62, e68, xz, ↓EVd, isCall, sevalprocAttr]
   all_goals first | done | rfl | exact xb (by simp only [CLO]) | exact xe (by simp only [CLO]) (Sub.tup (Subs.cons (Sub.refl _) (Subs.cons (Sub.agg (Subs.cons (Sub.refl _) (Subs.cons (Sub.nilS _) (Subs.nil)))) (Subs.cons (Sub.refl _) (Subs.nil)))))
 obtain rfl := Option.some.inj hm1
 simp only [kk2, e3, e5, e27, e60, xz, ↓EVd, isCall, sevalprocAttr]
 refine TI.here (hJ2_0 _ ⟨v53, v51, v54, ⟨?_, ?_, ?_, ?_, ?_, ?_, ?_, ?_, ?_, ?_, ?_, ?_, ?_⟩, hO2 _ rfl⟩)
 all_goals try simp only [kk2, e3, e5, e27, e60, xz, ↓EVd, isCall, sevalprocAttr]
 all_goals first | omega | exact lq (by omega) | exact nq (by omega) | rfl | (congr 1; omega)
def xui (a0 : Stack) (a1 : Place) : Option (Node) := if a1.layer = 0 then (x3c a0.upper a1.ino).bind fun v3 => some v3
 else (xgc a0 a1).bind fun v5 => some v5
def xvl := aI (aI (aI (@EV) (aI (@R3) (@R26))) (aI (@R29) (aI (@R44) (@R71)))) (aI (aI (@DBranch) (aI (@DStack) (@DPlace))) (aI (aI (@DOrigin) (@DAttr)) (aI (@DNode) (@DEntry))))
set_option maxHeartbeats 2000000 in
theorem xs2 (a0 : Stack) (a1 : Place) (r : Node) (hm0 : xui a0 a1 = some r) : Ok Tryz.prog 41 [xf a0, xc a1] (xo r) := by
 unfold xui at hm0
 refine okG x52 ?_
 unfold x5u
 rcases iteE hm0 with ⟨e2, hm0⟩ | ⟨e2, hm0⟩
 · obtain ⟨v3, h4, hm0⟩ := bsE hm0
   simp only [e2, xvl, ↓EVd, isCall, sevalprocAttr]
   refine qc (x5e _ _ _ h4) rfl ?_
   obtain rfl := Option.some.inj hm0
   simp only [e2, xvl, ↓EVd, isCall, sevalprocAttr]
   all_goals first | done | rfl | exact xb (by simp only [CLO])
 obtain ⟨v5, h6, hm0⟩ := bsE hm0
 simp only [e2, xvl, ↓EVd, isCall, sevalprocAttr]
 refine qc (x1d _ _ _ h6) rfl ?_
 obtain rfl := Option.some.inj hm0
 simp only [e2, xvl, ↓EVd, isCall, sevalprocAttr]
 all_goals first | done | rfl | exact xb (by simp only [CLO])
def xvf (a0 : Stack) (a1 : Place) : Option (List UInt8) := (xui a0 a1).bind fun v1 => if a1.layer = 0 then if v1.kind = 2 then (x9c v1.attr 16).bind fun v7 => if v7 = true then (x9c v1.attr 4).bind fun v11 => if v11 = true then (xii a0 v1.attr.origin).bind fun v15 => if v15.2 = true then if v15.1.kind = 2 then some v15.1.data
 else some v1.data
 else some v1.data
 else some v1.data
 else some v1.data
 else some v1.data
 else some v1.data
def xnc := aI (aI (aI (aI (@EV) (@R3)) (aI (@R5) (@R29))) (aI (aI (@R30) (@R44)) (aI (@R67) (@R69)))) (aI (aI (aI (@R71) (@DBranch)) (aI (@DStack) (@DPlace))) (aI (aI (@DOrigin) (@DAttr)) (aI (@DNode) (@DEntry))))
set_option maxHeartbeats 2000000 in
theorem x3q (a0 : Stack) (a1 : Place) (r : List UInt8) (hm0 : xvf a0 a1 = some r) : Ok Tryz.prog 17 [xf a0, xc a1] (.sl 1 (r.map u8)) := by
 unfold xvf at hm0
 refine okG x0z ?_
 unfold xqs
 obtain ⟨v1, h2, hm0⟩ := bsE hm0
 simp only [xnc, ↓EVd, isCall, sevalprocAttr]
 refine qc (xs2 _ _ _ h2) rfl ?_
 rcases iteE hm0 with ⟨e4, hm0⟩ | ⟨e4, hm0⟩
 · rcases iteE hm0 with ⟨e6, hm0⟩ | ⟨e6, hm0⟩
   · obtain ⟨v7, h8, hm0⟩ := bsE hm0
     simp only [e4, e6, xnc, ↓EVd, isCall, sevalprocAttr]
     refine qc (xwl _ _ _ h8) rfl ?_
     rcases itbE hm0 with ⟨e10, hm0⟩ | ⟨e10, hm0⟩
     · obtain ⟨v11, h12, hm0⟩ := bsE hm0
       simp only [e4, e6, e10, xnc, ↓EVd, isCall, sevalprocAttr]
       refine qc (xwl _ _ _ h12) rfl ?_
       rcases itbE hm0 with ⟨e14, hm0⟩ | ⟨e14, hm0⟩
       · obtain ⟨v15, h16, hm0⟩ := bsE hm0
         simp only [e4, e6, e10, e14, xnc, ↓EVd, isCall, sevalprocAttr]
         refine qc (x92 _ _ _ h16) rfl ?_
         rcases itbE hm0 with ⟨e18, hm0⟩ | ⟨e18, hm0⟩
         · rcases iteE hm0 with ⟨e20, hm0⟩ | ⟨e20, hm0⟩
           · obtain rfl := Option.some.inj hm0
             simp only [e4, e6, e10, e14, e18, e20, xnc, ↓EVd, isCall, sevalprocAttr]
             all_goals first | done | rfl | exact xb (by simp only [CLO])
           obtain rfl := Option.some.inj hm0
           simp only [e4, e6, e10, e14, e18, e20, xnc, ↓EVd, isCall, sevalprocAttr]
           all_goals first | done | rfl | exact xb (by simp only [CLO])
         obtain rfl := Option.some.inj hm0
         simp only [e4, e6, e10, e14, e18, xnc, ↓EVd, isCall, sevalprocAttr]
         all_goals first | done | rfl | exact xb (by simp only [CLO])
       obtain rfl := Option.some.inj hm0
       simp only [e4, e6, e10, e14, xnc, ↓EVd, isCall, sevalprocAttr]
       all_goals first | done | rfl | exact xb (by simp only [CLO])
     obtain rfl := Option.some.inj hm0
     simp only [e4, e6, e10, xnc, ↓EVd, isCall, sevalprocAttr]
     all_goals first | done | rfl | exact xb (by simp only [CLO])
   obtain rfl := Option.some.inj hm0
   simp only [e4, e6, xnc, ↓EVd, isCall, sevalprocAttr]
   all_goals first | done | rfl | exact xb (by simp only [CLO])
 obtain rfl := Option.some.inj hm0
 simp only [e4, xnc, ↓EVd, isCall, sevalprocAttr]
 all_goals first | done | rfl | exact xb (by simp only [CLO])
def xxi (a0 : Stack) (a1 : ByteArray) : Option (Seen × Bool) := (xrf a1).bind fun v1 => if (!v1.2) = true then some ((⟨0, [], []⟩ : Seen), false)
 else (x1i a0 v1.1).bind fun v5 => if v5.1 = 0 then some ((⟨0, [], []⟩ : Seen), false)
 else if v5.1 = 1 then (xpf a0 v5.2.1).bind fun v11 => some ((⟨v5.1, [], v11⟩ : Seen), true)
 else (xvf a0 v5.2.2).bind fun v13 => some ((⟨v5.1, v13, []⟩ : Seen), true)
def x0f := aI (aI (aI (aI (@EV) (@R3)) (aI (@R9) (@R29))) (aI (aI (@R31) (@R33)) (aI (@R42) (@R44)))) (aI (aI (aI (@DBranch) (@DStack)) (aI (@DSeen) (@DView))) (aI (aI (@DPlace) (@DOrigin)) (aI (@DAttr) (aI (@DNode) (@DEntry)))))
set_option maxHeartbeats 2000000 in
theorem xyw (a0 : Stack) (a1 : ByteArray) (r : Seen × Bool) (hm0 : xxi a0 a1 = some r) : Ok Tryz.prog 9 [xf a0, str a1] (.tup [xub r.1, bool r.2]) := by
 unfold xxi at hm0
 refine okG xq6 ?_
 unfold xaz
 obtain ⟨v1, h2, hm0⟩ := bsE hm0
 simp only [x0f, ↓EVd, isCall, sevalprocAttr]
 refine qc (xxq _ _ h2) rfl ?_
 rcases itbE hm0 with ⟨e4, hm0⟩ | ⟨e4, hm0⟩
 · obtain rfl := Option.some.inj hm0
   simp only [e4, x0f, ↓EVd, isCall, sevalprocAttr]
   all_goals first | done | rfl | exact xb (by simp only [CLO]) | exact xe (by simp only [CLO]) (Sub.tup (Subs.cons (Sub.agg (Subs.cons (Sub.refl _) (Subs.cons (Sub.nilS _) (Subs.cons (Sub.nilS _) (Subs.nil))))) (Subs.cons (Sub.refl _) (Subs.nil))))
 obtain ⟨v5, h6, hm0⟩ := bsE hm0
 simp only [e4, x0f, ↓EVd, isCall, sevalprocAttr]
 refine qc (xww _ _ _ h6) rfl ?_
 rcases iteE hm0 with ⟨e8, hm0⟩ | ⟨e8, hm0⟩
 · obtain rfl := Option.some.inj hm0
   simp only [e4, e8, x0f, ↓EVd, isCall, sevalprocAttr]
   all_goals first | done | rfl | exact xb (by simp only [CLO]) | exact xe (by simp only [CLO]) (Sub.tup (Subs.cons (Sub.agg (Subs.cons (Sub.refl _) (Subs.cons (Sub.nilS _) (Subs.cons (Sub.nilS _) (Subs.nil))))) (Subs.cons (Sub.refl _) (Subs.nil))))
 rcases iteE hm0 with ⟨e10, hm0⟩ | ⟨e10, hm0⟩
 · obtain ⟨v11, h12, hm0⟩ := bsE hm0
   simp only [e4, e8, e10, x0f, ↓EVd, isCall, sevalprocAttr]
   refine qc (x7z _ _ _ h12) rfl ?_
   obtain rfl := Option.some.inj hm0
   simp only [e4, e8, e10, x0f, ↓EVd, isCall, sevalprocAttr]
   all_goals first | done | rfl | exact xb (by simp only [CLO]) | exact xe (by simp only [CLO]) (Sub.tup (Subs.cons (Sub.agg (Subs.cons (Sub.refl _) (Subs.cons (Sub.nilS _) (Subs.cons (Sub.refl _) (Subs.nil))))) (Subs.cons (Sub.refl _) (Subs.nil))))
 obtain ⟨v13, h14, hm0⟩ := bsE hm0
 simp only [e4, e8, e10, x0f, ↓EVd, isCall, sevalprocAttr]
 refine qc (x3q _ _ _ h14) rfl ?_
 obtain rfl := Option.some.inj hm0
 simp only [e4, e8, e10, x0f, ↓EVd, isCall, sevalprocAttr]
 all_goals first | done | rfl | exact xb (by simp only [CLO]) | exact xe (by simp only [CLO]) (Sub.tup (Subs.cons (Sub.agg (Subs.cons (Sub.refl _) (Subs.cons (Sub.refl _) (Subs.cons (Sub.nilS _) (Subs.nil))))) (Subs.cons (Sub.refl _) (Subs.nil))))
def x0h (a0 : List UInt8) (a1 : List UInt8) : Int → Option (St (Int) ((Unit) ⊕ (Bool)))
 | v4 => if v4 < (a0.length : Int) then (ix a0 v4).bind fun v8 => (ix a1 v4).bind fun v11 => if (v8.toNat : Int) = (v11.toNat : Int) then some (.nx (wr (v4 + 1)))
 else some (.out (.inr false))
 else some (.out (.inl ()))
def x5h (a0 : List UInt8) (a1 : List UInt8) : Option (Bool) := if (a0.length : Int) = (a1.length : Int) then (iter (x0h a0 a1) big 0).bind fun o => (match o with
 | (.inl _) => some true
 | (.inr r) => some r)
 else some false
def xoe := aI (aI (@EV) (@R3)) (aI (@R5) (aI (@R30) (@mixed)))
set_option maxHeartbeats 2000000 in
theorem xj3 (a0 : List UInt8) (a1 : List UInt8) (r : Bool) (hm0 : x5h a0 a1 = some r) : Ok Tryz.prog 26 [.sl 1 (a0.map u8), .sl 1 (a1.map u8)] (bool r) := by
 unfold x5h at hm0
 refine okG xk2 ?_
 unfold xzt
 rcases iteE hm0 with ⟨e2, hm0⟩ | ⟨e2, hm0⟩
 · obtain ⟨o0, ho0, hm0⟩ := bsE hm0
   simp only [e2, xoe, ↓EVd, isCall, sevalprocAttr]
   refine cwp_cx 0 (fun s => (.inl ()) = o0) ?_ fun J0_0 hJ0_0 => ?_
   · rintro T0 H0 x5 rfl
     try dsimp only at hm0
     obtain rfl := Option.some.inj hm0
     simp only [e2, xoe, ↓EVd, isCall, sevalprocAttr]
     all_goals first | done | rfl
   refine cwp_lp ho0 (fun v4 s => s.T 0 = .sl 1 (a0.map u8) ∧ s.T 1 = .sl 1 (a1.map u8) ∧ s.T 5 = int v4) ?_ ?_
   · refine TI.here ⟨?_, ?_, ?_⟩
     all_goals try simp only [e2, xoe, ↓EVd, isCall, sevalprocAttr]
     all_goals first | omega | exact lq (by omega) | exact nq (by omega) | rfl | (congr 1; omega)
   rintro I0 v4 T0 H0 x3 st0 kk0 hm1 hI0 hO0
   dsimp only [Lq, Nq] at kk0
   simp only [x0h] at hm1
   rcases iteE hm1 with ⟨e7, hm1⟩ | ⟨e7, hm1⟩
   · obtain ⟨v8, e10, hm1⟩ := ixE u8 hm1
     obtain ⟨v11, e13, hm1⟩ := ixE u8 hm1
     rcases iteE hm1 with ⟨e15, hm1⟩ | ⟨e15, hm1⟩
     · obtain rfl := Option.some.inj hm1
       simp only [kk0, e2, e7, e10, e13, e15, xoe, ↓EVd, isCall, sevalprocAttr]
       refine TI.here (hI0 _ rfl _ ⟨?_, ?_, ?_⟩)
       all_goals try simp only [kk0, e2, e7, e10, e13, e15, xoe, ↓EVd, isCall, sevalprocAttr]
       all_goals first | omega | exact lq (by omega) | exact nq (by omega) | rfl | (congr 1; omega)
     obtain rfl := Option.some.inj hm1
     obtain rfl := hO0 _ rfl
     try dsimp only at hm0
     obtain rfl := Option.some.inj hm0
     simp only [kk0, e2, e7, e10, e13, e15, xoe, ↓EVd, isCall, sevalprocAttr]
     all_goals first | done | rfl
   obtain rfl := Option.some.inj hm1
   simp only [kk0, e2, e7, xoe, ↓EVd, isCall, sevalprocAttr]
   refine TI.here (hJ0_0 _ (hO0 _ rfl))
 obtain rfl := Option.some.inj hm0
 simp only [e2, xoe, ↓EVd, isCall, sevalprocAttr]
 all_goals first | done | rfl
def x2h (a0 : List ByteArray) (a1 : List ByteArray) : Int → Option (St (Int) ((Unit) ⊕ (Bool)))
 | v4 => if v4 < (a0.length : Int) then (ix a0 v4).bind fun v8 => (ix a1 v4).bind fun v11 => if v8 = v11 then some (.nx (wr (v4 + 1)))
 else some (.out (.inr false))
 else some (.out (.inl ()))
def xdi (a0 : List ByteArray) (a1 : List ByteArray) : Option (Bool) := if (a0.length : Int) = (a1.length : Int) then (iter (x2h a0 a1) big 0).bind fun o => (match o with
 | (.inl _) => some true
 | (.inr r) => some r)
 else some false
def xge := aI (aI (@EV) (@R3)) (aI (@R9) (aI (@R31) (@mixed)))
set_option maxHeartbeats 2000000 in
theorem xd3 (a0 : List ByteArray) (a1 : List ByteArray) (r : Bool) (hm0 : xdi a0 a1 = some r) : Ok Tryz.prog 27 [.sl 1 (a0.map str), .sl 1 (a1.map str)] (bool r) := by
 unfold xdi at hm0
 refine okG xq2 ?_
 unfold xvv
 rcases iteE hm0 with ⟨e2, hm0⟩ | ⟨e2, hm0⟩
 · obtain ⟨o0, ho0, hm0⟩ := bsE hm0
   simp only [e2, xge, ↓EVd, isCall, sevalprocAttr]
   refine cwp_cx 0 (fun s => (.inl ()) = o0) ?_ fun J0_0 hJ0_0 => ?_
   · rintro T0 H0 x5 rfl
     try dsimp only at hm0
     obtain rfl := Option.some.inj hm0
     simp only [e2, xge, ↓EVd, isCall, sevalprocAttr]
     all_goals first | done | rfl
   refine cwp_lp ho0 (fun v4 s => s.T 0 = .sl 1 (a0.map str) ∧ s.T 1 = .sl 1 (a1.map str) ∧ s.T 5 = int v4) ?_ ?_
   · refine TI.here ⟨?_, ?_, ?_⟩
     all_goals try simp only [e2, xge, ↓EVd, isCall, sevalprocAttr]
     all_goals first | omega | exact lq (by omega) | exact nq (by omega) | rfl | (congr 1; omega)
   rintro I0 v4 T0 H0 x3 st0 kk0 hm1 hI0 hO0
   dsimp only [Lq, Nq] at kk0
   simp only [x2h] at hm1
   rcases iteE hm1 with ⟨e7, hm1⟩ | ⟨e7, hm1⟩
   · obtain ⟨v8, e10, hm1⟩ := ixE str hm1
     obtain ⟨v11, e13, hm1⟩ := ixE str hm1
     rcases iteE hm1 with ⟨e15, hm1⟩ | ⟨e15, hm1⟩
     · obtain rfl := Option.some.inj hm1
       simp only [kk0, e2, e7, e10, e13, e15, xge, ↓EVd, isCall, sevalprocAttr]
       refine TI.here (hI0 _ rfl _ ⟨?_, ?_, ?_⟩)
       all_goals try simp only [kk0, e2, e7, e10, e13, e15, xge, ↓EVd, isCall, sevalprocAttr]
       all_goals first | omega | exact lq (by omega) | exact nq (by omega) | rfl | (congr 1; omega)
     obtain rfl := Option.some.inj hm1
     obtain rfl := hO0 _ rfl
     try dsimp only at hm0
     obtain rfl := Option.some.inj hm0
     simp only [kk0, e2, e7, e10, e13, e15, xge, ↓EVd, isCall, sevalprocAttr]
     all_goals first | done | rfl
   obtain rfl := Option.some.inj hm1
   simp only [kk0, e2, e7, xge, ↓EVd, isCall, sevalprocAttr]
   refine TI.here (hJ0_0 _ (hO0 _ rfl))
 obtain rfl := Option.some.inj hm0
 simp only [e2, xge, ↓EVd, isCall, sevalprocAttr]
 all_goals first | done | rfl
def xme (a0 : Seen) (a1 : Seen) : Option (Bool) := if a0.kind = a1.kind then (x5h a0.data a1.data).bind fun v3 => if v3 = true then (xdi a0.names a1.names).bind fun v7 => some v7
 else some false
 else some false
def xvi := aI (aI (aI (@EV) (@R3)) (aI (@R5) (@R9))) (aI (aI (@R30) (@R31)) (aI (@R33) (@DSeen)))
set_option maxHeartbeats 2000000 in
theorem xck (a0 : Seen) (a1 : Seen) (r : Bool) (hm0 : xme a0 a1 = some r) : Ok Tryz.prog 10 [xub a0, xub a1] (bool r) := by
 unfold xme at hm0
 refine okG xm2 ?_
 unfold x2u
 rcases iteE hm0 with ⟨e2, hm0⟩ | ⟨e2, hm0⟩
 · obtain ⟨v3, h4, hm0⟩ := bsE hm0
   simp only [e2, xvi, ↓EVd, isCall, sevalprocAttr]
   refine qc (xj3 _ _ _ h4) rfl ?_
   rcases itbE hm0 with ⟨e6, hm0⟩ | ⟨e6, hm0⟩
   · obtain ⟨v7, h8, hm0⟩ := bsE hm0
     simp only [e2, e6, xvi, ↓EVd, isCall, sevalprocAttr]
     refine qc (xd3 _ _ _ h8) rfl ?_
     obtain rfl := Option.some.inj hm0
     simp only [e2, e6, xvi, ↓EVd, isCall, sevalprocAttr]
     all_goals first | done | rfl
   obtain rfl := Option.some.inj hm0
   simp only [e2, e6, xvi, ↓EVd, isCall, sevalprocAttr]
   all_goals first | done | rfl
 obtain rfl := Option.some.inj hm0
 simp only [e2, xvi, ↓EVd, isCall, sevalprocAttr]
 all_goals first | done | rfl
def xeh (a0 : Stack) : Option (merge_shown) := (x2j a0).bind fun v1 => if 0 < v1.upper then some (⟨(⟨v1.upper, v1.lower⟩ : View), (⟨0, v1.upper⟩ : Place), 1⟩ : merge_shown)
 else if 0 < (v1.lower.length : Int) then (ix v1.lower 0).bind fun v8 => some (⟨(⟨v1.upper, v1.lower⟩ : View), (⟨v8.layer, v8.ino⟩ : Place), 1⟩ : merge_shown)
 else some (⟨(⟨v1.upper, v1.lower⟩ : View), (⟨0, 0⟩ : Place), 1⟩ : merge_shown)
def x3j := aI (aI (aI (aI (@EV) (@R3)) (aI (@R29) (@R40))) (aI (aI (@R42) (@R44)) (aI (@R61) (@DBranch)))) (aI (aI (aI (@DStack) (@DView)) (aI (@DPlace) (@xtt))) (aI (aI (@DOrigin) (@DAttr)) (aI (@DNode) (@DEntry))))
set_option maxHeartbeats 2000000 in
theorem xwz (a0 : Stack) (r : merge_shown) (hm0 : xeh a0 = some r) : Ok Tryz.prog 29 [xf a0] (xu r) := by
 unfold xeh at hm0
 refine okG xm0 ?_
 unfold x7s
 obtain ⟨v1, h2, hm0⟩ := bsE hm0
 simp only [x3j, ↓EVd, isCall, sevalprocAttr]
 refine qc (x34 _ _ h2) rfl ?_
 have e3 : (.agg [int v1.upper, .sl 2 (v1.lower.map xc), int 0, int 0, int 1] : AV) = xu (⟨(⟨v1.upper, v1.lower⟩ : View), (⟨0, 0⟩ : Place), 1⟩ : merge_shown) := _root_.id rfl
 rcases iteE hm0 with ⟨e5, hm0⟩ | ⟨e5, hm0⟩
 · obtain rfl := Option.some.inj hm0
   simp only [e3, e5, x3j, ↓EVd, isCall, sevalprocAttr]
   all_goals first | done | rfl | exact xb (by simp only [CLO])
 rcases iteE hm0 with ⟨e7, hm0⟩ | ⟨e7, hm0⟩
 · obtain ⟨v8, e10, hm0⟩ := ixE xc hm0
   try simp only [sevalprocAttr, eq_self, true_and] at e10
   obtain rfl := Option.some.inj hm0
   simp only [e3, e5, e7, e10, x3j, ↓EVd, isCall, sevalprocAttr]
   all_goals first | done | rfl | exact xb (by simp only [CLO])
 obtain rfl := Option.some.inj hm0
 simp only [e3, e5, e7, x3j, ↓EVd, isCall, sevalprocAttr]
 all_goals first | done | rfl | exact xb (by simp only [CLO])
def xsf (a0 : Stack) (a1 : List ByteArray) : (Int × merge_shown) → Option (St (Int × merge_shown) ((merge_shown) ⊕ (Int × View × Place)))
 | (v4, v5) => if v4 < (a1.length : Int) then (ix a1 v4).bind fun v10 => if v5.kind = 1 then (xfg a0 v5.view v10).bind fun v15 => some (.nx ((wr (v4 + 1)), ({ ({ ({ v5 with kind := v15.1 } : merge_shown) with view := v15.2.1 } : merge_shown) with place := v15.2.2 } : merge_shown)))
 else some (.out (.inr (0, (⟨0, []⟩ : View), (⟨0, 0⟩ : Place))))
 else some (.out (.inl v5))
def x6f (a0 : Stack) (a1 : List ByteArray) : Option (Int × View × Place) := (xeh a0).bind fun v1 => (iter (xsf a0 a1) big (0, v1)).bind fun o => (match o with
 | (.inl v7) => some (v7.kind, v7.view, v7.place)
 | (.inr r) => some r)
def xod := aI (aI (aI (aI (@EV) (@R3)) (aI (@R9) (@R29))) (aI (aI (@R31) (@R42)) (aI (@R44) (aI (@R61) (@DBranch))))) (aI (aI (aI (@DStack) (@DView)) (aI (@DPlace) (@xtt))) (aI (aI (@DOrigin) (@DAttr)) (aI (@DNode) (aI (@DEntry) (@mixed)))))
set_option maxHeartbeats 2000000 in
theorem xcn (a0 : Stack) (a1 : List ByteArray) (r : Int × View × Place) (hm0 : x6f a0 a1 = some r) : Ok Tryz.prog 12 [xf a0, .sl 1 (a1.map str)] (.tup [int r.1, xn r.2.1, xc r.2.2]) := by
 unfold x6f at hm0
 refine okG xu6 ?_
 unfold xez
 obtain ⟨v1, h2, hm0⟩ := bsE hm0
 simp only [xod, ↓EVd, isCall, sevalprocAttr]
 refine qc (xwz _ _ h2) rfl ?_
 obtain ⟨o0, ho0, hm0⟩ := bsE hm0
 simp only [xod, ↓EVd, isCall, sevalprocAttr]
 refine cwp_cx 0 (fun s => ∃ v7 : merge_shown, (s.T 5 = .loc 2 2 0 0 ∧ s.T 6 = .loc 3 2 0 0 ∧ s.T 7 = .loc 6 5 0 0 ∧ s.H 2 = some (.row 42 2 [.agg [int 0, nilS]]) ∧ s.H 3 = some (.row 44 2 [.agg [int 0, int 0]]) ∧ s.H 6 = some (.row 61 5 [xu v7]) ∧ Lq 2 s.nx ∧ Lq 3 s.nx ∧ Lq 6 s.nx) ∧ (.inl v7) = o0) ?_ fun J0_0 hJ0_0 => ?_
 · rintro T0 H0 x6 ⟨v7, kk0_0, rfl⟩
   dsimp only [Lq, Nq] at kk0_0
   try dsimp only at hm0
   simp only [kk0_0, xod, ↓EVd, isCall, sevalprocAttr]
   refine fineI [([], []), ([6], []), ([], []), ([6], []), ([], []), ([6], []), ([], []), ([], [2]), ([], [3])] rfl (by simp only [MT, sevalprocAttr]; first | done | omega) ?_
   obtain rfl := Option.some.inj hm0
   simp only [kk0_0, xod, ↓EVd, isCall, sevalprocAttr]
   all_goals first | done | rfl | exact xb (by simp only [CLO]) | exact xe (by simp only [CLO]) (Sub.tup (Subs.cons (Sub.refl _) (Subs.cons (Sub.refl _) (Subs.cons (Sub.refl _) (Subs.nil)))))
 refine cwp_lp ho0 (fun (v4, v5) s => s.T 2 = .loc 0 6 0 0 ∧ s.T 5 = .loc 2 2 0 0 ∧ s.T 6 = .loc 3 2 0 0 ∧ s.T 7 = .loc 6 5 0 0 ∧ s.T 12 = .sl 1 (a1.map str) ∧ s.T 13 = int (a1.length : Int) ∧ s.T 14 = int v4 ∧ s.H 0 = some (.row 29 6 [xf a0]) ∧ s.H 2 = some (.row 42 2 [.agg [int 0, nilS]]) ∧ s.H 3 = some (.row 44 2 [.agg [int 0, int 0]]) ∧ s.H 6 = some (.row 61 5 [xu v5]) ∧ Lq 0 s.nx ∧ Lq 2 s.nx ∧ Lq 3 s.nx ∧ Lq 6 s.nx) ?_ ?_
 · refine TI.here ⟨?_, ?_, ?_, ?_, ?_, ?_, ?_, ?_, ?_, ?_, ?_, ?_, ?_, ?_, ?_⟩
   all_goals try simp only [xod, ↓EVd, isCall, sevalprocAttr]
   all_goals first | omega | exact lq (by omega) | exact nq (by omega) | rfl | (congr 1; omega)
 rintro I0 ⟨v4, v5⟩ T0 H0 x3 st0 kk0 hm1 hI0 hO0
 dsimp only [Lq, Nq] at kk0
 simp only [xsf] at hm1
 rcases iteE hm1 with ⟨e9, hm1⟩ | ⟨e9, hm1⟩
 · obtain ⟨v10, e12, hm1⟩ := ixE str hm1
   rcases iteE hm1 with ⟨e14, hm1⟩ | ⟨e14, hm1⟩
   · obtain ⟨v15, h16, hm1⟩ := bsE hm1
     simp only [kk0, e9, e12, e14, xod, ↓EVd, isCall, sevalprocAttr]
     refine qc (xwu _ _ _ _ h16) rfl ?_
     obtain rfl := Option.some.inj hm1
     simp only [kk0, e9, e12, e14, xod, ↓EVd, isCall, sevalprocAttr]
     refine TI.here (hI0 _ rfl _ ⟨?_, ?_, ?_, ?_, ?_, ?_, ?_, ?_, ?_, ?_, ?_, ?_, ?_, ?_, ?_⟩)
     all_goals try simp only [kk0, e9, e12, e14, xod, ↓EVd, isCall, sevalprocAttr]
     all_goals first | omega | exact lq (by omega) | exact nq (by omega) | rfl | (congr 1; omega)
   have e17 : (.agg [int 0, int 0] : AV) = xc (⟨0, 0⟩ : Place) := _root_.id rfl
   obtain rfl := Option.some.inj hm1
   obtain rfl := hO0 _ rfl
   try dsimp only at hm0
   obtain rfl := Option.some.inj hm0
   simp only [kk0, e9, e12, e14, e17, xod, ↓EVd, isCall, sevalprocAttr]
   all_goals first | done | rfl | exact xb (by simp only [CLO]) | exact xe (by simp only [CLO]) (Sub.tup (Subs.cons (Sub.refl _) (Subs.cons (Sub.agg (Subs.cons (Sub.refl _) (Subs.cons (Sub.nilS _) (Subs.nil)))) (Subs.cons (Sub.refl _) (Subs.nil)))))
 obtain rfl := Option.some.inj hm1
 simp only [kk0, e9, xod, ↓EVd, isCall, sevalprocAttr]
 refine TI.here (hJ0_0 _ ⟨v5, ⟨?_, ?_, ?_, ?_, ?_, ?_, ?_, ?_, ?_⟩, hO0 _ rfl⟩)
 all_goals try simp only [kk0, e9, xod, ↓EVd, isCall, sevalprocAttr]
 all_goals first | omega | exact lq (by omega) | exact nq (by omega) | rfl | (congr 1; omega)
def xji (a0 : Stack) (a1 : Place) : Option (Node) := if a1.layer < 0 then some (⟨0, 0, 0, 0, [], [], (⟨0, 0, xl, (⟨0, 0, 0⟩ : Origin), 0⟩ : Attr)⟩ : Node)
 else if (a0.lowers.length : Int) < a1.layer then some (⟨0, 0, 0, 0, [], [], (⟨0, 0, xl, (⟨0, 0, 0⟩ : Origin), 0⟩ : Attr)⟩ : Node)
 else if 0 < a1.layer then (ix a0.lowers (wr (a1.layer - 1))).bind fun v7 => if a1.ino < 1 then some (⟨0, 0, 0, 0, [], [], (⟨0, 0, xl, (⟨0, 0, 0⟩ : Origin), 0⟩ : Attr)⟩ : Node)
 else if (v7.nodes.length : Int) < a1.ino then some (⟨0, 0, 0, 0, [], [], (⟨0, 0, xl, (⟨0, 0, 0⟩ : Origin), 0⟩ : Attr)⟩ : Node)
 else (ix v7.nodes (wr (a1.ino - 1))).bind fun v14 => some v14
 else if a1.ino < 1 then some (⟨0, 0, 0, 0, [], [], (⟨0, 0, xl, (⟨0, 0, 0⟩ : Origin), 0⟩ : Attr)⟩ : Node)
 else if (a0.upper.nodes.length : Int) < a1.ino then some (⟨0, 0, 0, 0, [], [], (⟨0, 0, xl, (⟨0, 0, 0⟩ : Origin), 0⟩ : Attr)⟩ : Node)
 else (ix a0.upper.nodes (wr (a1.ino - 1))).bind fun v21 => some v21
def xne := aI (aI (aI (@EV) (aI (@R3) (@R24))) (aI (aI (@R26) (@R27)) (aI (@R29) (@R44)))) (aI (aI (aI (@R71) (@DBranch)) (aI (@DStack) (@DPlace))) (aI (aI (@DOrigin) (@DAttr)) (aI (@DNode) (@DEntry))))
set_option maxHeartbeats 2000000 in
theorem xp2 (a0 : Stack) (a1 : Place) (r : Node) (hm0 : xji a0 a1 = some r) : Ok Tryz.prog 38 [xf a0, xc a1] (xo r) := by
 unfold xji at hm0
 refine okG xn3 ?_
 unfold xlu
 rcases iteE hm0 with ⟨e2, hm0⟩ | ⟨e2, hm0⟩
 · obtain rfl := Option.some.inj hm0
   simp only [e2, xne, ↓EVd, isCall, sevalprocAttr]
   all_goals first | done | rfl | exact xb (by simp only [CLO]) | exact xe (by simp only [CLO]) (Sub.agg (Subs.cons (Sub.refl _) (Subs.cons (Sub.refl _) (Subs.cons (Sub.refl _) (Subs.cons (Sub.refl _) (Subs.cons (Sub.nilS _) (Subs.cons (Sub.nilS _) (Subs.cons (Sub.refl _) (Subs.cons (Sub.refl _) (Subs.cons (Sub.refl _) (Subs.cons (Sub.refl _) (Subs.cons (Sub.refl _) (Subs.cons (Sub.refl _) (Subs.cons (Sub.refl _) (Subs.nil)))))))))))))))
 rcases iteE hm0 with ⟨e4, hm0⟩ | ⟨e4, hm0⟩
 · obtain rfl := Option.some.inj hm0
   simp only [e2, e4, xne, ↓EVd, isCall, sevalprocAttr]
   all_goals first | done | rfl | exact xb (by simp only [CLO]) | exact xe (by simp only [CLO]) (Sub.agg (Subs.cons (Sub.refl _) (Subs.cons (Sub.refl _) (Subs.cons (Sub.refl _) (Subs.cons (Sub.refl _) (Subs.cons (Sub.nilS _) (Subs.cons (Sub.nilS _) (Subs.cons (Sub.refl _) (Subs.cons (Sub.refl _) (Subs.cons (Sub.refl _) (Subs.cons (Sub.refl _) (Subs.cons (Sub.refl _) (Subs.cons (Sub.refl _) (Subs.cons (Sub.refl _) (Subs.nil)))))))))))))))
 rcases iteE hm0 with ⟨e6, hm0⟩ | ⟨e6, hm0⟩
 · obtain ⟨v7, e9, hm0⟩ := ixE xcb hm0
   rcases iteE hm0 with ⟨e11, hm0⟩ | ⟨e11, hm0⟩
   · obtain rfl := Option.some.inj hm0
     simp only [e2, e4, e6, e9, e11, xne, ↓EVd, isCall, sevalprocAttr]
     all_goals first | done | rfl | exact xb (by simp only [CLO]) | exact xe (by simp only [CLO]) (Sub.agg (Subs.cons (Sub.refl _) (Subs.cons (Sub.refl _) (Subs.cons (Sub.refl _) (Subs.cons (Sub.refl _) (Subs.cons (Sub.nilS _) (Subs.cons (Sub.nilS _) (Subs.cons (Sub.refl _) (Subs.cons (Sub.refl _) (Subs.cons (Sub.refl _) (Subs.cons (Sub.refl _) (Subs.cons (Sub.refl _) (Subs.cons (Sub.refl _) (Subs.cons (Sub.refl _) (Subs.nil)))))))))))))))
   rcases iteE hm0 with ⟨e13, hm0⟩ | ⟨e13, hm0⟩
   · obtain rfl := Option.some.inj hm0
     simp only [e2, e4, e6, e9, e11, e13, xne, ↓EVd, isCall, sevalprocAttr]
     all_goals first | done | rfl | exact xb (by simp only [CLO]) | exact xe (by simp only [CLO]) (Sub.agg (Subs.cons (Sub.refl _) (Subs.cons (Sub.refl _) (Subs.cons (Sub.refl _) (Subs.cons (Sub.refl _) (Subs.cons (Sub.nilS _) (Subs.cons (Sub.nilS _) (Subs.cons (Sub.refl _) (Subs.cons (Sub.refl _) (Subs.cons (Sub.refl _) (Subs.cons (Sub.refl _) (Subs.cons (Sub.refl _) (Subs.cons (Sub.refl _) (Subs.cons (Sub.refl _) (Subs.nil)))))))))))))))
   obtain ⟨v14, e16, hm0⟩ := ixE xo hm0
   obtain rfl := Option.some.inj hm0
   simp only [e2, e4, e6, e9, e11, e13, e16, xne, ↓EVd, isCall, sevalprocAttr]
   all_goals first | done | rfl | exact xb (by simp only [CLO])
 rcases iteE hm0 with ⟨e18, hm0⟩ | ⟨e18, hm0⟩
 · obtain rfl := Option.some.inj hm0
   simp only [e2, e4, e6, e18, xne, ↓EVd, isCall, sevalprocAttr]
   all_goals first | done | rfl | exact xb (by simp only [CLO]) | exact xe (by simp only [CLO]) (Sub.agg (Subs.cons (Sub.refl _) (Subs.cons (Sub.refl _) (Subs.cons (Sub.refl _) (Subs.cons (Sub.refl _) (Subs.cons (Sub.nilS _) (Subs.cons (Sub.nilS _) (Subs.cons (Sub.refl _) (Subs.cons (Sub.refl _) (Subs.cons (Sub.refl _) (Subs.cons (Sub.refl _) (Subs.cons (Sub.refl _) (Subs.cons (Sub.refl _) (Subs.cons (Sub.refl _) (Subs.nil)))))))))))))))
 rcases iteE hm0 with ⟨e20, hm0⟩ | ⟨e20, hm0⟩
 · obtain rfl := Option.some.inj hm0
   simp only [e2, e4, e6, e18, e20, xne, ↓EVd, isCall, sevalprocAttr]
   all_goals first | done | rfl | exact xb (by simp only [CLO]) | exact xe (by simp only [CLO]) (Sub.agg (Subs.cons (Sub.refl _) (Subs.cons (Sub.refl _) (Subs.cons (Sub.refl _) (Subs.cons (Sub.refl _) (Subs.cons (Sub.nilS _) (Subs.cons (Sub.nilS _) (Subs.cons (Sub.refl _) (Subs.cons (Sub.refl _) (Subs.cons (Sub.refl _) (Subs.cons (Sub.refl _) (Subs.cons (Sub.refl _) (Subs.cons (Sub.refl _) (Subs.cons (Sub.refl _) (Subs.nil)))))))))))))))
 obtain ⟨v21, e23, hm0⟩ := ixE xo hm0
 obtain rfl := Option.some.inj hm0
 simp only [e2, e4, e6, e18, e20, e23, xne, ↓EVd, isCall, sevalprocAttr]
 all_goals first | done | rfl | exact xb (by simp only [CLO])
def xtf (a0 : Stack) (a1 : Place) : Option (List UInt8) := (xji a0 a1).bind fun v1 => if a1.layer = 0 then if v1.kind = 2 then if 0 ≤ v1.attr.has then if (bAnd .i64 v1.attr.has 20) = 20 then (xjh a0 v1.attr.origin).bind fun v11 => if v11.2 = true then if v11.1.kind = 2 then (cloneM 1 v11.1.data).bind fun v17 => some v17
 else (cloneM 1 v1.data).bind fun v19 => some v19
 else (cloneM 1 v1.data).bind fun v21 => some v21
 else (cloneM 1 v1.data).bind fun v23 => some v23
 else (cloneM 1 v1.data).bind fun v25 => some v25
 else (cloneM 1 v1.data).bind fun v27 => some v27
 else (cloneM 1 v1.data).bind fun v29 => some v29
def xtb := aI (aI (aI (aI (@EV) (@R3)) (aI (@R5) (@R29))) (aI (aI (@R30) (@R44)) (aI (@R67) (@R69)))) (aI (aI (aI (@R71) (@DBranch)) (aI (@DStack) (@DPlace))) (aI (aI (@DOrigin) (@DAttr)) (aI (@DNode) (@DEntry))))
set_option maxHeartbeats 2000000 in
theorem xsr (a0 : Stack) (a1 : Place) (r : List UInt8) (hm0 : xtf a0 a1 = some r) : Ok Tryz.prog 16 [xf a0, xc a1] (.sl 1 (r.map u8)) := by
 unfold xtf at hm0
 refine okG x00 ?_
 unfold xys
 obtain ⟨v1, h2, hm0⟩ := bsE hm0
 simp only [xtb, ↓EVd, isCall, sevalprocAttr]
 refine qc (xp2 _ _ _ h2) rfl ?_
 rcases iteE hm0 with ⟨e4, hm0⟩ | ⟨e4, hm0⟩
 · rcases iteE hm0 with ⟨e6, hm0⟩ | ⟨e6, hm0⟩
   · rcases iteE hm0 with ⟨e8, hm0⟩ | ⟨e8, hm0⟩
     · rcases iteE hm0 with ⟨e10, hm0⟩ | ⟨e10, hm0⟩
       · obtain ⟨v11, h12, hm0⟩ := bsE hm0
         simp only [e4, e6, e8, e10, xtb, ↓EVd, isCall, sevalprocAttr]
         refine qc (x70 _ _ _ h12) rfl ?_
         rcases itbE hm0 with ⟨e14, hm0⟩ | ⟨e14, hm0⟩
         · rcases iteE hm0 with ⟨e16, hm0⟩ | ⟨e16, hm0⟩
           · obtain ⟨v17, h18, hm0⟩ := bsE hm0
             simp only [e4, e6, e8, e10, e14, e16, xtb, ↓EVd, isCall, sevalprocAttr]
             refine qc (xxg x2b x9d aggN_5 x3g zero_5 rfl (by decide) u8 _ _ h18 (fun z => by simp only [CLO])) rfl ?_
             obtain rfl := Option.some.inj hm0
             simp only [e4, e6, e8, e10, e14, e16, xtb, ↓EVd, isCall, sevalprocAttr]
             all_goals first | done | rfl | exact xb (by simp only [CLO])
           obtain ⟨v19, h20, hm0⟩ := bsE hm0
           simp only [e4, e6, e8, e10, e14, e16, xtb, ↓EVd, isCall, sevalprocAttr]
           refine qc (xxg x2b x9d aggN_5 x3g zero_5 rfl (by decide) u8 _ _ h20 (fun z => by simp only [CLO])) rfl ?_
           obtain rfl := Option.some.inj hm0
           simp only [e4, e6, e8, e10, e14, e16, xtb, ↓EVd, isCall, sevalprocAttr]
           all_goals first | done | rfl | exact xb (by simp only [CLO])
         obtain ⟨v21, h22, hm0⟩ := bsE hm0
         simp only [e4, e6, e8, e10, e14, xtb, ↓EVd, isCall, sevalprocAttr]
         refine qc (xxg x2b x9d aggN_5 x3g zero_5 rfl (by decide) u8 _ _ h22 (fun z => by simp only [CLO])) rfl ?_
         obtain rfl := Option.some.inj hm0
         simp only [e4, e6, e8, e10, e14, xtb, ↓EVd, isCall, sevalprocAttr]
         all_goals first | done | rfl | exact xb (by simp only [CLO])
       obtain ⟨v23, h24, hm0⟩ := bsE hm0
       simp only [e4, e6, e8, e10, xtb, ↓EVd, isCall, sevalprocAttr]
       refine qc (xxg x2b x9d aggN_5 x3g zero_5 rfl (by decide) u8 _ _ h24 (fun z => by simp only [CLO])) rfl ?_
       obtain rfl := Option.some.inj hm0
       simp only [e4, e6, e8, e10, xtb, ↓EVd, isCall, sevalprocAttr]
       all_goals first | done | rfl | exact xb (by simp only [CLO])
     obtain ⟨v25, h26, hm0⟩ := bsE hm0
     simp only [e4, e6, e8, xtb, ↓EVd, isCall, sevalprocAttr]
     refine qc (xxg x2b x9d aggN_5 x3g zero_5 rfl (by decide) u8 _ _ h26 (fun z => by simp only [CLO])) rfl ?_
     obtain rfl := Option.some.inj hm0
     simp only [e4, e6, e8, xtb, ↓EVd, isCall, sevalprocAttr]
     all_goals first | done | rfl | exact xb (by simp only [CLO])
   obtain ⟨v27, h28, hm0⟩ := bsE hm0
   simp only [e4, e6, xtb, ↓EVd, isCall, sevalprocAttr]
   refine qc (xxg x2b x9d aggN_5 x3g zero_5 rfl (by decide) u8 _ _ h28 (fun z => by simp only [CLO])) rfl ?_
   obtain rfl := Option.some.inj hm0
   simp only [e4, e6, xtb, ↓EVd, isCall, sevalprocAttr]
   all_goals first | done | rfl | exact xb (by simp only [CLO])
 obtain ⟨v29, h30, hm0⟩ := bsE hm0
 simp only [e4, xtb, ↓EVd, isCall, sevalprocAttr]
 refine qc (xxg x2b x9d aggN_5 x3g zero_5 rfl (by decide) u8 _ _ h30 (fun z => by simp only [CLO])) rfl ?_
 obtain rfl := Option.some.inj hm0
 simp only [e4, xtb, ↓EVd, isCall, sevalprocAttr]
 all_goals first | done | rfl | exact xb (by simp only [CLO])
def xdc (a0 : Stack) (a1 : ByteArray) : Option (Seen × Bool) := (xhg a1).bind fun v1 => if (!v1.2) = true then some ((⟨0, [], []⟩ : Seen), false)
 else (x6f a0 v1.1).bind fun v5 => if v5.1 = 0 then some ((⟨0, [], []⟩ : Seen), false)
 else if v5.1 = 1 then (xjf a0 v5.2.1).bind fun v11 => some ((⟨v5.1, [], v11⟩ : Seen), true)
 else (xtf a0 v5.2.2).bind fun v13 => some ((⟨v5.1, v13, []⟩ : Seen), true)
def x4f := aI (aI (aI (aI (@EV) (@R3)) (aI (@R5) (@R9))) (aI (aI (@R29) (@R30)) (aI (@R31) (aI (@R33) (@R42))))) (aI (aI (aI (@R44) (@DBranch)) (aI (@DStack) (aI (@DSeen) (@DView)))) (aI (aI (@DPlace) (@DOrigin)) (aI (@DAttr) (aI (@DNode) (@DEntry)))))
set_option maxHeartbeats 2000000 in
theorem xnh (a0 : Stack) (a1 : ByteArray) (r : Seen × Bool) (hm0 : xdc a0 a1 = some r) : Ok Tryz.prog 8 [xf a0, str a1] (.tup [xub r.1, bool r.2]) := by
 unfold xdc at hm0
 refine okG xy6 ?_
 unfold xhy
 obtain ⟨v1, h2, hm0⟩ := bsE hm0
 simp only [x4f, ↓EVd, isCall, sevalprocAttr]
 refine qc (xvs _ _ h2) rfl ?_
 rcases itbE hm0 with ⟨e4, hm0⟩ | ⟨e4, hm0⟩
 · obtain rfl := Option.some.inj hm0
   simp only [e4, x4f, ↓EVd, isCall, sevalprocAttr]
   all_goals first | done | rfl | exact xb (by simp only [CLO]) | exact xe (by simp only [CLO]) (Sub.tup (Subs.cons (Sub.agg (Subs.cons (Sub.refl _) (Subs.cons (Sub.nilS _) (Subs.cons (Sub.nilS _) (Subs.nil))))) (Subs.cons (Sub.refl _) (Subs.nil))))
 obtain ⟨v5, h6, hm0⟩ := bsE hm0
 simp only [e4, x4f, ↓EVd, isCall, sevalprocAttr]
 refine qc (xcn _ _ _ h6) rfl ?_
 rcases iteE hm0 with ⟨e8, hm0⟩ | ⟨e8, hm0⟩
 · obtain rfl := Option.some.inj hm0
   simp only [e4, e8, x4f, ↓EVd, isCall, sevalprocAttr]
   all_goals first | done | rfl | exact xb (by simp only [CLO]) | exact xe (by simp only [CLO]) (Sub.tup (Subs.cons (Sub.agg (Subs.cons (Sub.refl _) (Subs.cons (Sub.nilS _) (Subs.cons (Sub.nilS _) (Subs.nil))))) (Subs.cons (Sub.refl _) (Subs.nil))))
 rcases iteE hm0 with ⟨e10, hm0⟩ | ⟨e10, hm0⟩
 · obtain ⟨v11, h12, hm0⟩ := bsE hm0
   simp only [e4, e8, e10, x4f, ↓EVd, isCall, sevalprocAttr]
   refine qc (x6s _ _ _ h12) rfl ?_
   obtain rfl := Option.some.inj hm0
   simp only [e4, e8, e10, x4f, ↓EVd, isCall, sevalprocAttr]
   all_goals first | done | rfl | exact xb (by simp only [CLO]) | exact xe (by simp only [CLO]) (Sub.tup (Subs.cons (Sub.agg (Subs.cons (Sub.refl _) (Subs.cons (Sub.nilS _) (Subs.cons (Sub.refl _) (Subs.nil))))) (Subs.cons (Sub.refl _) (Subs.nil))))
 obtain ⟨v13, h14, hm0⟩ := bsE hm0
 simp only [e4, e8, e10, x4f, ↓EVd, isCall, sevalprocAttr]
 refine qc (xsr _ _ _ h14) rfl ?_
 obtain rfl := Option.some.inj hm0
 simp only [e4, e8, e10, x4f, ↓EVd, isCall, sevalprocAttr]
 all_goals first | done | rfl | exact xb (by simp only [CLO]) | exact xe (by simp only [CLO]) (Sub.tup (Subs.cons (Sub.agg (Subs.cons (Sub.refl _) (Subs.cons (Sub.refl _) (Subs.cons (Sub.nilS _) (Subs.nil))))) (Subs.cons (Sub.refl _) (Subs.nil))))
def xbd (a0 : Seen) (a1 : Seen) : Option (Bool) := if a0.kind = a1.kind then (xvd a0.data a1.data).bind fun v3 => if v3 = true then (xic a0.names a1.names).bind fun v7 => some v7
 else some false
 else some false
def xci := aI (aI (aI (@EV) (@R3)) (aI (@R5) (@R9))) (aI (aI (@R30) (@R31)) (aI (@R33) (@DSeen)))
set_option maxHeartbeats 2000000 in
theorem x4j (a0 : Seen) (a1 : Seen) (r : Bool) (hm0 : xbd a0 a1 = some r) : Ok Tryz.prog 11 [xub a0, xub a1] (bool r) := by
 unfold xbd at hm0
 refine okG xc3 ?_
 unfold xiv
 rcases iteE hm0 with ⟨e2, hm0⟩ | ⟨e2, hm0⟩
 · obtain ⟨v3, h4, hm0⟩ := bsE hm0
   simp only [e2, xci, ↓EVd, isCall, sevalprocAttr]
   refine qc (xum _ _ _ h4) rfl ?_
   rcases itbE hm0 with ⟨e6, hm0⟩ | ⟨e6, hm0⟩
   · obtain ⟨v7, h8, hm0⟩ := bsE hm0
     simp only [e2, e6, xci, ↓EVd, isCall, sevalprocAttr]
     refine qc (x1l _ _ _ h8) rfl ?_
     obtain rfl := Option.some.inj hm0
     simp only [e2, e6, xci, ↓EVd, isCall, sevalprocAttr]
     all_goals first | done | rfl
   obtain rfl := Option.some.inj hm0
   simp only [e2, e6, xci, ↓EVd, isCall, sevalprocAttr]
   all_goals first | done | rfl
 obtain rfl := Option.some.inj hm0
 simp only [e2, xci, ↓EVd, isCall, sevalprocAttr]
 all_goals first | done | rfl
end Go.Proofs.YtfefidkblgendaaGreatDoor.AL

/- Plain laws of chapter 18: what names show, nodes, bytes. -/
set_option linter.all false
namespace Go.Proofs.YtfefidkblgendaaGreatDoor.AL
open Go Go.Proofs
structure MV (s : Stack) : Prop where
  up : ∀ x ∈ s.upper.nodes, x.data.length ≤ 300
  low : ∀ b ∈ s.lowers, ∀ x ∈ b.nodes, x.data.length ≤ 300
theorem SD.mv {s : Stack} {k : Int} (h : SD s k) : MV s := ⟨h.data, fun b hb => (h.datas b hb).2⟩
def nodeM (s : Stack) (p : Place) : Node := if p.layer = 0 then nodeP s.upper p.ino else nodeQ s.lowers p
theorem xs8 {s : Stack} (h : MV s) (ino : Int) : (nodeP s.upper ino).data.length ≤ 300 := by
  unfold nodeP
  split
  · simp [xah]
  · split
    · simp [xah]
    · rename_i h1 h2
      have hlt : (ino - 1).toNat < s.upper.nodes.length := by omega
      simp only [List.getElem?_eq_getElem hlt, Option.getD_some]
      exact h.up _ (List.getElem_mem hlt)
theorem x0y {s : Stack} (h : MV s) (p : Place) : (nodeQ s.lowers p).data.length ≤ 300 := by
  unfold nodeQ
  split
  · simp [zN]
  · split
    · simp [zN]
    · rename_i h1 h2
      have hlt : (p.layer - 1).toNat < s.lowers.length := by omega
      rw [List.getElem?_eq_getElem hlt, Option.getD_some]
      have hb := h.low _ (List.getElem_mem hlt)
      generalize s.lowers[(p.layer - 1).toNat] = b at hb
      split
      · simp [zN]
      · split
        · simp [zN]
        · rename_i h3 h4
          have hlt2 : (p.ino - 1).toNat < b.nodes.length := by omega
          rw [List.getElem?_eq_getElem hlt2, Option.getD_some]
          exact hb _ (List.getElem_mem hlt2)
theorem xmy {s : Stack} (h : MV s) (p : Place) : (nodeM s p).data.length ≤ 300 := by
  unfold nodeM
  split
  · exact xs8 h _
  · exact x0y h _
theorem xb5 {s : Stack} (h : SV s) (p : Place) : NV (nodeM s p) := by
  unfold nodeM
  split
  · exact x9f h.up _
  · exact (xeg h.low p).nv
abbrev Sh3 := Int × View × Place
def stA (s : Stack) (t : Sh3) (nm : ByteArray) : Sh3 ⊕ Sh3 := if t.1 = 1 then .inl (stpV s t.2.1 nm) else .inr (0, ⟨0, []⟩, ⟨0, 0⟩)
def begV (s : Stack) : Sh3 := (1, rootV s, if 0 < (rootV s).upper then ⟨0, 1⟩ else (rootV s).lower.headD ⟨0, 0⟩)
def endA (o : Sh3 ⊕ Sh3) : Sh3 := match o with
  | .inl t => t
  | .inr r => r
def atV (s : Stack) (nms : List ByteArray) : Sh3 := endA (foldE (stA s) nms (begV s))
theorem xz0 {s : Stack} (h : SV s) {t : Sh3} (ht : t.2.1.lower.length ≤ 3) (nm : ByteArray) {t' : Sh3} (e : stA s t nm = .inl t') : t'.2.1.lower.length ≤ 3 := by
  unfold stA at e
  split at e
  · injection e with e
    subst e
    exact xzbb h ht (Nat.le_refl 3) nm
  · cases e
theorem x6x {s : Stack} (h : SV s) : (begV s).2.1.lower.length ≤ 3 := x88 h
theorem xx9 {s : Stack} (h : SV s) (nms : List ByteArray) {t : Sh3} (e : foldE (stA s) nms (begV s) = .inl t) : t.2.1.lower.length ≤ 3 :=
  xl1 (J := fun t => t.2.1.lower.length ≤ 3) nms (begV s) (x6x h) (fun _ x _ _ ht e => xz0 h ht x e) t e
theorem xc2 {s : Stack} (nms : List ByteArray) {r : Sh3} (e : foldE (stA s) nms (begV s) = .inr r) : r = (0, ⟨0, []⟩, ⟨0, 0⟩) :=
  xnu (R := fun r => r = (0, ⟨0, []⟩, ⟨0, 0⟩)) nms (begV s) (fun t x r _ e => by
    unfold stA at e
    split at e
    · cases e
    · injection e with e
      exact e.symm) r e
theorem x7v {s : Stack} (h : SV s) (nms : List ByteArray) : (atV s nms).2.1.lower.length ≤ 3 := by
  unfold atV
  cases e : foldE (stA s) nms (begV s) with
  | inl t => exact xx9 h nms e
  | inr r =>
    rw [xc2 nms e]
    simp [endA]
theorem xi2 {α σ ρ : Type} (step : σ → α → σ ⊕ ρ) : ∀ (xs ys : List α) (s : σ), foldE step (xs ++ ys) s = match foldE step xs s with
    | .inl s' => foldE step ys s'
    | .inr r => .inr r
  | [], ys, s => rfl
  | x :: xs, ys, s => by
    rw [List.cons_append]
    show (match step s x with | .inl s' => foldE step (xs ++ ys) s' | .inr r => .inr r) = (match (match step s x with | .inl s' => foldE step xs s' | .inr r => .inr r) with | .inl s' => foldE step ys s' | .inr r => .inr r)
    cases step s x with
    | inl s' => exact xi2 step xs ys s'
    | inr r => rfl
theorem x8ab {α σ ρ : Type} (step : σ → α → σ ⊕ ρ) (x : α) (s : σ) : foldE step [x] s = step s x := by
  unfold foldE
  cases step s x with
  | inl s' => rfl
  | inr r => rfl
theorem xzcb (s : Stack) (nms : List ByteArray) (last : ByteArray) : atV s (nms ++ [last]) = if (atV s nms).1 = 1 then stpV s (atV s nms).2.1 last else (0, ⟨0, []⟩, ⟨0, 0⟩) := by
  unfold atV
  rw [xi2]
  cases e : foldE (stA s) nms (begV s) with
  | inl t =>
    have e1 : endA (Sum.inl t : Sh3 ⊕ Sh3) = t := rfl
    rw [e1]
    show endA (foldE (stA s) [last] t) = _
    rw [x8ab]
    unfold stA
    by_cases h1 : t.1 = 1
    · rw [if_pos h1, if_pos h1]; rfl
    · rw [if_neg h1, if_neg h1]; rfl
  | inr r =>
    rw [xc2 nms e]
    simp [endA]
def findH (s : Stack) (o : Origin) : Node × Bool :=
  if ((nodeQ s.lowers ⟨o.layer, o.ino⟩).kind = 1 ∨ (nodeQ s.lowers ⟨o.layer, o.ino⟩).kind = 2 ∨ (nodeQ s.lowers ⟨o.layer, o.ino⟩).kind = 3) ∧ (nodeQ s.lowers ⟨o.layer, o.ino⟩).gen = o.gen then (nodeQ s.lowers ⟨o.layer, o.ino⟩, true) else (zN, false)
theorem xcab {s : Stack} (h : SV s) (o : Origin) : xii s o = some (findH s o) := by
  unfold xii findH
  rw [lowerQ h.low]
  simp only [Option.bind_some]
  generalize nodeQ s.lowers ⟨o.layer, o.ino⟩ = n
  by_cases h1 : n.kind = 1 <;> by_cases h2 : n.kind = 2 <;> by_cases h3 : n.kind = 3 <;> by_cases h4 : n.gen = o.gen <;> simp [h1, h2, h3, h4] <;> first | rfl | omega
theorem xgcb {s : Stack} (h : SV s) (o : Origin) : xjh s o = some (findH s o) := by
  unfold xjh findH nodeQ
  by_cases h1 : o.layer < 1
  · rw [if_pos h1, if_pos h1]; simp [zN]
  rw [if_neg h1, if_neg h1]
  by_cases h2 : (s.lowers.length : Int) < o.layer
  · rw [if_pos h2, if_pos h2]; simp [zN]
  rw [if_neg h2, if_neg h2]
  have hl := h.low.len
  have hlt : (o.layer - 1).toNat < s.lowers.length := by omega
  rw [wr_in (by omega) (by omega), ix_of (by omega) (by omega)]
  simp only [Option.bind_some]
  rw [List.getElem?_eq_getElem hlt]
  simp only [Option.getD_some]
  have hb := (h.low.nodes _ (List.getElem_mem hlt)).1
  generalize s.lowers[(o.layer - 1).toNat] = b at hb
  by_cases h3 : o.ino < 1
  · rw [if_pos h3, if_pos h3]; simp [zN]
  rw [if_neg h3, if_neg h3]
  by_cases h4 : (b.nodes.length : Int) < o.ino
  · rw [if_pos h4, if_pos h4]; simp [zN]
  rw [if_neg h4, if_neg h4]
  have hlt2 : (o.ino - 1).toNat < b.nodes.length := by omega
  rw [wr_in (by omega) (by omega), ix_of (by omega) (by omega)]
  simp only [Option.bind_some]
  rw [List.getElem?_eq_getElem hlt2]
  simp only [Option.getD_some]
  generalize b.nodes[(o.ino - 1).toNat] = n
  by_cases k1 : n.kind = 1 <;> by_cases k2 : n.kind = 2 <;> by_cases k3 : n.kind = 3 <;> by_cases k4 : n.gen = o.gen <;> simp [k1, k2, k3, k4, zN] <;> omega
def mkS (t : Sh3) : merge_shown := ⟨t.2.1, t.2.2, t.1⟩
theorem xdcb (s : Stack) : (rootV s).upper = 0 ∨ (rootV s).upper = 1 := by
  unfold rootV
  simp only
  split
  · exact .inr rfl
  · exact .inl rfl
theorem xqcb {s : Stack} (h : SV s) : xeh s = some (mkS (begV s)) := by
  unfold xeh begV mkS
  rw [xacb h]
  simp only [Option.bind_some]
  by_cases hu : 0 < (rootV s).upper
  · have : (rootV s).upper = 1 := by rcases xdcb s with h | h <;> omega
    rw [if_pos hu, if_pos hu, this]
    rw [← this]
  · rw [if_neg hu, if_neg hu]
    cases hl : (rootV s).lower with
    | nil =>
      rw [if_neg (by simp)]
      simp only [List.headD_nil]
      rw [← hl]
    | cons p l =>
      rw [if_pos (by simp only [List.length_cons]; omega)]
      have : ix (p :: l) 0 = some p := rfl
      rw [this]
      simp only [Option.bind_some, List.headD_cons]
      rw [← hl]
theorem at_eqM {s : Stack} (h : SV s) {nms : List ByteArray} (hn : nms.length ≤ 10000000) : x6f s nms = some (atV s nms) := by
  unfold x6f
  rw [xqcb h]
  simp only [Option.bind_some]
  have := x3e (B := xsf s nms) (fun i t => ((i : Int), mkS t)) nms (stA s) (fun o => match o with | .inl t => .inl (mkS t) | .inr r => .inr r) (fun _ t => t.2.1.lower.length ≤ 3) (by
    intro i t hi ht
    have hb : xsf s nms ((i : Int), mkS t) = some (match stA s t nms[i] with | .inl t' => .nx (((i + 1 : Nat) : Int), mkS t') | .inr r => .out (.inr r)) := by
      simp only [xsf]
      rw [if_pos (by omega), ix_at hi, wr_suc (by omega)]
      simp only [Option.bind_some]
      unfold stA
      by_cases h1 : t.1 = 1
      · rw [if_pos (show (mkS t).kind = 1 from h1), if_pos h1]
        show ((xfg s t.2.1 nms[i]).bind fun v15 => some (St.nx (((i + 1 : Nat) : Int), (⟨v15.2.1, v15.2.2, v15.1⟩ : merge_shown)))) = _
        rw [x66 h (by omega)]
        rfl
      · rw [if_neg (show ¬ (mkS t).kind = 1 from h1), if_neg h1]
    split
    · rename_i t' hs
      rw [hs] at hb
      exact ⟨hb, xz0 h ht _ hs⟩
    · rename_i r hs
      rw [hs] at hb
      exact hb) (by
    intro t ht
    simp only [xsf]
    rw [if_neg (by omega)]) (s0 := begV s) (x6x h) (fuel := big) (by rw [big_eq]; omega)
  have e0 : ((0 : Nat) : Int) = 0 := rfl
  rw [e0] at this
  rw [this]
  simp only [Option.bind_some]
  unfold atV
  cases foldE (stA s) nms (begV s) <;> rfl
theorem xpx {s : Stack} (h : SV s) {nms : List ByteArray} (hn : nms.length ≤ 10000000) {B : (Int × Int × View × Place) → Option (St (Int × Int × View × Place) ((View × Int × Place) ⊕ (Int × View × Place)))}
    (hB : B = xwd s nms) : iter B big (1, 0, (begV s).2.1, (begV s).2.2) = some (match foldE (stA s) nms (begV s) with | .inl t => .inl (t.2.1, t.1, t.2.2) | .inr r => .inr r) := by
  subst hB
  have := x3e (B := xwd s nms) (fun i t => (t.1, (i : Int), t.2.1, t.2.2)) nms (stA s) (fun o => match o with | .inl t => .inl (t.2.1, t.1, t.2.2) | .inr r => .inr r) (fun _ t => t.2.1.lower.length ≤ 3) (by
    intro i t hi ht
    have hb : xwd s nms (t.1, (i : Int), t.2.1, t.2.2) = some (match stA s t nms[i] with | .inl t' => .nx (t'.1, ((i + 1 : Nat) : Int), t'.2.1, t'.2.2) | .inr r => .out (.inr r)) := by
      simp only [xwd]
      rw [if_pos (by omega), wr_suc (by omega)]
      unfold stA
      by_cases h1 : t.1 = 1
      · rw [if_pos h1, if_pos h1, ix_at hi]
        simp only [Option.bind_some]
        rw [x23 h (by omega)]
        rfl
      · rw [if_neg h1, if_neg h1]
    split
    · rename_i t' hs
      rw [hs] at hb
      exact ⟨hb, xz0 h ht _ hs⟩
    · rename_i r hs
      rw [hs] at hb
      exact hb) (by
    intro t ht
    simp only [xwd]
    rw [if_neg (by omega)]) (s0 := begV s) (x6x h) (fuel := big) (by rw [big_eq]; omega)
  have e0 : ((0 : Nat) : Int) = 0 := rfl
  rw [e0] at this
  exact this
theorem x06 {s : Stack} (h : SV s) {nms : List ByteArray} (hn : nms.length ≤ 10000000) : x1i s nms = some (atV s nms) := by
  unfold x1i
  rw [xqbb h]
  simp only [Option.bind_some]
  have h0 := xpx h hn (B := xwd s nms) rfl
  have h1 := xpx h hn (B := x2n s nms) rfl
  have h2 := xpx h hn (B := x0n s nms) rfl
  have ev : (begV s).2.1 = rootV s := rfl
  have ep : (begV s).2.2 = if 0 < (rootV s).upper then ⟨0, 1⟩ else (rootV s).lower.headD ⟨0, 0⟩ := rfl
  rw [ev, ep] at h0 h1 h2
  have fin : ∀ o : Sh3 ⊕ Sh3, (match (match o with | .inl t => (.inl (t.2.1, t.1, t.2.2) : (View × Int × Place) ⊕ (Int × View × Place)) | .inr r => .inr r) with | (.inl (v13, v14, v15)) => some (v14, v13, v15) | (.inr r) => some r) = some (endA o) := by
    rintro (t | r) <;> rfl
  by_cases hu : 0 < (rootV s).upper
  · rw [if_pos hu] at h0 ⊢
    rw [h0]
    exact fin _
  · rw [if_neg hu] at h1 h2 ⊢
    cases hl : (rootV s).lower with
    | nil =>
      rw [if_neg (by simp)]
      rw [hl, List.headD_nil] at h2
      rw [h2]
      exact fin _
    | cons p l =>
      rw [if_pos (by simp only [List.length_cons]; omega)]
      have : ix (p :: l) 0 = some p := rfl
      rw [this]
      simp only [Option.bind_some]
      rw [hl, List.headD_cons] at h1
      rw [h1]
      exact fin _
def copyB (n : Node) : Bool := decide ((wr (n.attr.has.tdiv 16)).tmod 2 = 1) && decide ((wr (n.attr.has.tdiv 4)).tmod 2 = 1)
def dataM (s : Stack) (p : Place) : List UInt8 :=
  if p.layer = 0 ∧ (nodeM s p).kind = 2 ∧ copyB (nodeM s p) = true ∧ (findH s (nodeM s p).attr.origin).2 = true ∧ (findH s (nodeM s p).attr.origin).1.kind = 2 then (findH s (nodeM s p).attr.origin).1.data else (nodeM s p).data
theorem xbz {s : Stack} (h : MV s) (o : Origin) : (findH s o).1.data.length ≤ 300 := by
  unfold findH
  split
  · exact x0y h _
  · simp [zN]
theorem xm9 {s : Stack} (h : MV s) (p : Place) : (dataM s p).length ≤ 300 := by
  unfold dataM
  split
  · exact xbz h _
  · exact xmy h _
theorem bits20 (k : Fin 32) : bAnd .i64 (k.val : Int) 20 = 20 ↔ ((wr ((k.val : Int).tdiv 16)).tmod 2 = 1 ∧ (wr ((k.val : Int).tdiv 4)).tmod 2 = 1) := by
  revert k
  decide +kernel
theorem xucb {n : Node} (h : NV n) : bAnd .i64 n.attr.has 20 = 20 ↔ copyB n = true := by
  have e : ((n.attr.has.toNat : Nat) : Int) = n.attr.has := by have := h.has0; omega
  have hb := bits20 ⟨n.attr.has.toNat, by have := h.has0; have := h.has1; omega⟩
  simp only [e] at hb
  rw [hb]
  simp [copyB]
theorem x96 {n : Node} (h : NV n) (b : Int) (hb : ¬ b = 0) : x9c n.attr b = some (decide ((wr (n.attr.has.tdiv b)).tmod 2 = 1)) := by
  unfold x9c xmh ck
  rw [if_pos h.has0, if_pos (by simpa using hb)]
  simp only [Option.bind_some]
  by_cases hq : (wr (n.attr.has.tdiv b)).tmod 2 = 1
  · rw [if_pos hq]; exact congrArg some (decide_eq_true hq).symm
  · rw [if_neg hq]; exact congrArg some (decide_eq_false hq).symm
theorem xhbb {s : Stack} (h : SV s) (p : Place) : xji s p = some (nodeM s p) := by
  unfold xji nodeM
  have hul := h.up.len
  have hll := h.low.len
  by_cases h1 : p.layer < 0
  · rw [if_pos h1, if_neg (by omega)]
    unfold nodeQ
    rw [if_pos (by omega)]
    rfl
  rw [if_neg h1]
  by_cases h2 : (s.lowers.length : Int) < p.layer
  · rw [if_pos h2, if_neg (by omega)]
    unfold nodeQ
    rw [if_neg (by omega), if_pos h2]
    rfl
  rw [if_neg h2]
  by_cases h3 : 0 < p.layer
  · rw [if_pos h3, if_neg (show ¬ p.layer = 0 by omega)]
    have hp := xjo h.low p
    unfold xzb at hp
    rw [if_neg (by omega), if_neg h2] at hp
    rw [← hp]
  · rw [if_neg h3, if_pos (show p.layer = 0 by omega), ← xek h]
    unfold x0b
    by_cases h5 : p.ino < 1
    · rw [if_pos h5]
    · rw [if_neg h5]
theorem x79 {s : Stack} (h : SV s) (p : Place) : xui s p = some (nodeM s p) := by
  unfold xui nodeM
  rw [atv_eq h, lowerQ h.low]
  split <;> rfl
theorem x9y {l : List UInt8} (h : l.length ≤ 1000) : cloneM 1 l = some l := xv4 (by omega) (by decide)
theorem x71 {s : Stack} (h : SV s) (hm : MV s) (p : Place) : xtf s p = some (dataM s p) := by
  unfold xtf
  rw [xhbb h]
  simp only [Option.bind_some]
  have hnv := xb5 h p
  have hnd := xmy hm p
  have hfd := xbz hm (nodeM s p).attr.origin
  rw [x9y (by omega), xgcb h]
  simp only [Option.bind_some]
  rw [x9y (by omega)]
  unfold dataM
  have hc := xucb hnv
  have h0 := hnv.has0
  by_cases h1 : p.layer = 0
  · by_cases h2 : (nodeM s p).kind = 2
    · by_cases h3 : copyB (nodeM s p) = true
      · have h3' := hc.2 h3
        by_cases h4 : (findH s (nodeM s p).attr.origin).2 = true
        · by_cases h5 : (findH s (nodeM s p).attr.origin).1.kind = 2 <;> simp [h1, h2, h3, h3', h4, h5, h0]
        · simp [h1, h2, h3, h3', h4, h0]
      · have h3' : ¬ bAnd .i64 (nodeM s p).attr.has 20 = 20 := fun e => h3 (hc.1 e)
        simp [h1, h2, h3, h3', h0]
    · simp [h1, h2]
  · simp [h1]
theorem xs1 {s : Stack} (h : SV s) (p : Place) : xvf s p = some (dataM s p) := by
  unfold xvf
  rw [x79 h]
  simp only [Option.bind_some]
  have hnv := xb5 h p
  rw [x96 hnv 16 (by omega), x96 hnv 4 (by omega), xcab h]
  simp only [Option.bind_some]
  unfold dataM copyB
  by_cases h1 : p.layer = 0
  · by_cases h2 : (nodeM s p).kind = 2
    · by_cases h3 : (wr ((nodeM s p).attr.has.tdiv 16)).tmod 2 = 1
      · by_cases h3' : (wr ((nodeM s p).attr.has.tdiv 4)).tmod 2 = 1
        · by_cases h4 : (findH s (nodeM s p).attr.origin).2 = true
          · by_cases h5 : (findH s (nodeM s p).attr.origin).1.kind = 2 <;> simp [h1, h2, h3, h3', h4, h5]
          · simp [h1, h2, h3, h3', h4]
        · simp [h1, h2, h3, h3']
      · simp [h1, h2, h3]
    · simp [h1, h2]
  · simp [h1]
theorem xyy (t : ByteArray) : (splitP t).1.length ≤ t.size + 1 := by
  unfold splitP
  split
  · simp
  · split
    · exact x9n t
    · simp
def zS : Seen := ⟨0, [], []⟩
def ofV (s : Stack) (t : ByteArray) : Seen × Bool :=
  if (splitP t).2 = true then
    if (atV s (splitP t).1).1 = 0 then (zS, false)
    else if (atV s (splitP t).1).1 = 1 then (⟨1, [], namesV s (atV s (splitP t).1).2.1⟩, true)
    else (⟨(atV s (splitP t).1).1, dataM s (atV s (splitP t).1).2.2, []⟩, true)
  else (zS, false)
structure SS (x : Seen) : Prop where
  data : x.data.length ≤ 1000
  names : x.names.length ≤ 1000
theorem ofV_ss {s : Stack} (h : SV s) (hm : MV s) (t : ByteArray) : SS (ofV s t).1 := by
  have hn := x1y h (v := (atV s (splitP t).1).2.1) (m := 3) (x7v h _)
  have hd := xm9 hm (atV s (splitP t).1).2.2
  unfold ofV
  generalize namesV s (atV s (splitP t).1).2.1 = l at hn
  generalize dataM s (atV s (splitP t).1).2.2 = d at hd
  split
  · split
    · exact ⟨by simp [zS], by simp [zS]⟩
    · split
      · exact ⟨by simp, Nat.le_trans hn (by omega)⟩
      · exact ⟨Nat.le_trans hd (by omega), by simp⟩
  · exact ⟨by simp [zS], by simp [zS]⟩
theorem of_eq {s : Stack} (h : SV s) (hm : MV s) {t : ByteArray} (ht : t.size ≤ 2000000) : xdc s t = some (ofV s t) := by
  unfold xdc ofV
  rw [xmz ht]
  simp only [Option.bind_some]
  have hl := xyy t
  by_cases hs : (splitP t).2 = true
  · rw [if_neg (by simp [hs]), if_pos hs, at_eqM h (by omega)]
    simp only [Option.bind_some]
    have hlow := x7v h (splitP t).1
    rw [xb2 h (by omega), x71 h hm]
    simp only [Option.bind_some]
    split
    · rfl
    · split
      · rename_i h1; rw [h1]
      · rfl
  · rw [if_pos (by simpa using hs), if_neg hs]
    rfl
theorem rof_eq {s : Stack} (h : SV s) {t : ByteArray} (ht : t.size ≤ 2000000) : xxi s t = some (ofV s t) := by
  unfold xxi ofV
  rw [xpw ht]
  simp only [Option.bind_some]
  have hl := xyy t
  by_cases hs : (splitP t).2 = true
  · rw [if_neg (by simp [hs]), if_pos hs, x06 h (by omega)]
    simp only [Option.bind_some]
    have hlow := x7v h (splitP t).1
    rw [xh6 h (by omega), xs1 h]
    simp only [Option.bind_some]
    split
    · rfl
    · split
      · rename_i h1; rw [h1]
      · rfl
  · rw [if_pos (by simpa using hs), if_neg hs]
    rfl
def sameB (a b : Seen) : Bool := decide (a.kind = b.kind) && decide (a.data = b.data) && decide (a.names = b.names)
theorem xzw {a b : List UInt8} : xsh a = xsh b ↔ a = b := by
  constructor
  · intro h
    have := congrArg (fun x : ByteArray => x.data.toList) h
    simpa [xsh] using this
  · rintro rfl; rfl
theorem x5t (a b : List UInt8) : xvd a b = some (decide (a = b)) := by
  unfold xvd
  by_cases h : a = b
  · rw [if_pos (xzw.2 h)]; simp [h]
  · rw [if_neg (fun e => h (xzw.1 e))]; simp [h]
theorem xaab {a b : List UInt8} (h : a.length ≤ 1000000) : x5h a b = some (decide (a = b)) := by
  unfold x5h
  by_cases hl : a.length = b.length
  · rw [if_pos (by omega), eqLoop hl (by omega)]
    · by_cases he : a = b <;> simp [he]
    · intro i h1 h2
      simp only [x0h]
      rw [if_pos (by omega), ix_at h1, ix_at h2]
      simp only [Option.bind_some]
      rw [wr_suc (by omega)]
      by_cases he : a[i] = b[i]
      · rw [if_pos he, if_pos (by rw [he])]
      · rw [if_neg he, if_neg (fun e => he (UInt8.toNat_inj.1 (by omega)))]
    · simp only [x0h]
      rw [if_neg (by omega)]
  · rw [if_neg (by omega)]
    have : ¬ a = b := by rintro rfl; exact hl rfl
    simp [this]
theorem xzab {a b : List ByteArray} (h : a.length ≤ 1000000) : xdi a b = some (decide (a = b)) := by
  unfold xdi
  by_cases hl : a.length = b.length
  · rw [if_pos (by omega), eqLoop hl (by omega)]
    · by_cases he : a = b <;> simp [he]
    · intro i h1 h2
      simp only [x2h]
      rw [if_pos (by omega), ix_at h1, ix_at h2]
      simp only [Option.bind_some]
      rw [wr_suc (by omega)]
    · simp only [x2h]
      rw [if_neg (by omega)]
  · rw [if_neg (by omega)]
    have : ¬ a = b := by rintro rfl; exact hl rfl
    simp [this]
theorem xlx {a b : Seen} (h : SS a) : xbd a b = some (sameB a b) := by
  have hn := h.names
  unfold xbd sameB
  rw [x5t, xdab (by omega)]
  simp only [Option.bind_some]
  by_cases h1 : a.kind = b.kind <;> by_cases h2 : a.data = b.data <;> by_cases h3 : a.names = b.names <;> simp [h1, h2, h3]
theorem xtx {a b : Seen} (h : SS a) : xme a b = some (sameB a b) := by
  have hn := h.names
  have hd := h.data
  unfold xme sameB
  rw [xaab (by omega), xzab (by omega)]
  simp only [Option.bind_some]
  by_cases h1 : a.kind = b.kind <;> by_cases h2 : a.data = b.data <;> by_cases h3 : a.names = b.names <;> simp [h1, h2, h3]
theorem xly (a : Seen) : sameB a a = true := by simp [sameB]
end Go.Proofs.YtfefidkblgendaaGreatDoor.AL

/- Plain laws of names and paths: joins. -/
set_option linter.all false
namespace Go.Proofs.YtfefidkblgendaaGreatDoor.AL
open Go Go.Proofs
def joinP (l : List ByteArray) : ByteArray := mkB (47 :: Lib.join (l.map fun x => x.data.toList) [47])
theorem xy9 {l : List ByteArray} (h1 : l.length ≤ 140737488355328) (h2 : (Lib.join (l.map fun x => x.data.toList) [47]).length ≤ 140737488355328) : xxh l = some (joinP l) := by
  unfold xxh xsg joinM ck
  have hd : (ByteArray.mk #[47]).data.toList = [47] := rfl
  rw [hd, if_pos ⟨h1, h2⟩]
  simp only [Option.bind_some]
  have e : (⟨(Lib.join (l.map fun x => x.data.toList) [47]).toArray⟩ : ByteArray) = mkB (Lib.join (l.map fun x => x.data.toList) [47]) := rfl
  rw [e, if_pos (by rw [xhp]; show 1 + _ ≤ _; omega)]
  simp only [Option.bind_some]
  show some (mkB [47] ++ mkB _) = _
  rw [xg7]
  rfl
end Go.Proofs.YtfefidkblgendaaGreatDoor.AL

