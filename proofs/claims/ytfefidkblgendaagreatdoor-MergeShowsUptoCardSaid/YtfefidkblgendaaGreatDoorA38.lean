/- What any node of any stack should say of copies, and which say otherwise, is what the document says: part 38 of 51. -/
import Derived.Test.YtfefidkblgendaaGreatDoorA37
set_option linter.all false
/- Models of functions, and that the functions are as their models: written by gen.py. -/
set_option linter.all false
set_option maxRecDepth 100000
namespace Go.Proofs.YtfefidkblgendaaGreatDoor.AL
open Go Go.Proofs
def x3c (a0 : Branch) (a1 : Int) : Option (Node) := if a1 < 1 then some (⟨0, 0, 0, 0, [], [], (⟨0, 0, xl, (⟨0, 0, 0⟩ : Origin), 0⟩ : Attr)⟩ : Node)
 else if (a0.nodes.length : Int) < a1 then some (⟨0, 0, 0, 0, [], [], (⟨0, 0, xl, (⟨0, 0, 0⟩ : Origin), 0⟩ : Attr)⟩ : Node)
 else (ix a0.nodes (wr (a1 - 1))).bind fun v5 => some v5
def x8r := aI (aI (aI (@EV) (@R3)) (aI (@R24) (aI (@R26) (@R71)))) (aI (aI (@DBranch) (@DOrigin)) (aI (@DAttr) (aI (@DNode) (@DEntry))))
set_option maxHeartbeats 2000000 in
theorem x5e (a0 : Branch) (a1 : Int) (r : Node) (hm0 : x3c a0 a1 = some r) : Ok Tryz.prog 58 [xcb a0, int a1] (xo r) := by
 unfold x3c at hm0
 refine okG xp6 ?_
 unfold xky
 rcases iteE hm0 with ⟨e2, hm0⟩ | ⟨e2, hm0⟩
 · obtain rfl := Option.some.inj hm0
   simp only [e2, x8r, ↓EVd, isCall, sevalprocAttr]
   all_goals first | done | rfl | exact xb (by simp only [CLO]) | exact xe (by simp only [CLO]) (Sub.agg (Subs.cons (Sub.refl _) (Subs.cons (Sub.refl _) (Subs.cons (Sub.refl _) (Subs.cons (Sub.refl _) (Subs.cons (Sub.nilS _) (Subs.cons (Sub.nilS _) (Subs.cons (Sub.refl _) (Subs.cons (Sub.refl _) (Subs.cons (Sub.refl _) (Subs.cons (Sub.refl _) (Subs.cons (Sub.refl _) (Subs.cons (Sub.refl _) (Subs.cons (Sub.refl _) (Subs.nil)))))))))))))))
 rcases iteE hm0 with ⟨e4, hm0⟩ | ⟨e4, hm0⟩
 · obtain rfl := Option.some.inj hm0
   simp only [e2, e4, x8r, ↓EVd, isCall, sevalprocAttr]
   all_goals first | done | rfl | exact xb (by simp only [CLO]) | exact xe (by simp only [CLO]) (Sub.agg (Subs.cons (Sub.refl _) (Subs.cons (Sub.refl _) (Subs.cons (Sub.refl _) (Subs.cons (Sub.refl _) (Subs.cons (Sub.nilS _) (Subs.cons (Sub.nilS _) (Subs.cons (Sub.refl _) (Subs.cons (Sub.refl _) (Subs.cons (Sub.refl _) (Subs.cons (Sub.refl _) (Subs.cons (Sub.refl _) (Subs.cons (Sub.refl _) (Subs.cons (Sub.refl _) (Subs.nil)))))))))))))))
 obtain ⟨v5, e7, hm0⟩ := ixE xo hm0
 obtain rfl := Option.some.inj hm0
 simp only [e2, e4, e7, x8r, ↓EVd, isCall, sevalprocAttr]
 all_goals first | done | rfl | exact xb (by simp only [CLO])
end Go.Proofs.YtfefidkblgendaaGreatDoor.AL

