/- A law of the given program is proved: part 50 of 51. -/
import Derived.Test.YtapdjibjnfeipaaGreatDoorD49
set_option linter.all false
/- Models of functions, and that the functions are as their models: written by gen.py. -/
set_option linter.all false
set_option maxRecDepth 100000
namespace Go.Proofs.YtapdjibjnfeipaaGreatDoor.AL
open Go Go.Proofs
def x8b  : Option (Bool) := (xhr ).bind fun v1 => (x6c v1).bind fun v3 => (x5c v1 v3 (ByteArray.mk #[97])).bind fun v5 => (x5c v1 v3 (ByteArray.mk #[122])).bind fun v7 => (xun v1).bind fun v9 => if v3.upper = 1 then if (v3.lower.length : Int) = 1 then if v5.1 = 2 then if (decide (v5.2.2 = (⟨1, 2⟩ : Place))) = true then if v7.1 = 0 then (xbe v1 v3).bind fun v22 => (xhd v22 ([(ByteArray.mk #[97])] : List ByteArray)).bind fun v24 => if v24 = true then if (v9.1.length : Int) = 1 then if (v9.2.length : Int) = 1 then some true
 else some false
 else some false
 else some false
 else some false
 else some false
 else some false
 else some false
 else some false
def xib := aI (aI (aI (aI (@EV) (@R3)) (aI (@R9) (aI (@R29) (@R30)))) (aI (aI (@R32) (@R42)) (aI (@R45) (aI (@R73) (@R74))))) (aI (aI (aI (@R79) (@DBranch)) (aI (@DStack) (aI (@DView) (@DPlace)))) (aI (aI (@DEntry) (@DAttr)) (aI (@DNode) (aI (@DWay) (@eq45)))))
set_option maxHeartbeats 2000000 in
theorem x1c  (r : Bool) (hm0 : x8b  = some r) : Ok Tryz.prog 18 [] (bool r) := by
 unfold x8b at hm0
 refine okG xuu ?_
 unfold xwp
 obtain ⟨v1, h2, hm0⟩ := bsE hm0
 simp only [xib, ↓EVd, isCall, sevalprocAttr]
 refine qc (xjw  _ h2) rfl ?_
 obtain ⟨v3, h4, hm0⟩ := bsE hm0
 simp only [xib, ↓EVd, isCall, sevalprocAttr]
 refine qc (xye _ _ h4) rfl ?_
 obtain ⟨v5, h6, hm0⟩ := bsE hm0
 simp only [xib, ↓EVd, isCall, sevalprocAttr]
 refine qc (x8e _ _ _ _ h6) rfl ?_
 obtain ⟨v7, h8, hm0⟩ := bsE hm0
 simp only [xib, ↓EVd, isCall, sevalprocAttr]
 refine qc (x8e _ _ _ _ h8) rfl ?_
 obtain ⟨v9, h10, hm0⟩ := bsE hm0
 simp only [xib, ↓EVd, isCall, sevalprocAttr]
 refine qc (xby _ _ h10) rfl ?_
 rcases iteE hm0 with ⟨e12, hm0⟩ | ⟨e12, hm0⟩
 · rcases iteE hm0 with ⟨e14, hm0⟩ | ⟨e14, hm0⟩
   · rcases iteE hm0 with ⟨e16, hm0⟩ | ⟨e16, hm0⟩
     · have e17 : (.agg [int 1, int 2] : AV) = xg (⟨1, 2⟩ : Place) := _root_.id rfl
       rcases itbE hm0 with ⟨e19, hm0⟩ | ⟨e19, hm0⟩
       · rcases iteE hm0 with ⟨e21, hm0⟩ | ⟨e21, hm0⟩
         · obtain ⟨v22, h23, hm0⟩ := bsE hm0
           simp only [e12, e14, e16, e17, e19, e21, xib, ↓EVd, isCall, sevalprocAttr]
           refine qc (xxp _ _ _ h23) rfl ?_
           obtain ⟨v24, h25, hm0⟩ := bsE hm0
           simp only [e12, e14, e16, e17, e19, e21, xib, ↓EVd, isCall, sevalprocAttr]
           refine qcb (xqj _ _ _ h25) rfl (by simp only [e12, e14, e16, e17, e19, e21, FZ, CLO, xib, ↓EVd, isCall, sevalprocAttr]) ?_
           rcases itbE hm0 with ⟨e27, hm0⟩ | ⟨e27, hm0⟩
           · rcases iteE hm0 with ⟨e29, hm0⟩ | ⟨e29, hm0⟩
             · have g32 := And.intro (And.intro (And.intro ((e12)) ((e14))) (And.intro ((e16)) ((e17)))) (And.intro (And.intro ((e19)) ((e21))) (And.intro ((e27)) ((e29))))
               rcases iteE hm0 with ⟨e31, hm0⟩ | ⟨e31, hm0⟩
               · obtain rfl := Option.some.inj hm0
                 simp only [g32, e31, xib, ↓EVd, isCall, sevalprocAttr]
                 all_goals first | done | rfl
               obtain rfl := Option.some.inj hm0
               simp only [g32, e31, xib, ↓EVd, isCall, sevalprocAttr]
               all_goals first | done | rfl
             obtain rfl := Option.some.inj hm0
             simp only [e12, e14, e16, e17, e19, e21, e27, e29, xib, ↓EVd, isCall, sevalprocAttr]
             all_goals first | done | rfl
           obtain rfl := Option.some.inj hm0
           simp only [e12, e14, e16, e17, e19, e21, e27, xib, ↓EVd, isCall, sevalprocAttr]
           all_goals first | done | rfl
         obtain rfl := Option.some.inj hm0
         simp only [e12, e14, e16, e17, e19, e21, xib, ↓EVd, isCall, sevalprocAttr]
         all_goals first | done | rfl
       obtain rfl := Option.some.inj hm0
       simp only [e12, e14, e16, e17, e19, xib, ↓EVd, isCall, sevalprocAttr]
       all_goals first | done | rfl
     obtain rfl := Option.some.inj hm0
     simp only [e12, e14, e16, xib, ↓EVd, isCall, sevalprocAttr]
     all_goals first | done | rfl
   obtain rfl := Option.some.inj hm0
   simp only [e12, e14, xib, ↓EVd, isCall, sevalprocAttr]
   all_goals first | done | rfl
 obtain rfl := Option.some.inj hm0
 simp only [e12, xib, ↓EVd, isCall, sevalprocAttr]
 all_goals first | done | rfl
end Go.Proofs.YtapdjibjnfeipaaGreatDoor.AL

/- Plain laws of chapter 17: the laws. -/
set_option linter.all false
namespace Go.Proofs.YtapdjibjnfeipaaGreatDoor.AL
open Go Go.Proofs
theorem awake17 : x8b = some true := by kernel_rfl
end Go.Proofs.YtapdjibjnfeipaaGreatDoor.AL

