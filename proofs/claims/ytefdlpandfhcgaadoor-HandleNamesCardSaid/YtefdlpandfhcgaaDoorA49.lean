/- A law of the given program is proved: part 49 of 50. -/
import Derived.Test.YtefdlpandfhcgaaDoorA48
set_option linter.all false
/- Models of functions, and that the functions are as their models: written by gen.py. -/
set_option linter.all false
set_option maxRecDepth 100000
namespace Go.Proofs.YtefdlpandfhcgaaDoor.AL
open Go Go.Proofs
def xib  : Option (Bool) := (xwb (⟨1, 26, 3⟩ : Origin)).bind fun v2 => (xzb v2.1).bind fun v4 => (xdk ).bind fun v6 => (xqd v6 (⟨1, 2, 3⟩ : Origin)).bind fun v9 => if v2.1 = (ByteArray.mk #[49, 48, 48, 49, 97, 48, 48, 48, 48, 48, 48, 51]) then if v2.2 = true then if v4.2 = true then if v4.1.ino = 26 then if v9.2 = true then if v9.1.kind = 2 then (xad v4.1 v4.1).bind fun v23 => some v23
 else some false
 else some false
 else some false
 else some false
 else some false
 else some false
def xsb := aI (aI (aI (@EV) (@R3)) (aI (@R9) (aI (@R23) (@R37)))) (aI (aI (@R44) (aI (@DOrigin) (@DBranch))) (aI (@DStack) (aI (@DNode) (@DEntry))))
set_option maxHeartbeats 2000000 in
theorem xyb  (r : Bool) (hm0 : xib  = some r) : Ok Tryd.prog 6 [] (bool r) := by
 unfold xib at hm0
 refine okG xrn ?_
 unfold xvj
 have e1 : (.agg [int 1, int 26, int 3] : AV) = xd (⟨1, 26, 3⟩ : Origin) := _root_.id rfl
 obtain ⟨v2, h3, hm0⟩ := bsE hm0
 simp only [e1, xsb, ↓EVd, isCall, sevalprocAttr]
 refine qc (xsc _ _ h3) rfl ?_
 obtain ⟨v4, h5, hm0⟩ := bsE hm0
 simp only [e1, xsb, ↓EVd, isCall, sevalprocAttr]
 refine qc (x7c _ _ h5) rfl ?_
 obtain ⟨v6, h7, hm0⟩ := bsE hm0
 simp only [e1, xsb, ↓EVd, isCall, sevalprocAttr]
 refine qc (x3o  _ h7) rfl ?_
 have e8 : (.agg [int 1, int 2, int 3] : AV) = xd (⟨1, 2, 3⟩ : Origin) := _root_.id rfl
 obtain ⟨v9, h10, hm0⟩ := bsE hm0
 simp only [e1, e8, xsb, ↓EVd, isCall, sevalprocAttr]
 refine qc (xni _ _ _ h10) rfl ?_
 rcases iteE hm0 with ⟨e12, hm0⟩ | ⟨e12, hm0⟩
 · rcases itbE hm0 with ⟨e14, hm0⟩ | ⟨e14, hm0⟩
   · rcases itbE hm0 with ⟨e16, hm0⟩ | ⟨e16, hm0⟩
     · rcases iteE hm0 with ⟨e18, hm0⟩ | ⟨e18, hm0⟩
       · rcases itbE hm0 with ⟨e20, hm0⟩ | ⟨e20, hm0⟩
         · rcases iteE hm0 with ⟨e22, hm0⟩ | ⟨e22, hm0⟩
           · have g25 := And.intro (And.intro (And.intro ((e1)) ((e8))) (And.intro ((e12)) ((e14)))) (And.intro (And.intro ((e16)) ((e18))) (And.intro ((e20)) ((e22))))
             obtain ⟨v23, h24, hm0⟩ := bsE hm0
             simp only [g25, xsb, ↓EVd, isCall, sevalprocAttr]
             refine qc (xqg _ _ _ h24) rfl ?_
             obtain rfl := Option.some.inj hm0
             simp only [g25, xsb, ↓EVd, isCall, sevalprocAttr]
             all_goals first | done | rfl
           obtain rfl := Option.some.inj hm0
           simp only [e1, e8, e12, e14, e16, e18, e20, e22, xsb, ↓EVd, isCall, sevalprocAttr]
           all_goals first | done | rfl
         obtain rfl := Option.some.inj hm0
         simp only [e1, e8, e12, e14, e16, e18, e20, xsb, ↓EVd, isCall, sevalprocAttr]
         all_goals first | done | rfl
       obtain rfl := Option.some.inj hm0
       simp only [e1, e8, e12, e14, e16, e18, xsb, ↓EVd, isCall, sevalprocAttr]
       all_goals first | done | rfl
     obtain rfl := Option.some.inj hm0
     simp only [e1, e8, e12, e14, e16, xsb, ↓EVd, isCall, sevalprocAttr]
     all_goals first | done | rfl
   obtain rfl := Option.some.inj hm0
   simp only [e1, e8, e12, e14, xsb, ↓EVd, isCall, sevalprocAttr]
   all_goals first | done | rfl
 obtain rfl := Option.some.inj hm0
 simp only [e1, e8, e12, xsb, ↓EVd, isCall, sevalprocAttr]
 all_goals first | done | rfl
def xod (a0 : Origin) (a1 : ByteArray) : Option (Bool) := if 100 < (a1.size : Int) then (xib ).bind fun v3 => some v3
 else (xwb a0).bind fun v5 => (x3d a0).bind fun v7 => (xzb a1).bind fun v9 => (xre a1).bind fun v11 => if v5.1 = v7.1 then if v5.2 = true then if v7.2 = true then if (decide (v9.1 = v11.1)) = true then if v9.2 = true then if v11.2 = true then (xzb v5.1).bind fun v25 => (xwb v9.1).bind fun v27 => if v25.2 = true then if (decide (v25.1 = a0)) = true then if v27.2 = true then if v27.1 = a1 then (xib ).bind fun v37 => some v37
 else some false
 else some false
 else some false
 else some false
 else some false
 else if v11.2 = true then some false
 else (xzb v5.1).bind fun v41 => (xwb v9.1).bind fun v43 => if v41.2 = true then if (decide (v41.1 = a0)) = true then (xib ).bind fun v49 => some v49
 else some false
 else some false
 else some false
 else some false
 else if v7.2 = true then some false
 else if (decide (v9.1 = v11.1)) = true then if v9.2 = true then if v11.2 = true then (xzb v5.1).bind fun v59 => (xwb v9.1).bind fun v61 => if v61.2 = true then if v61.1 = a1 then (xib ).bind fun v67 => some v67
 else some false
 else some false
 else some false
 else if v11.2 = true then some false
 else (xzb v5.1).bind fun v71 => (xwb v9.1).bind fun v73 => (xib ).bind fun v75 => some v75
 else some false
 else some false
def xb := aI (aI (@EV) (aI (@R3) (@R4))) (aI (aI (@R9) (@R23)) (aI (@DOrigin) (@eq23)))
set_option maxHeartbeats 2000000 in
theorem xnt (a0 : Origin) (a1 : ByteArray) (r : Bool) (hm0 : xod a0 a1 = some r) : Ok Tryd.prog 3 [xd a0, str a1] (bool r) := by
 unfold xod at hm0
 refine okG xdj ?_
 unfold xkg
 rcases iteE hm0 with ⟨e2, hm0⟩ | ⟨e2, hm0⟩
 · obtain ⟨v3, h4, hm0⟩ := bsE hm0
   simp only [e2, xb, ↓EVd, isCall, sevalprocAttr]
   refine qc (xyb  _ h4) rfl ?_
   obtain rfl := Option.some.inj hm0
   simp only [e2, xb, ↓EVd, isCall, sevalprocAttr]
   all_goals first | done | rfl
 obtain ⟨v5, h6, hm0⟩ := bsE hm0
 simp only [e2, xb, ↓EVd, isCall, sevalprocAttr]
 refine qc (xsc _ _ h6) rfl ?_
 obtain ⟨v7, h8, hm0⟩ := bsE hm0
 simp only [e2, xb, ↓EVd, isCall, sevalprocAttr]
 refine qc (x1j _ _ h8) rfl ?_
 obtain ⟨v9, h10, hm0⟩ := bsE hm0
 simp only [e2, xb, ↓EVd, isCall, sevalprocAttr]
 refine qc (x7c _ _ h10) rfl ?_
 obtain ⟨v11, h12, hm0⟩ := bsE hm0
 simp only [e2, xb, ↓EVd, isCall, sevalprocAttr]
 refine qc (xnn _ _ h12) rfl ?_
 rcases iteE hm0 with ⟨e14, hm0⟩ | ⟨e14, hm0⟩
 · rcases itbE hm0 with ⟨e16, hm0⟩ | ⟨e16, hm0⟩
   · rcases itbE hm0 with ⟨e18, hm0⟩ | ⟨e18, hm0⟩
     · rcases itbE hm0 with ⟨e20, hm0⟩ | ⟨e20, hm0⟩
       · rcases itbE hm0 with ⟨e22, hm0⟩ | ⟨e22, hm0⟩
         · rcases itbE hm0 with ⟨e24, hm0⟩ | ⟨e24, hm0⟩
           · obtain ⟨v25, h26, hm0⟩ := bsE hm0
             simp only [e2, e14, e16, e18, e20, e22, e24, xb, ↓EVd, isCall, sevalprocAttr]
             refine qc (x7c _ _ h26) rfl ?_
             obtain ⟨v27, h28, hm0⟩ := bsE hm0
             simp only [e2, e14, e16, e18, e20, e22, e24, xb, ↓EVd, isCall, sevalprocAttr]
             refine qc (xsc _ _ h28) rfl ?_
             rcases itbE hm0 with ⟨e30, hm0⟩ | ⟨e30, hm0⟩
             · have g77 := And.intro (And.intro (And.intro ((e2)) ((e14))) (And.intro ((e16)) ((e18)))) (And.intro (And.intro ((e20)) ((e22))) (And.intro ((e24)) ((e30))))
               rcases itbE hm0 with ⟨e32, hm0⟩ | ⟨e32, hm0⟩
               · rcases itbE hm0 with ⟨e34, hm0⟩ | ⟨e34, hm0⟩
                 · rcases iteE hm0 with ⟨e36, hm0⟩ | ⟨e36, hm0⟩
                   · obtain ⟨v37, h38, hm0⟩ := bsE hm0
                     simp only [g77, e32, e34, e36, xb, ↓EVd, isCall, sevalprocAttr]
                     refine qc (xyb  _ h38) rfl ?_
                     obtain rfl := Option.some.inj hm0
                     simp only [g77, e32, e34, e36, xb, ↓EVd, isCall, sevalprocAttr]
                     all_goals first | done | rfl
                   obtain rfl := Option.some.inj hm0
                   simp only [g77, e32, e34, e36, xb, ↓EVd, isCall, sevalprocAttr]
                   all_goals first | done | rfl
                 obtain rfl := Option.some.inj hm0
                 simp only [g77, e32, e34, xb, ↓EVd, isCall, sevalprocAttr]
                 all_goals first | done | rfl
               obtain rfl := Option.some.inj hm0
               simp only [g77, e32, xb, ↓EVd, isCall, sevalprocAttr]
               all_goals first | done | rfl
             obtain rfl := Option.some.inj hm0
             simp only [e2, e14, e16, e18, e20, e22, e24, e30, xb, ↓EVd, isCall, sevalprocAttr]
             all_goals first | done | rfl
           obtain rfl := Option.some.inj hm0
           simp only [e2, e14, e16, e18, e20, e22, e24, xb, ↓EVd, isCall, sevalprocAttr]
           all_goals first | done | rfl
         rcases itbE hm0 with ⟨e40, hm0⟩ | ⟨e40, hm0⟩
         · obtain rfl := Option.some.inj hm0
           simp only [e2, e14, e16, e18, e20, e22, e40, xb, ↓EVd, isCall, sevalprocAttr]
           all_goals first | done | rfl
         obtain ⟨v41, h42, hm0⟩ := bsE hm0
         simp only [e2, e14, e16, e18, e20, e22, e40, xb, ↓EVd, isCall, sevalprocAttr]
         refine qc (x7c _ _ h42) rfl ?_
         obtain ⟨v43, h44, hm0⟩ := bsE hm0
         simp only [e2, e14, e16, e18, e20, e22, e40, xb, ↓EVd, isCall, sevalprocAttr]
         refine qc (xsc _ _ h44) rfl ?_
         rcases itbE hm0 with ⟨e46, hm0⟩ | ⟨e46, hm0⟩
         · have g78 := And.intro (And.intro (And.intro ((e2)) ((e14))) (And.intro ((e16)) ((e18)))) (And.intro (And.intro ((e20)) ((e22))) (And.intro ((e40)) ((e46))))
           rcases itbE hm0 with ⟨e48, hm0⟩ | ⟨e48, hm0⟩
           · obtain ⟨v49, h50, hm0⟩ := bsE hm0
             simp only [g78, e48, xb, ↓EVd, isCall, sevalprocAttr]
             refine qc (xyb  _ h50) rfl ?_
             obtain rfl := Option.some.inj hm0
             simp only [g78, e48, xb, ↓EVd, isCall, sevalprocAttr]
             all_goals first | done | rfl
           obtain rfl := Option.some.inj hm0
           simp only [g78, e48, xb, ↓EVd, isCall, sevalprocAttr]
           all_goals first | done | rfl
         obtain rfl := Option.some.inj hm0
         simp only [e2, e14, e16, e18, e20, e22, e40, e46, xb, ↓EVd, isCall, sevalprocAttr]
         all_goals first | done | rfl
       obtain rfl := Option.some.inj hm0
       simp only [e2, e14, e16, e18, e20, xb, ↓EVd, isCall, sevalprocAttr]
       all_goals first | done | rfl
     obtain rfl := Option.some.inj hm0
     simp only [e2, e14, e16, e18, xb, ↓EVd, isCall, sevalprocAttr]
     all_goals first | done | rfl
   rcases itbE hm0 with ⟨e52, hm0⟩ | ⟨e52, hm0⟩
   · obtain rfl := Option.some.inj hm0
     simp only [e2, e14, e16, e52, xb, ↓EVd, isCall, sevalprocAttr]
     all_goals first | done | rfl
   rcases itbE hm0 with ⟨e54, hm0⟩ | ⟨e54, hm0⟩
   · rcases itbE hm0 with ⟨e56, hm0⟩ | ⟨e56, hm0⟩
     · rcases itbE hm0 with ⟨e58, hm0⟩ | ⟨e58, hm0⟩
       · obtain ⟨v59, h60, hm0⟩ := bsE hm0
         simp only [e2, e14, e16, e52, e54, e56, e58, xb, ↓EVd, isCall, sevalprocAttr]
         refine qc (x7c _ _ h60) rfl ?_
         obtain ⟨v61, h62, hm0⟩ := bsE hm0
         simp only [e2, e14, e16, e52, e54, e56, e58, xb, ↓EVd, isCall, sevalprocAttr]
         refine qc (xsc _ _ h62) rfl ?_
         rcases itbE hm0 with ⟨e64, hm0⟩ | ⟨e64, hm0⟩
         · have g79 := And.intro (And.intro (And.intro ((e2)) ((e14))) (And.intro ((e16)) ((e52)))) (And.intro (And.intro ((e54)) ((e56))) (And.intro ((e58)) ((e64))))
           rcases iteE hm0 with ⟨e66, hm0⟩ | ⟨e66, hm0⟩
           · obtain ⟨v67, h68, hm0⟩ := bsE hm0
             simp only [g79, e66, xb, ↓EVd, isCall, sevalprocAttr]
             refine qc (xyb  _ h68) rfl ?_
             obtain rfl := Option.some.inj hm0
             simp only [g79, e66, xb, ↓EVd, isCall, sevalprocAttr]
             all_goals first | done | rfl
           obtain rfl := Option.some.inj hm0
           simp only [g79, e66, xb, ↓EVd, isCall, sevalprocAttr]
           all_goals first | done | rfl
         obtain rfl := Option.some.inj hm0
         simp only [e2, e14, e16, e52, e54, e56, e58, e64, xb, ↓EVd, isCall, sevalprocAttr]
         all_goals first | done | rfl
       obtain rfl := Option.some.inj hm0
       simp only [e2, e14, e16, e52, e54, e56, e58, xb, ↓EVd, isCall, sevalprocAttr]
       all_goals first | done | rfl
     rcases itbE hm0 with ⟨e70, hm0⟩ | ⟨e70, hm0⟩
     · obtain rfl := Option.some.inj hm0
       simp only [e2, e14, e16, e52, e54, e56, e70, xb, ↓EVd, isCall, sevalprocAttr]
       all_goals first | done | rfl
     obtain ⟨v71, h72, hm0⟩ := bsE hm0
     simp only [e2, e14, e16, e52, e54, e56, e70, xb, ↓EVd, isCall, sevalprocAttr]
     refine qc (x7c _ _ h72) rfl ?_
     obtain ⟨v73, h74, hm0⟩ := bsE hm0
     simp only [e2, e14, e16, e52, e54, e56, e70, xb, ↓EVd, isCall, sevalprocAttr]
     refine qc (xsc _ _ h74) rfl ?_
     obtain ⟨v75, h76, hm0⟩ := bsE hm0
     simp only [e2, e14, e16, e52, e54, e56, e70, xb, ↓EVd, isCall, sevalprocAttr]
     refine qc (xyb  _ h76) rfl ?_
     obtain rfl := Option.some.inj hm0
     simp only [e2, e14, e16, e52, e54, e56, e70, xb, ↓EVd, isCall, sevalprocAttr]
     all_goals first | done | rfl
   obtain rfl := Option.some.inj hm0
   simp only [e2, e14, e16, e52, e54, xb, ↓EVd, isCall, sevalprocAttr]
   all_goals first | done | rfl
 obtain rfl := Option.some.inj hm0
 simp only [e2, e14, xb, ↓EVd, isCall, sevalprocAttr]
 all_goals first | done | rfl
def xnd (a0 : Stack) (a1 : Origin) (a2 : Origin) : Option (Bool) := (xse a0 24).bind fun v1 => if (!v1) = true then (xib ).bind fun v5 => some v5
 else (xqd a0 a1).bind fun v7 => (xkf a0 a1).bind fun v9 => (xkd v7.1 v9.1).bind fun v11 => if v11 = true then if v7.2 = true then if v9.2 = true then (xad a1 a2).bind fun v19 => if (decide (a1 = a2)) = true then if v19 = true then (xib ).bind fun v25 => some v25
 else some false
 else if v19 = true then some false
 else (xib ).bind fun v29 => some v29
 else some false
 else if v9.2 = true then some false
 else (xad a1 a2).bind fun v33 => if (decide (a1 = a2)) = true then if v33 = true then (xib ).bind fun v39 => some v39
 else some false
 else if v33 = true then some false
 else (xib ).bind fun v43 => some v43
 else some false
def xi := aI (aI (aI (@EV) (aI (@R3) (@R4))) (aI (@R23) (aI (@R37) (@R44)))) (aI (aI (@DOrigin) (aI (@DBranch) (@DStack))) (aI (aI (@DNode) (@DEntry)) (aI (@eq23) (@mixed))))
set_option maxHeartbeats 2000000 in
theorem xqt (a0 : Stack) (a1 : Origin) (a2 : Origin) (r : Bool) (hm0 : xnd a0 a1 a2 = some r) : Ok Tryd.prog 4 [xtb a0, xd a1, xd a2] (bool r) := by
 unfold xnd at hm0
 refine okG x8i ?_
 unfold xmg
 obtain ⟨v1, h2, hm0⟩ := bsE hm0
 simp only [xi, ↓EVd, isCall, sevalprocAttr]
 refine qc (xyn _ _ _ h2) rfl ?_
 rcases itbE hm0 with ⟨e4, hm0⟩ | ⟨e4, hm0⟩
 · obtain ⟨v5, h6, hm0⟩ := bsE hm0
   simp only [e4, xi, ↓EVd, isCall, sevalprocAttr]
   refine qc (xyb  _ h6) rfl ?_
   obtain rfl := Option.some.inj hm0
   simp only [e4, xi, ↓EVd, isCall, sevalprocAttr]
   all_goals first | done | rfl
 obtain ⟨v7, h8, hm0⟩ := bsE hm0
 simp only [e4, xi, ↓EVd, isCall, sevalprocAttr]
 refine qc (xni _ _ _ h8) rfl ?_
 obtain ⟨v9, h10, hm0⟩ := bsE hm0
 simp only [e4, xi, ↓EVd, isCall, sevalprocAttr]
 refine qc (xip _ _ _ h10) rfl ?_
 obtain ⟨v11, h12, hm0⟩ := bsE hm0
 simp only [e4, xi, ↓EVd, isCall, sevalprocAttr]
 refine qd (xol _ _ _ h12) rfl ?_
 rcases itbE hm0 with ⟨e14, hm0⟩ | ⟨e14, hm0⟩
 · rcases itbE hm0 with ⟨e16, hm0⟩ | ⟨e16, hm0⟩
   · rcases itbE hm0 with ⟨e18, hm0⟩ | ⟨e18, hm0⟩
     · obtain ⟨v19, h20, hm0⟩ := bsE hm0
       simp only [e4, e14, e16, e18, xi, ↓EVd, isCall, sevalprocAttr]
       refine qd (xqg _ _ _ h20) rfl ?_
       rcases itbE hm0 with ⟨e22, hm0⟩ | ⟨e22, hm0⟩
       · rcases itbE hm0 with ⟨e24, hm0⟩ | ⟨e24, hm0⟩
         · obtain ⟨v25, h26, hm0⟩ := bsE hm0
           simp only [e4, e14, e16, e18, e22, e24, xi, ↓EVd, isCall, sevalprocAttr]
           refine qd (xyb  _ h26) rfl ?_
           obtain rfl := Option.some.inj hm0
           simp only [e4, e14, e16, e18, e22, e24, xi, ↓EVd, isCall, sevalprocAttr]
           all_goals first | done | rfl
         obtain rfl := Option.some.inj hm0
         simp only [e4, e14, e16, e18, e22, e24, xi, ↓EVd, isCall, sevalprocAttr]
         all_goals first | done | rfl
       rcases itbE hm0 with ⟨e28, hm0⟩ | ⟨e28, hm0⟩
       · obtain rfl := Option.some.inj hm0
         simp only [e4, e14, e16, e18, e22, e28, xi, ↓EVd, isCall, sevalprocAttr]
         all_goals first | done | rfl
       obtain ⟨v29, h30, hm0⟩ := bsE hm0
       simp only [e4, e14, e16, e18, e22, e28, xi, ↓EVd, isCall, sevalprocAttr]
       refine qd (xyb  _ h30) rfl ?_
       obtain rfl := Option.some.inj hm0
       simp only [e4, e14, e16, e18, e22, e28, xi, ↓EVd, isCall, sevalprocAttr]
       all_goals first | done | rfl
     obtain rfl := Option.some.inj hm0
     simp only [e4, e14, e16, e18, xi, ↓EVd, isCall, sevalprocAttr]
     all_goals first | done | rfl
   rcases itbE hm0 with ⟨e32, hm0⟩ | ⟨e32, hm0⟩
   · obtain rfl := Option.some.inj hm0
     simp only [e4, e14, e16, e32, xi, ↓EVd, isCall, sevalprocAttr]
     all_goals first | done | rfl
   obtain ⟨v33, h34, hm0⟩ := bsE hm0
   simp only [e4, e14, e16, e32, xi, ↓EVd, isCall, sevalprocAttr]
   refine qd (xqg _ _ _ h34) rfl ?_
   rcases itbE hm0 with ⟨e36, hm0⟩ | ⟨e36, hm0⟩
   · rcases itbE hm0 with ⟨e38, hm0⟩ | ⟨e38, hm0⟩
     · obtain ⟨v39, h40, hm0⟩ := bsE hm0
       simp only [e4, e14, e16, e32, e36, e38, xi, ↓EVd, isCall, sevalprocAttr]
       refine qd (xyb  _ h40) rfl ?_
       obtain rfl := Option.some.inj hm0
       simp only [e4, e14, e16, e32, e36, e38, xi, ↓EVd, isCall, sevalprocAttr]
       all_goals first | done | rfl
     obtain rfl := Option.some.inj hm0
     simp only [e4, e14, e16, e32, e36, e38, xi, ↓EVd, isCall, sevalprocAttr]
     all_goals first | done | rfl
   rcases itbE hm0 with ⟨e42, hm0⟩ | ⟨e42, hm0⟩
   · obtain rfl := Option.some.inj hm0
     simp only [e4, e14, e16, e32, e36, e42, xi, ↓EVd, isCall, sevalprocAttr]
     all_goals first | done | rfl
   obtain ⟨v43, h44, hm0⟩ := bsE hm0
   simp only [e4, e14, e16, e32, e36, e42, xi, ↓EVd, isCall, sevalprocAttr]
   refine qd (xyb  _ h44) rfl ?_
   obtain rfl := Option.some.inj hm0
   simp only [e4, e14, e16, e32, e36, e42, xi, ↓EVd, isCall, sevalprocAttr]
   all_goals first | done | rfl
 obtain rfl := Option.some.inj hm0
 simp only [e4, e14, xi, ↓EVd, isCall, sevalprocAttr]
 all_goals first | done | rfl
end Go.Proofs.YtefdlpandfhcgaaDoor.AL

/- Plain laws of chapter 15: the node of a handle; the laws. -/
set_option linter.all false
namespace Go.Proofs.YtefdlpandfhcgaaDoor.AL
open Go Go.Proofs Go.Lib
def lowP (s : Stack) (o : Origin) : Node := if 1 ≤ o.layer ∧ o.layer ≤ (s.lowers.length : Int) then nodeP ((s.lowers[(o.layer - 1).toNat]?).getD default) o.ino else xob
def foundP (s : Stack) (o : Origin) : Bool := decide ((lowP s o).kind = 1 ∨ (lowP s o).kind = 2 ∨ (lowP s o).kind = 3) && decide ((lowP s o).gen = o.gen)
def findN (s : Stack) (o : Origin) : Node × Bool := if foundP s o = true then (lowP s o, true) else (xob, false)
theorem low_ix {s : Stack} {o : Origin} (hs : SB s) (h1 : ¬ o.layer < 1) (h2 : ¬ (s.lowers.length : Int) < o.layer) : ∃ b, ix s.lowers (wr (o.layer - 1)) = some b ∧ PB b ∧ lowP s o = nodeP b o.ino := by
  have hl := hs.low
  have hlt : (o.layer - 1).toNat < s.lowers.length := by omega
  refine ⟨s.lowers[(o.layer - 1).toNat], ?_, ?_, ?_⟩
  · rw [wr_in (by omega) (by omega), ix_of (by omega) (by omega)]
  · have := hs.lows _ (List.getElem_mem hlt)
    exact ⟨this.1, fun x hx => (this.2 x hx).ents⟩
  · unfold lowP
    rw [if_pos ⟨by omega, by omega⟩, List.getElem?_eq_getElem hlt]
    rfl
theorem x4m {x : Node} {g : Int} : (if x.kind = 1 then if x.gen = g then some (x, true) else some (xob, false) else if x.kind = 2 then if x.gen = g then some (x, true) else some (xob, false) else if x.kind = 3 then if x.gen = g then some (x, true) else some (xob, false) else some (xob, false))
    = some (if (decide (x.kind = 1 ∨ x.kind = 2 ∨ x.kind = 3) && decide (x.gen = g)) = true then (x, true) else (xob, false)) := by
  by_cases h1 : x.kind = 1
  · by_cases hg : x.gen = g <;> simp [h1, hg]
  · by_cases h2 : x.kind = 2
    · by_cases hg : x.gen = g <;> simp [h2, hg]
    · by_cases h3 : x.kind = 3
      · by_cases hg : x.gen = g <;> simp [h3, hg]
      · simp [h1, h2, h3]
theorem xhl {s : Stack} {o : Origin} (h : o.layer < 1 ∨ (s.lowers.length : Int) < o.layer) : lowP s o = xob := by
  unfold lowP
  rw [if_neg (by omega)]
theorem x5h {s : Stack} {o : Origin} (h : lowP s o = xob) : findN s o = (xob, false) := by
  unfold findN foundP
  rw [h]
  simp [xob]
theorem xyw {s : Stack} (hs : SB s) (o : Origin) : xqd s o = some (findN s o) := by
  unfold xqd
  by_cases h1 : o.layer < 1
  · rw [if_pos h1, x5h (xhl (.inl h1))]; rfl
  rw [if_neg h1]
  by_cases h2 : (s.lowers.length : Int) < o.layer
  · rw [if_pos h2, x5h (xhl (.inr h2))]; rfl
  rw [if_neg h2]
  obtain ⟨b, e1, e2, e3⟩ := low_ix hs h1 h2
  rw [e1]
  simp only [Option.bind_some]
  by_cases h3 : o.ino < 1
  · rw [if_pos h3, x5h (by rw [e3]; exact xro (.inl h3))]; rfl
  rw [if_neg h3]
  by_cases h4 : (b.nodes.length : Int) < o.ino
  · rw [if_pos h4, x5h (by rw [e3]; exact xro (.inr h4))]; rfl
  rw [if_neg h4, xpw h3 h4 e2.len]
  simp only [Option.bind_some]
  unfold findN foundP
  rw [e3]
  exact x4m
theorem xxw {s : Stack} (hs : SB s) (o : Origin) : xkf s o = some (findN s o) := by
  have hlow : xue s (⟨o.layer, o.ino⟩ : Place) = some (lowP s o) := by
    unfold xue
    simp only
    by_cases h1 : o.layer < 1
    · rw [if_pos h1, xhl (.inl h1)]; rfl
    rw [if_neg h1]
    by_cases h2 : (s.lowers.length : Int) < o.layer
    · rw [if_pos h2, xhl (.inr h2)]; rfl
    rw [if_neg h2]
    obtain ⟨b, e1, e2, e3⟩ := low_ix hs h1 h2
    rw [e1]
    simp only [Option.bind_some]
    rw [at_eq e2, e3]
    rfl
  unfold xkf
  rw [hlow]
  simp only [Option.bind_some]
  unfold findN foundP
  exact x4m
theorem xbu {l : List UInt8} (h : l.length ≤ 1000) : x9e l l = some true := by
  unfold x9e
  rw [if_pos rfl, eqLoop (a := l) (b := l) rfl (by omega)]
  · rw [if_pos rfl]; rfl
  · intro i h1 h2
    simp only [x5e]
    rw [if_pos (by omega), ix_at h1]
    simp only [Option.bind_some]
    simp only [decide_true, if_true]
    rw [wr_suc (by omega)]
  · simp only [x5e]
    rw [if_neg (by omega)]
theorem xwv {l : List Entry} (h : l.length ≤ 1000) : xlf l l = some true := by
  unfold xlf
  rw [if_pos rfl, eqLoop (a := l) (b := l) rfl (by omega)]
  · rw [if_pos rfl]; rfl
  · intro i h1 h2
    simp only [x4e]
    rw [if_pos (by omega), ix_at h1]
    simp only [Option.bind_some]
    simp only [decide_true, if_true]
    rw [wr_suc (by omega)]
  · simp only [x4e]
    rw [if_neg (by omega)]
theorem x6w (b : Branch) (ino : Int) : nodeP b ino = xob ∨ nodeP b ino ∈ b.nodes := by
  unfold nodeP
  split
  · exact .inl rfl
  · split
    · exact .inl rfl
    · rename_i h1 h2
      have h : (ino - 1).toNat < b.nodes.length := by omega
      rw [List.getElem?_eq_getElem h]
      exact .inr (List.getElem_mem h)
theorem xvs {s : Stack} (hs : SB s) (hd : SD s 24) (o : Origin) : (lowP s o).data.length ≤ 300 ∧ (lowP s o).entries.length ≤ 16 := by
  unfold lowP
  split
  · rename_i h
    have hlt : (o.layer - 1).toNat < s.lowers.length := by omega
    rw [List.getElem?_eq_getElem hlt]
    have hm := List.getElem_mem hlt
    rcases x6w (s.lowers[(o.layer - 1).toNat]) o.ino with e | e
    · rw [Option.getD_some, e]; simp [xob]
    · exact ⟨(hd.datas _ hm).2 _ e, ((hs.lows _ hm).2 _ e).ents⟩
  · simp [xob]
theorem xvr {s : Stack} (hs : SB s) (hd : SD s 24) (o : Origin) : (findN s o).1.data.length ≤ 1000 ∧ (findN s o).1.entries.length ≤ 1000 := by
  have := xvs hs hd o
  unfold findN
  split
  · simp only; omega
  · simp [xob]
theorem xhp {x : Node} (h : x.data.length ≤ 1000 ∧ x.entries.length ≤ 1000) : xkd x x = some true := by
  unfold xkd
  rw [if_pos rfl, if_pos rfl, if_pos rfl, if_pos rfl, if_pos (by simp), xbu h.1]
  simp only [Option.bind_some, if_true]
  rw [xwv h.2]
  rfl
theorem awake15 : xib = some true := by
  unfold xib
  have h1 : HdP ⟨1, 26, 3⟩ := by decide
  have e1 : hname ⟨1, 26, 3⟩ = [49, 48, 48, 49, 97, 48, 48, 48, 48, 48, 48, 51] := by decide
  rw [xci]
  simp only [Option.bind_some, nameH]
  rw [if_pos h1]
  simp only
  rw [xhi, xtg h1, e1]
  simp only [Option.bind_some]
  rfl
theorem x2y (o : Origin) (s : ByteArray) : xod o s = some true := by
  unfold xod
  rw [awake15]
  by_cases hs : 100 < (s.size : Int)
  · rw [if_pos hs]; rfl
  · rw [if_neg hs]
    obtain ⟨t, rfl⟩ := bB_eq s
    rw [xci, x9m, xhi, xmp]
    simp only [Option.bind_some, if_true, decide_true]
    rw [xhi, xci]
    simp only [Option.bind_some]
    have hn : (nameH o).2 = true → parseH (nameH o).1 = (o, true) := by
      unfold nameH
      split
      · rename_i h
        intro _
        exact xtg h
      · intro h; cases h
    have hp : (parseH t).2 = true → nameH (parseH t).1 = (t, true) := by
      rcases xek t with e | ⟨x, hx, e1, e2⟩
      · rw [e]; intro h; cases h
      · rw [e2]
        intro _
        unfold nameH
        rw [if_pos hx, ← e1]
    cases h1 : (nameH o).2 with
    | true =>
      rw [hn h1]
      simp only [if_true, decide_true]
      cases h2 : (parseH t).2 with
      | true =>
        rw [hp h2]
        simp
      | false => simp
    | false =>
      cases h2 : (parseH t).2 with
      | true =>
        rw [hp h2]
        simp
      | false => simp
theorem x1y (s : Stack) (o p : Origin) : xnd s o p = some true := by
  unfold xnd
  rw [awake15]
  obtain ⟨r, hr, hb⟩ := xzs s 24 (by omega)
  rw [hr]
  simp only [Option.bind_some]
  cases r with
  | false => rfl
  | true =>
    obtain ⟨hs, hd⟩ := hb rfl
    simp only [Bool.not_true, Bool.false_eq_true, if_false]
    rw [xyw hs, xxw hs]
    simp only [Option.bind_some]
    rw [xhp (xvr hs hd o)]
    simp only [Option.bind_some, if_true]
    have hsm : xad o p = some (decide (o = p)) := by
      unfold xad
      by_cases h : o = p <;> simp [h]
    rw [hsm]
    simp only [Option.bind_some]
    generalize (findN s o).2 = b
    cases b <;> by_cases h : o = p <;> simp [h]
end Go.Proofs.YtefdlpandfhcgaaDoor.AL

/- The name of any handle, and the handle of any name, are what the document says; it is read from its name, and has just this one. -/
namespace Go.Proofs.YtefdlpandfhcgaaDoor
theorem handleNames_holds : Rows.HandleNamesCardSaid := x7j (xhj fun o s _ _ => AL.xnt o s true (AL.x2y o s))
#print axioms handleNames_holds
end Go.Proofs.YtefdlpandfhcgaaDoor

