/- What any node of any stack should say of copies, and which say otherwise, is what the document says: part 49 of 51. -/
import Derived.Test.YtfefidkblgendaaGreatDoorA48
set_option linter.all false
/- Models of functions, and that the functions are as their models: written by gen.py. -/
set_option linter.all false
set_option maxRecDepth 100000
namespace Go.Proofs.YtfefidkblgendaaGreatDoor.AL
open Go Go.Proofs
def xw  : Option (Bool) := (xti ).bind fun v1 => (xdc v1 (ByteArray.mk #[47, 97])).bind fun v3 => (xdc v1 (ByteArray.mk #[47])).bind fun v5 => (xdc v1 (ByteArray.mk #[47, 122])).bind fun v7 => if v3.2 = true then if v3.1.kind = 2 then (xvd v3.1.data ([(120 : UInt8)] : List UInt8)).bind fun v14 => if v14 = true then if v5.2 = true then if v5.1.kind = 1 then if (v5.1.names.length : Int) = 1 then if (!v7.2) = true then (xbd v3.1 v3.1).bind fun v26 => if v26 = true then (xbd v3.1 v5.1).bind fun v30 => some (!v30)
 else some false
 else some false
 else some false
 else some false
 else some false
 else some false
 else some false
 else some false
def xrb := aI (aI (aI (@EV) (aI (@R3) (@R5))) (aI (aI (@R9) (@R29)) (aI (@R30) (@R31)))) (aI (aI (aI (@R33) (@DBranch)) (aI (@DStack) (@DSeen))) (aI (aI (@DOrigin) (@DAttr)) (aI (@DNode) (@DEntry))))
set_option maxHeartbeats 2000000 in
theorem xdb  (r : Bool) (hm0 : xw  = some r) : Ok Tryz.prog 7 [] (bool r) := by
 unfold xw at hm0
 refine okG xb0 ?_
 unfold xis
 obtain ⟨v1, h2, hm0⟩ := bsE hm0
 simp only [xrb, ↓EVd, isCall, sevalprocAttr]
 refine qc (xm3  _ h2) rfl ?_
 obtain ⟨v3, h4, hm0⟩ := bsE hm0
 simp only [xrb, ↓EVd, isCall, sevalprocAttr]
 refine qc (xnh _ _ _ h4) rfl ?_
 obtain ⟨v5, h6, hm0⟩ := bsE hm0
 simp only [xrb, ↓EVd, isCall, sevalprocAttr]
 refine qc (xnh _ _ _ h6) rfl ?_
 obtain ⟨v7, h8, hm0⟩ := bsE hm0
 simp only [xrb, ↓EVd, isCall, sevalprocAttr]
 refine qc (xnh _ _ _ h8) rfl ?_
 rcases itbE hm0 with ⟨e10, hm0⟩ | ⟨e10, hm0⟩
 · rcases iteE hm0 with ⟨e12, hm0⟩ | ⟨e12, hm0⟩
   · have e13 : (AV.val (.int .u8 120)) = u8 (120 : UInt8) := _root_.id rfl
     obtain ⟨v14, h15, hm0⟩ := bsE hm0
     simp only [e10, e12, e13, xrb, ↓EVd, isCall, sevalprocAttr]
     refine qcb (xum _ _ _ h15) rfl (by simp only [e10, e12, e13, FZ, CLO, xrb, ↓EVd, isCall, sevalprocAttr]) ?_
     rcases itbE hm0 with ⟨e17, hm0⟩ | ⟨e17, hm0⟩
     · rcases itbE hm0 with ⟨e19, hm0⟩ | ⟨e19, hm0⟩
       · rcases iteE hm0 with ⟨e21, hm0⟩ | ⟨e21, hm0⟩
         · rcases iteE hm0 with ⟨e23, hm0⟩ | ⟨e23, hm0⟩
           · rcases itbE hm0 with ⟨e25, hm0⟩ | ⟨e25, hm0⟩
             · have g32 := And.intro (And.intro (And.intro ((e10)) ((e12))) (And.intro ((e13)) ((e17)))) (And.intro (And.intro ((e19)) ((e21))) (And.intro ((e23)) ((e25))))
               obtain ⟨v26, h27, hm0⟩ := bsE hm0
               simp only [g32, xrb, ↓EVd, isCall, sevalprocAttr]
               refine qc (x4j _ _ _ h27) rfl ?_
               rcases itbE hm0 with ⟨e29, hm0⟩ | ⟨e29, hm0⟩
               · obtain ⟨v30, h31, hm0⟩ := bsE hm0
                 simp only [g32, e29, xrb, ↓EVd, isCall, sevalprocAttr]
                 refine qc (x4j _ _ _ h31) rfl ?_
                 obtain rfl := Option.some.inj hm0
                 simp only [g32, e29, xrb, ↓EVd, isCall, sevalprocAttr]
                 all_goals first | done | rfl
               obtain rfl := Option.some.inj hm0
               simp only [g32, e29, xrb, ↓EVd, isCall, sevalprocAttr]
               all_goals first | done | rfl
             obtain rfl := Option.some.inj hm0
             simp only [e10, e12, e13, e17, e19, e21, e23, e25, xrb, ↓EVd, isCall, sevalprocAttr]
             all_goals first | done | rfl
           obtain rfl := Option.some.inj hm0
           simp only [e10, e12, e13, e17, e19, e21, e23, xrb, ↓EVd, isCall, sevalprocAttr]
           all_goals first | done | rfl
         obtain rfl := Option.some.inj hm0
         simp only [e10, e12, e13, e17, e19, e21, xrb, ↓EVd, isCall, sevalprocAttr]
         all_goals first | done | rfl
       obtain rfl := Option.some.inj hm0
       simp only [e10, e12, e13, e17, e19, xrb, ↓EVd, isCall, sevalprocAttr]
       all_goals first | done | rfl
     obtain rfl := Option.some.inj hm0
     simp only [e10, e12, e13, e17, xrb, ↓EVd, isCall, sevalprocAttr]
     all_goals first | done | rfl
   obtain rfl := Option.some.inj hm0
   simp only [e10, e12, xrb, ↓EVd, isCall, sevalprocAttr]
   all_goals first | done | rfl
 obtain rfl := Option.some.inj hm0
 simp only [e10, xrb, ↓EVd, isCall, sevalprocAttr]
 all_goals first | done | rfl
def x5f (a0 : Stack) (a1 : ByteArray) (a2 : Seen) (a3 : Seen) : Option (Bool) := (xyd a0 24).bind fun v1 => if (!v1) = true then (xw ).bind fun v5 => some v5
 else if 200 < (a1.size : Int) then (xw ).bind fun v9 => some v9
 else if 30 < (a2.names.length : Int) then (xw ).bind fun v13 => some v13
 else if 30 < (a3.names.length : Int) then (xw ).bind fun v17 => some v17
 else if 300 < (a2.data.length : Int) then (xw ).bind fun v21 => some v21
 else if 300 < (a3.data.length : Int) then (xw ).bind fun v25 => some v25
 else (xdc a0 a1).bind fun v27 => (xxi a0 a1).bind fun v29 => (xme v27.1 v29.1).bind fun v31 => if v31 = true then if v27.2 = true then if v29.2 = true then (xbd a2 a3).bind fun v39 => (xme a2 a3).bind fun v41 => if v39 = true then if v41 = true then (xw ).bind fun v47 => some v47
 else some false
 else if v41 = true then some false
 else (xw ).bind fun v51 => some v51
 else some false
 else if v29.2 = true then some false
 else (xbd a2 a3).bind fun v55 => (xme a2 a3).bind fun v57 => if v55 = true then if v57 = true then (xw ).bind fun v63 => some v63
 else some false
 else if v57 = true then some false
 else (xw ).bind fun v67 => some v67
 else some false
def xi := aI (aI (aI (aI (@EV) (@R3)) (aI (@R4) (@R5))) (aI (aI (@R9) (@R29)) (aI (@R30) (@R31)))) (aI (aI (aI (@R33) (@DBranch)) (aI (@DStack) (@DSeen))) (aI (aI (@DOrigin) (@DAttr)) (aI (@DNode) (aI (@DEntry) (@mixed)))))
set_option maxHeartbeats 2000000 in
theorem xet (a0 : Stack) (a1 : ByteArray) (a2 : Seen) (a3 : Seen) (r : Bool) (hm0 : x5f a0 a1 a2 a3 = some r) : Ok Tryz.prog 3 [xf a0, str a1, xub a2, xub a3] (bool r) := by
 unfold x5f at hm0
 refine okG xht ?_
 unfold xvn
 obtain ⟨v1, h2, hm0⟩ := bsE hm0
 simp only [xi, ↓EVd, isCall, sevalprocAttr]
 refine qc (x4l _ _ _ h2) rfl ?_
 rcases itbE hm0 with ⟨e4, hm0⟩ | ⟨e4, hm0⟩
 · obtain ⟨v5, h6, hm0⟩ := bsE hm0
   simp only [e4, xi, ↓EVd, isCall, sevalprocAttr]
   refine qc (xdb  _ h6) rfl ?_
   obtain rfl := Option.some.inj hm0
   simp only [e4, xi, ↓EVd, isCall, sevalprocAttr]
   all_goals first | done | rfl
 rcases iteE hm0 with ⟨e8, hm0⟩ | ⟨e8, hm0⟩
 · obtain ⟨v9, h10, hm0⟩ := bsE hm0
   simp only [e4, e8, xi, ↓EVd, isCall, sevalprocAttr]
   refine qc (xdb  _ h10) rfl ?_
   obtain rfl := Option.some.inj hm0
   simp only [e4, e8, xi, ↓EVd, isCall, sevalprocAttr]
   all_goals first | done | rfl
 rcases iteE hm0 with ⟨e12, hm0⟩ | ⟨e12, hm0⟩
 · obtain ⟨v13, h14, hm0⟩ := bsE hm0
   simp only [e4, e8, e12, xi, ↓EVd, isCall, sevalprocAttr]
   refine qc (xdb  _ h14) rfl ?_
   obtain rfl := Option.some.inj hm0
   simp only [e4, e8, e12, xi, ↓EVd, isCall, sevalprocAttr]
   all_goals first | done | rfl
 rcases iteE hm0 with ⟨e16, hm0⟩ | ⟨e16, hm0⟩
 · obtain ⟨v17, h18, hm0⟩ := bsE hm0
   simp only [e4, e8, e12, e16, xi, ↓EVd, isCall, sevalprocAttr]
   refine qc (xdb  _ h18) rfl ?_
   obtain rfl := Option.some.inj hm0
   simp only [e4, e8, e12, e16, xi, ↓EVd, isCall, sevalprocAttr]
   all_goals first | done | rfl
 rcases iteE hm0 with ⟨e20, hm0⟩ | ⟨e20, hm0⟩
 · obtain ⟨v21, h22, hm0⟩ := bsE hm0
   simp only [e4, e8, e12, e16, e20, xi, ↓EVd, isCall, sevalprocAttr]
   refine qc (xdb  _ h22) rfl ?_
   obtain rfl := Option.some.inj hm0
   simp only [e4, e8, e12, e16, e20, xi, ↓EVd, isCall, sevalprocAttr]
   all_goals first | done | rfl
 rcases iteE hm0 with ⟨e24, hm0⟩ | ⟨e24, hm0⟩
 · obtain ⟨v25, h26, hm0⟩ := bsE hm0
   simp only [e4, e8, e12, e16, e20, e24, xi, ↓EVd, isCall, sevalprocAttr]
   refine qc (xdb  _ h26) rfl ?_
   obtain rfl := Option.some.inj hm0
   simp only [e4, e8, e12, e16, e20, e24, xi, ↓EVd, isCall, sevalprocAttr]
   all_goals first | done | rfl
 obtain ⟨v27, h28, hm0⟩ := bsE hm0
 simp only [e4, e8, e12, e16, e20, e24, xi, ↓EVd, isCall, sevalprocAttr]
 refine qc (xnh _ _ _ h28) rfl ?_
 obtain ⟨v29, h30, hm0⟩ := bsE hm0
 simp only [e4, e8, e12, e16, e20, e24, xi, ↓EVd, isCall, sevalprocAttr]
 refine qc (xyw _ _ _ h30) rfl ?_
 obtain ⟨v31, h32, hm0⟩ := bsE hm0
 simp only [e4, e8, e12, e16, e20, e24, xi, ↓EVd, isCall, sevalprocAttr]
 refine qd (xck _ _ _ h32) rfl ?_
 rcases itbE hm0 with ⟨e34, hm0⟩ | ⟨e34, hm0⟩
 · rcases itbE hm0 with ⟨e36, hm0⟩ | ⟨e36, hm0⟩
   · have g69 := And.intro (And.intro (And.intro ((e4)) ((e8))) (And.intro ((e12)) ((e16)))) (And.intro (And.intro ((e20)) ((e24))) (And.intro ((e34)) ((e36))))
     rcases itbE hm0 with ⟨e38, hm0⟩ | ⟨e38, hm0⟩
     · obtain ⟨v39, h40, hm0⟩ := bsE hm0
       simp only [g69, e38, xi, ↓EVd, isCall, sevalprocAttr]
       refine qd (x4j _ _ _ h40) rfl ?_
       obtain ⟨v41, h42, hm0⟩ := bsE hm0
       simp only [g69, e38, xi, ↓EVd, isCall, sevalprocAttr]
       refine qd (xck _ _ _ h42) rfl ?_
       rcases itbE hm0 with ⟨e44, hm0⟩ | ⟨e44, hm0⟩
       · rcases itbE hm0 with ⟨e46, hm0⟩ | ⟨e46, hm0⟩
         · obtain ⟨v47, h48, hm0⟩ := bsE hm0
           simp only [g69, e38, e44, e46, xi, ↓EVd, isCall, sevalprocAttr]
           refine qd (xdb  _ h48) rfl ?_
           obtain rfl := Option.some.inj hm0
           simp only [g69, e38, e44, e46, xi, ↓EVd, isCall, sevalprocAttr]
           all_goals first | done | rfl
         obtain rfl := Option.some.inj hm0
         simp only [g69, e38, e44, e46, xi, ↓EVd, isCall, sevalprocAttr]
         all_goals first | done | rfl
       rcases itbE hm0 with ⟨e50, hm0⟩ | ⟨e50, hm0⟩
       · obtain rfl := Option.some.inj hm0
         simp only [g69, e38, e44, e50, xi, ↓EVd, isCall, sevalprocAttr]
         all_goals first | done | rfl
       obtain ⟨v51, h52, hm0⟩ := bsE hm0
       simp only [g69, e38, e44, e50, xi, ↓EVd, isCall, sevalprocAttr]
       refine qd (xdb  _ h52) rfl ?_
       obtain rfl := Option.some.inj hm0
       simp only [g69, e38, e44, e50, xi, ↓EVd, isCall, sevalprocAttr]
       all_goals first | done | rfl
     obtain rfl := Option.some.inj hm0
     simp only [g69, e38, xi, ↓EVd, isCall, sevalprocAttr]
     all_goals first | done | rfl
   have g70 := And.intro (And.intro (And.intro ((e4)) ((e8))) (And.intro ((e12)) ((e16)))) (And.intro (And.intro ((e20)) ((e24))) (And.intro ((e34)) ((e36))))
   rcases itbE hm0 with ⟨e54, hm0⟩ | ⟨e54, hm0⟩
   · obtain rfl := Option.some.inj hm0
     simp only [g70, e54, xi, ↓EVd, isCall, sevalprocAttr]
     all_goals first | done | rfl
   obtain ⟨v55, h56, hm0⟩ := bsE hm0
   simp only [g70, e54, xi, ↓EVd, isCall, sevalprocAttr]
   refine qd (x4j _ _ _ h56) rfl ?_
   obtain ⟨v57, h58, hm0⟩ := bsE hm0
   simp only [g70, e54, xi, ↓EVd, isCall, sevalprocAttr]
   refine qd (xck _ _ _ h58) rfl ?_
   rcases itbE hm0 with ⟨e60, hm0⟩ | ⟨e60, hm0⟩
   · rcases itbE hm0 with ⟨e62, hm0⟩ | ⟨e62, hm0⟩
     · obtain ⟨v63, h64, hm0⟩ := bsE hm0
       simp only [g70, e54, e60, e62, xi, ↓EVd, isCall, sevalprocAttr]
       refine qd (xdb  _ h64) rfl ?_
       obtain rfl := Option.some.inj hm0
       simp only [g70, e54, e60, e62, xi, ↓EVd, isCall, sevalprocAttr]
       all_goals first | done | rfl
     obtain rfl := Option.some.inj hm0
     simp only [g70, e54, e60, e62, xi, ↓EVd, isCall, sevalprocAttr]
     all_goals first | done | rfl
   rcases itbE hm0 with ⟨e66, hm0⟩ | ⟨e66, hm0⟩
   · obtain rfl := Option.some.inj hm0
     simp only [g70, e54, e60, e66, xi, ↓EVd, isCall, sevalprocAttr]
     all_goals first | done | rfl
   obtain ⟨v67, h68, hm0⟩ := bsE hm0
   simp only [g70, e54, e60, e66, xi, ↓EVd, isCall, sevalprocAttr]
   refine qd (xdb  _ h68) rfl ?_
   obtain rfl := Option.some.inj hm0
   simp only [g70, e54, e60, e66, xi, ↓EVd, isCall, sevalprocAttr]
   all_goals first | done | rfl
 obtain rfl := Option.some.inj hm0
 simp only [e4, e8, e12, e16, e20, e24, e34, xi, ↓EVd, isCall, sevalprocAttr]
 all_goals first | done | rfl
def xgd (a2 : ByteArray) (v35 : List ByteArray) : (Bool × Int) → Option (St (Bool × Int) (Bool))
 | (v38, v39) => if v39 < (v35.length : Int) then (ix v35 v39).bind fun v44 => if v38 = true then some (.nx (true, (wr (v39 + 1))))
 else if v44 = a2 then some (.nx (true, (wr (v39 + 1))))
 else some (.nx (false, (wr (v39 + 1))))
 else some (.out v38)
def xwf (a0 : Stack) (a1 : List ByteArray) (a2 : ByteArray) : Option (Bool) := (xyd a0 24).bind fun v1 => if (!v1) = true then (xw ).bind fun v5 => some v5
 else if 8 < (a1.length : Int) then (xw ).bind fun v9 => some v9
 else if 40 < (a2.size : Int) then (xw ).bind fun v13 => some v13
 else (xdc a0 (ByteArray.mk #[47])).bind fun v15 => if (!v15.2) = true then some false
 else if v15.1.kind = 1 then (ap 16 ([] : List ByteArray) a1).bind fun _ => (ap 16 (([] : List ByteArray) ++ a1) ([a2] : List ByteArray)).bind fun _ => (x6f a0 ((([] : List ByteArray) ++ a1) ++ ([a2] : List ByteArray))).bind fun v29 => (x6f a0 a1).bind fun v31 => if v31.1 = 1 then (xjf a0 v31.2.1).bind fun v35 => (iter (xgd a2 v35) big (false, 0)).bind fun o => (match o with
 | v41 => if v29.1 = 0 then if v41 = true then some false
 else (xw ).bind fun v55 => some v55
 else if v41 = true then (xw ).bind fun v59 => some v59
 else some false)
 else if v29.1 = 0 then if v29.2.1.upper = 0 then (xw ).bind fun v65 => some v65
 else some false
 else some false
 else some false
def xh := aI (aI (aI (aI (@EV) (@R3)) (aI (@R4) (@R9))) (aI (aI (@R29) (@R31)) (aI (@R33) (aI (@R42) (@R44))))) (aI (aI (aI (@DBranch) (@DStack)) (aI (@DSeen) (aI (@DView) (@DPlace)))) (aI (aI (@DOrigin) (@DAttr)) (aI (@DNode) (aI (@DEntry) (@mixed)))))
set_option maxHeartbeats 2000000 in
theorem xit (a0 : Stack) (a1 : List ByteArray) (a2 : ByteArray) (r : Bool) (hm0 : xwf a0 a1 a2 = some r) : Ok Tryz.prog 4 [xf a0, .sl 1 (a1.map str), str a2] (bool r) := by
 unfold xwf at hm0
 refine okG xdt ?_
 unfold xdn
 obtain ⟨v1, h2, hm0⟩ := bsE hm0
 simp only [xh, ↓EVd, isCall, sevalprocAttr]
 refine qc (x4l _ _ _ h2) rfl ?_
 rcases itbE hm0 with ⟨e4, hm0⟩ | ⟨e4, hm0⟩
 · obtain ⟨v5, h6, hm0⟩ := bsE hm0
   simp only [e4, xh, ↓EVd, isCall, sevalprocAttr]
   refine qc (xdb  _ h6) rfl ?_
   obtain rfl := Option.some.inj hm0
   simp only [e4, xh, ↓EVd, isCall, sevalprocAttr]
   all_goals first | done | rfl
 rcases iteE hm0 with ⟨e8, hm0⟩ | ⟨e8, hm0⟩
 · obtain ⟨v9, h10, hm0⟩ := bsE hm0
   simp only [e4, e8, xh, ↓EVd, isCall, sevalprocAttr]
   refine qc (xdb  _ h10) rfl ?_
   obtain rfl := Option.some.inj hm0
   simp only [e4, e8, xh, ↓EVd, isCall, sevalprocAttr]
   all_goals first | done | rfl
 rcases iteE hm0 with ⟨e12, hm0⟩ | ⟨e12, hm0⟩
 · obtain ⟨v13, h14, hm0⟩ := bsE hm0
   simp only [e4, e8, e12, xh, ↓EVd, isCall, sevalprocAttr]
   refine qc (xdb  _ h14) rfl ?_
   obtain rfl := Option.some.inj hm0
   simp only [e4, e8, e12, xh, ↓EVd, isCall, sevalprocAttr]
   all_goals first | done | rfl
 obtain ⟨v15, h16, hm0⟩ := bsE hm0
 simp only [e4, e8, e12, xh, ↓EVd, isCall, sevalprocAttr]
 refine qc (xnh _ _ _ h16) rfl ?_
 rcases itbE hm0 with ⟨e18, hm0⟩ | ⟨e18, hm0⟩
 · obtain rfl := Option.some.inj hm0
   simp only [e4, e8, e12, e18, xh, ↓EVd, isCall, sevalprocAttr]
   all_goals first | done | rfl
 rcases iteE hm0 with ⟨e20, hm0⟩ | ⟨e20, hm0⟩
 · simp only [e4, e8, e12, e18, e20, xh, ↓EVd, isCall, sevalprocAttr]
   refine fineI [([0], []), ([], []), ([], []), ([], [31]), ([], []), ([], []), ([35], [33]), ([], [36]), ([], []), ([], []), ([], []), ([], []), ([], []), ([], []), ([], []), ([], [42]), ([], [43])] rfl (by simp only [MT, sevalprocAttr]; first | done | omega) ?_
   obtain ⟨e23, hm0⟩ := apE hm0
   try simp only [ZL] at e23
   obtain ⟨e27, hm0⟩ := apE hm0
   try simp only [ZL] at e27
   obtain ⟨v29, h30, hm0⟩ := bsE hm0
   simp only [e4, e8, e12, e18, e20, e23, e27, xh, ↓EVd, isCall, sevalprocAttr]
   refine qvk (xcn _ _ _ h30) rfl (by simp only [e4, e8, e12, e18, e20, e23, e27, FK, CLO, xh, ↓EVd, isCall, sevalprocAttr]; first | done | rfl) (by simp only [e4, e8, e12, e18, e20, e23, e27, FU, CLO, xh, ↓EVd, isCall, sevalprocAttr]; first | done | rfl) ?_
   try simp only [e4, e8, e12, e18, e20, e23, e27, FU, CLO, xh, ↓EVd, isCall, sevalprocAttr]
   obtain ⟨v31, h32, hm0⟩ := bsE hm0
   try simp only [e4, e8, e12, e18, e20, e23, e27, xh, ↓EVd, isCall, sevalprocAttr]
   refine qc (xcn _ _ _ h32) rfl ?_
   rcases iteE hm0 with ⟨e34, hm0⟩ | ⟨e34, hm0⟩
   · have g67 := And.intro (And.intro (And.intro ((e4)) ((e8))) (And.intro ((e12)) ((e18)))) (And.intro (And.intro ((e20)) ((e23))) (And.intro ((e27)) ((e34))))
     obtain ⟨v35, h36, hm0⟩ := bsE hm0
     simp only [g67, xh, ↓EVd, isCall, sevalprocAttr]
     refine qc (x6s _ _ _ h36) rfl ?_
     obtain ⟨o0, ho0, hm0⟩ := bsE hm0
     simp only [g67, xh, ↓EVd, isCall, sevalprocAttr]
     refine cwp_cx 0 (fun s => ∃ v41 : Bool, (s.T 9 = int v29.1 ∧ s.T 15 = bool v41) ∧ v41 = o0) ?_ fun J0_0 hJ0_0 => ?_
     · rintro T0 H0 x40 ⟨v41, kk0_0, rfl⟩
       dsimp only [Lq, Nq] at kk0_0
       try dsimp only at hm0
       rcases iteE hm0 with ⟨e52, hm0⟩ | ⟨e52, hm0⟩
       · rcases itbE hm0 with ⟨e54, hm0⟩ | ⟨e54, hm0⟩
         · obtain rfl := Option.some.inj hm0
           simp only [kk0_0, g67, e52, e54, xh, ↓EVd, isCall, sevalprocAttr]
           all_goals first | done | rfl
         obtain ⟨v55, h56, hm0⟩ := bsE hm0
         simp only [kk0_0, g67, e52, e54, xh, ↓EVd, isCall, sevalprocAttr]
         refine qc (xdb  _ h56) rfl ?_
         obtain rfl := Option.some.inj hm0
         simp only [kk0_0, g67, e52, e54, xh, ↓EVd, isCall, sevalprocAttr]
         all_goals first | done | rfl
       rcases itbE hm0 with ⟨e58, hm0⟩ | ⟨e58, hm0⟩
       · obtain ⟨v59, h60, hm0⟩ := bsE hm0
         simp only [kk0_0, g67, e52, e58, xh, ↓EVd, isCall, sevalprocAttr]
         refine qc (xdb  _ h60) rfl ?_
         obtain rfl := Option.some.inj hm0
         simp only [kk0_0, g67, e52, e58, xh, ↓EVd, isCall, sevalprocAttr]
         all_goals first | done | rfl
       obtain rfl := Option.some.inj hm0
       simp only [kk0_0, g67, e52, e58, xh, ↓EVd, isCall, sevalprocAttr]
       all_goals first | done | rfl
     refine cwp_lp ho0 (fun (v38, v39) s => s.T 2 = str a2 ∧ s.T 9 = int v29.1 ∧ s.T 15 = bool v38 ∧ s.T 77 = .sl 1 (v35.map str) ∧ s.T 78 = int (v35.length : Int) ∧ s.T 79 = int v39) ?_ ?_
     · refine TI.here ⟨?_, ?_, ?_, ?_, ?_, ?_⟩
       all_goals try simp only [g67, xh, ↓EVd, isCall, sevalprocAttr]
       all_goals first | omega | exact lq (by omega) | exact nq (by omega) | rfl | (congr 1; omega)
     rintro I0 ⟨v38, v39⟩ T0 H0 x37 st0 kk0 hm1 hI0 hO0
     dsimp only [Lq, Nq] at kk0
     simp only [xgd] at hm1
     rcases iteE hm1 with ⟨e43, hm1⟩ | ⟨e43, hm1⟩
     · obtain ⟨v44, e46, hm1⟩ := ixE str hm1
       rcases itbE hm1 with ⟨e48, hm1⟩ | ⟨e48, hm1⟩
       · obtain rfl := Option.some.inj hm1
         simp only [kk0, g67, e43, e46, e48, xh, ↓EVd, isCall, sevalprocAttr]
         refine TI.here (hI0 _ rfl _ ⟨?_, ?_, ?_, ?_, ?_, ?_⟩)
         all_goals try simp only [kk0, g67, e43, e46, e48, xh, ↓EVd, isCall, sevalprocAttr]
         all_goals first | omega | exact lq (by omega) | exact nq (by omega) | rfl | (congr 1; omega)
       rcases iteE hm1 with ⟨e50, hm1⟩ | ⟨e50, hm1⟩
       · obtain rfl := Option.some.inj hm1
         simp only [kk0, g67, e43, e46, e48, e50, xh, ↓EVd, isCall, sevalprocAttr]
         refine TI.here (hI0 _ rfl _ ⟨?_, ?_, ?_, ?_, ?_, ?_⟩)
         all_goals try simp only [kk0, g67, e43, e46, e48, e50, xh, ↓EVd, isCall, sevalprocAttr]
         all_goals first | omega | exact lq (by omega) | exact nq (by omega) | rfl | (congr 1; omega)
       obtain rfl := Option.some.inj hm1
       simp only [kk0, g67, e43, e46, e48, e50, xh, ↓EVd, isCall, sevalprocAttr]
       refine TI.here (hI0 _ rfl _ ⟨?_, ?_, ?_, ?_, ?_, ?_⟩)
       all_goals try simp only [kk0, g67, e43, e46, e48, e50, xh, ↓EVd, isCall, sevalprocAttr]
       all_goals first | omega | exact lq (by omega) | exact nq (by omega) | rfl | (congr 1; omega)
     obtain rfl := Option.some.inj hm1
     simp only [kk0, g67, e43, xh, ↓EVd, isCall, sevalprocAttr]
     refine TI.here (hJ0_0 _ ⟨v38, ⟨?_, ?_⟩, hO0 _ rfl⟩)
     all_goals try simp only [kk0, g67, e43, xh, ↓EVd, isCall, sevalprocAttr]
     all_goals first | omega | exact lq (by omega) | exact nq (by omega) | rfl | (congr 1; omega)
   have g68 := And.intro (And.intro (And.intro ((e4)) ((e8))) (And.intro ((e12)) ((e18)))) (And.intro (And.intro ((e20)) ((e23))) (And.intro ((e27)) ((e34))))
   rcases iteE hm0 with ⟨e62, hm0⟩ | ⟨e62, hm0⟩
   · rcases iteE hm0 with ⟨e64, hm0⟩ | ⟨e64, hm0⟩
     · obtain ⟨v65, h66, hm0⟩ := bsE hm0
       simp only [g68, e62, e64, xh, ↓EVd, isCall, sevalprocAttr]
       refine qc (xdb  _ h66) rfl ?_
       obtain rfl := Option.some.inj hm0
       simp only [g68, e62, e64, xh, ↓EVd, isCall, sevalprocAttr]
       all_goals first | done | rfl
     obtain rfl := Option.some.inj hm0
     simp only [g68, e62, e64, xh, ↓EVd, isCall, sevalprocAttr]
     all_goals first | done | rfl
   obtain rfl := Option.some.inj hm0
   simp only [g68, e62, xh, ↓EVd, isCall, sevalprocAttr]
   all_goals first | done | rfl
 obtain rfl := Option.some.inj hm0
 simp only [e4, e8, e12, e18, e20, xh, ↓EVd, isCall, sevalprocAttr]
 all_goals first | done | rfl
def x3f (a0 : Stack) (a1 : List ByteArray) (a2 : Place) : Option (Bool) := (xyd a0 24).bind fun v1 => if (!v1) = true then (xw ).bind fun v5 => some v5
 else if 8 < (a1.length : Int) then (xw ).bind fun v9 => some v9
 else (x6f a0 a1).bind fun v11 => (x1i a0 a1).bind fun v13 => if v11.1 = v13.1 then if v11.2.1.upper = v13.2.1.upper then if (v11.2.1.lower.length : Int) = (v13.2.1.lower.length : Int) then if (decide (v11.2.2 = v13.2.2)) = true then (xtf a0 a2).bind fun v23 => (xvf a0 a2).bind fun v25 => (xvd v23 v25).bind fun v27 => if (!v27) = true then some false
 else (xxh a1).bind fun v31 => (xdc a0 v31).bind fun v33 => (xxh a1).bind fun v35 => (xxi a0 v35).bind fun v37 => (xme v33.1 v37.1).bind fun v39 => if v39 = true then if v33.2 = true then if v37.2 = true then (xw ).bind fun v47 => some v47
 else some false
 else if v37.2 = true then some false
 else (xw ).bind fun v51 => some v51
 else some false
 else some false
 else some false
 else some false
 else some false
def xm := aI (aI (aI (aI (@EV) (@R3)) (aI (@R4) (aI (@R5) (@R9)))) (aI (aI (@R29) (aI (@R30) (@R31))) (aI (@R33) (aI (@R40) (@R42))))) (aI (aI (aI (@R44) (aI (@DBranch) (@DStack))) (aI (@DSeen) (aI (@DView) (@DPlace)))) (aI (aI (@DOrigin) (aI (@DAttr) (@DNode))) (aI (@DEntry) (aI (@eq44) (@mixed)))))
set_option maxHeartbeats 2000000 in
theorem xct (a0 : Stack) (a1 : List ByteArray) (a2 : Place) (r : Bool) (hm0 : x3f a0 a1 a2 = some r) : Ok Tryz.prog 5 [xf a0, .sl 1 (a1.map str), xc a2] (bool r) := by
 unfold x3f at hm0
 refine okG xgt ?_
 unfold xrn
 obtain ⟨v1, h2, hm0⟩ := bsE hm0
 simp only [xm, ↓EVd, isCall, sevalprocAttr]
 refine qc (x4l _ _ _ h2) rfl ?_
 rcases itbE hm0 with ⟨e4, hm0⟩ | ⟨e4, hm0⟩
 · obtain ⟨v5, h6, hm0⟩ := bsE hm0
   simp only [e4, xm, ↓EVd, isCall, sevalprocAttr]
   refine qc (xdb  _ h6) rfl ?_
   obtain rfl := Option.some.inj hm0
   simp only [e4, xm, ↓EVd, isCall, sevalprocAttr]
   all_goals first | done | rfl
 rcases iteE hm0 with ⟨e8, hm0⟩ | ⟨e8, hm0⟩
 · obtain ⟨v9, h10, hm0⟩ := bsE hm0
   simp only [e4, e8, xm, ↓EVd, isCall, sevalprocAttr]
   refine qc (xdb  _ h10) rfl ?_
   obtain rfl := Option.some.inj hm0
   simp only [e4, e8, xm, ↓EVd, isCall, sevalprocAttr]
   all_goals first | done | rfl
 obtain ⟨v11, h12, hm0⟩ := bsE hm0
 simp only [e4, e8, xm, ↓EVd, isCall, sevalprocAttr]
 refine qc (xcn _ _ _ h12) rfl ?_
 obtain ⟨v13, h14, hm0⟩ := bsE hm0
 simp only [e4, e8, xm, ↓EVd, isCall, sevalprocAttr]
 refine qc (xww _ _ _ h14) rfl ?_
 rcases iteE hm0 with ⟨e16, hm0⟩ | ⟨e16, hm0⟩
 · rcases iteE hm0 with ⟨e18, hm0⟩ | ⟨e18, hm0⟩
   · rcases iteE hm0 with ⟨e20, hm0⟩ | ⟨e20, hm0⟩
     · rcases itbE hm0 with ⟨e22, hm0⟩ | ⟨e22, hm0⟩
       · obtain ⟨v23, h24, hm0⟩ := bsE hm0
         simp only [e4, e8, e16, e18, e20, e22, xm, ↓EVd, isCall, sevalprocAttr]
         refine qd (xsr _ _ _ h24) rfl ?_
         obtain ⟨v25, h26, hm0⟩ := bsE hm0
         simp only [e4, e8, e16, e18, e20, e22, xm, ↓EVd, isCall, sevalprocAttr]
         refine qd (x3q _ _ _ h26) rfl ?_
         obtain ⟨v27, h28, hm0⟩ := bsE hm0
         simp only [e4, e8, e16, e18, e20, e22, xm, ↓EVd, isCall, sevalprocAttr]
         refine qd (xum _ _ _ h28) rfl ?_
         rcases itbE hm0 with ⟨e30, hm0⟩ | ⟨e30, hm0⟩
         · obtain rfl := Option.some.inj hm0
           simp only [e4, e8, e16, e18, e20, e22, e30, xm, ↓EVd, isCall, sevalprocAttr]
           all_goals first | done | rfl
         obtain ⟨v31, h32, hm0⟩ := bsE hm0
         simp only [e4, e8, e16, e18, e20, e22, e30, xm, ↓EVd, isCall, sevalprocAttr]
         refine qd (xzu _ _ h32) rfl ?_
         obtain ⟨v33, h34, hm0⟩ := bsE hm0
         simp only [e4, e8, e16, e18, e20, e22, e30, xm, ↓EVd, isCall, sevalprocAttr]
         refine qd (xnh _ _ _ h34) rfl ?_
         obtain ⟨v35, h36, hm0⟩ := bsE hm0
         simp only [e4, e8, e16, e18, e20, e22, e30, xm, ↓EVd, isCall, sevalprocAttr]
         refine qd (xzu _ _ h36) rfl ?_
         obtain ⟨v37, h38, hm0⟩ := bsE hm0
         simp only [e4, e8, e16, e18, e20, e22, e30, xm, ↓EVd, isCall, sevalprocAttr]
         refine qd (xyw _ _ _ h38) rfl ?_
         obtain ⟨v39, h40, hm0⟩ := bsE hm0
         simp only [e4, e8, e16, e18, e20, e22, e30, xm, ↓EVd, isCall, sevalprocAttr]
         refine qc (xck _ _ _ h40) rfl ?_
         rcases itbE hm0 with ⟨e42, hm0⟩ | ⟨e42, hm0⟩
         · have g53 := And.intro (And.intro (And.intro ((e4)) ((e8))) (And.intro ((e16)) ((e18)))) (And.intro (And.intro ((e20)) ((e22))) (And.intro ((e30)) ((e42))))
           rcases itbE hm0 with ⟨e44, hm0⟩ | ⟨e44, hm0⟩
           · rcases itbE hm0 with ⟨e46, hm0⟩ | ⟨e46, hm0⟩
             · obtain ⟨v47, h48, hm0⟩ := bsE hm0
               simp only [g53, e44, e46, xm, ↓EVd, isCall, sevalprocAttr]
               refine qc (xdb  _ h48) rfl ?_
               obtain rfl := Option.some.inj hm0
               simp only [g53, e44, e46, xm, ↓EVd, isCall, sevalprocAttr]
               all_goals first | done | rfl
             obtain rfl := Option.some.inj hm0
             simp only [g53, e44, e46, xm, ↓EVd, isCall, sevalprocAttr]
             all_goals first | done | rfl
           rcases itbE hm0 with ⟨e50, hm0⟩ | ⟨e50, hm0⟩
           · obtain rfl := Option.some.inj hm0
             simp only [g53, e44, e50, xm, ↓EVd, isCall, sevalprocAttr]
             all_goals first | done | rfl
           obtain ⟨v51, h52, hm0⟩ := bsE hm0
           simp only [g53, e44, e50, xm, ↓EVd, isCall, sevalprocAttr]
           refine qc (xdb  _ h52) rfl ?_
           obtain rfl := Option.some.inj hm0
           simp only [g53, e44, e50, xm, ↓EVd, isCall, sevalprocAttr]
           all_goals first | done | rfl
         obtain rfl := Option.some.inj hm0
         simp only [e4, e8, e16, e18, e20, e22, e30, e42, xm, ↓EVd, isCall, sevalprocAttr]
         all_goals first | done | rfl
       obtain rfl := Option.some.inj hm0
       simp only [e4, e8, e16, e18, e20, e22, xm, ↓EVd, isCall, sevalprocAttr]
       all_goals first | done | rfl
     obtain rfl := Option.some.inj hm0
     simp only [e4, e8, e16, e18, e20, xm, ↓EVd, isCall, sevalprocAttr]
     all_goals first | done | rfl
   obtain rfl := Option.some.inj hm0
   simp only [e4, e8, e16, e18, xm, ↓EVd, isCall, sevalprocAttr]
   all_goals first | done | rfl
 obtain rfl := Option.some.inj hm0
 simp only [e4, e8, e16, xm, ↓EVd, isCall, sevalprocAttr]
 all_goals first | done | rfl
end Go.Proofs.YtfefidkblgendaaGreatDoor.AL

/- Plain laws of chapter 18: the laws. -/
set_option linter.all false
namespace Go.Proofs.YtfefidkblgendaaGreatDoor.AL
open Go Go.Proofs
def idleS : Stack := (xti).getD default
theorem xyfb : xti = some idleS := by kernel_rfl
theorem xodb : xyd idleS 24 = some true := by kernel_rfl
theorem sp1 : splitP (ByteArray.mk #[47, 97]) = ([ByteArray.mk #[97]], true) := by decide +kernel
theorem sp2 : splitP (ByteArray.mk #[47, 122]) = ([ByteArray.mk #[122]], true) := by decide +kernel
theorem sp0 : splitP (ByteArray.mk #[47]) = ([], true) := by decide +kernel
theorem of1 : ofV idleS (ByteArray.mk #[47, 97]) = (⟨2, [120], []⟩, true) := by
  unfold ofV
  rw [sp1]
  kernel_rfl
theorem of2 : ofV idleS (ByteArray.mk #[47, 122]) = (⟨0, [], []⟩, false) := by
  unfold ofV
  rw [sp2]
  kernel_rfl
theorem of0 : ofV idleS (ByteArray.mk #[47]) = (⟨1, [], [ByteArray.mk #[97]]⟩, true) := by
  unfold ofV
  rw [sp0]
  kernel_rfl
def awk (a b c : Seen × Bool) : Option Bool := if a.2 = true then if a.1.kind = 2 then (xvd a.1.data [120]).bind fun v14 => if v14 = true then if b.2 = true then if b.1.kind = 1 then if (b.1.names.length : Int) = 1 then if (!c.2) = true then (xbd a.1 a.1).bind fun v26 => if v26 = true then (xbd a.1 b.1).bind fun v30 => some !v30 else some false else some false else some false else some false else some false else some false else some false else some false
theorem awk_ok : awk (⟨2, [120], []⟩, true) (⟨1, [], [ByteArray.mk #[97]]⟩, true) (⟨0, [], []⟩, false) = some true := by
  have s1 : SS ⟨2, [120], []⟩ := ⟨by simp, by simp⟩
  unfold awk
  rw [x5t, xlx s1, xlx s1]
  decide +kernel
theorem xro : SV idleS ∧ MV idleS := by
  obtain ⟨r, h1, h2⟩ := xco idleS 24 (by omega)
  have hr : r = true := Option.some.inj (h1.symm.trans xodb)
  exact ⟨(h2 hr).1.sv, (h2 hr).2.mv⟩
theorem sz1 : (ByteArray.mk #[47, 97]).size ≤ 2000000 := by simp [ByteArray.size]
theorem sz2 : (ByteArray.mk #[47, 122]).size ≤ 2000000 := by simp [ByteArray.size]
theorem sz0 : (ByteArray.mk #[47]).size ≤ 2000000 := by simp [ByteArray.size]
theorem q1 : xdc idleS (ByteArray.mk #[47, 97]) = some (⟨2, [120], []⟩, true) := (of_eq xro.1 xro.2 sz1).trans (congrArg some of1)
theorem q2 : xdc idleS (ByteArray.mk #[47, 122]) = some (⟨0, [], []⟩, false) := (of_eq xro.1 xro.2 sz2).trans (congrArg some of2)
theorem q0 : xdc idleS (ByteArray.mk #[47]) = some (⟨1, [], [ByteArray.mk #[97]]⟩, true) := (of_eq xro.1 xro.2 sz0).trans (congrArg some of0)
theorem awake18k : xw = xti.bind fun v1 => (xdc v1 (ByteArray.mk #[47, 97])).bind fun a => (xdc v1 (ByteArray.mk #[47])).bind fun b => (xdc v1 (ByteArray.mk #[47, 122])).bind fun c => awk a b c := by
  unfold xw awk
  rfl
theorem awake18 : xw = some true := by
  rw [awake18k, xyfb, Option.bind_some, q1, Option.bind_some, q0, Option.bind_some, q2, Option.bind_some]
  exact awk_ok
theorem xy0 (s : Stack) (t : ByteArray) (a b : Seen) : x5f s t a b = some true := by
  unfold x5f
  obtain ⟨r, h1, h2⟩ := xco s 24 (by omega)
  rw [h1, awake18]
  simp only [Option.bind_some]
  cases r with
  | false => rfl
  | true =>
    rw [if_neg (by simp)]
    have h := (h2 rfl).1.sv
    have hm := (h2 rfl).2.mv
    by_cases c1 : 200 < (t.size : Int)
    · rw [if_pos c1]
    rw [if_neg c1]
    by_cases c2 : 30 < (a.names.length : Int)
    · rw [if_pos c2]
    rw [if_neg c2]
    by_cases c3 : 30 < (b.names.length : Int)
    · rw [if_pos c3]
    rw [if_neg c3]
    by_cases c4 : 300 < (a.data.length : Int)
    · rw [if_pos c4]
    rw [if_neg c4]
    by_cases c5 : 300 < (b.data.length : Int)
    · rw [if_pos c5]
    rw [if_neg c5, of_eq h hm (by omega), rof_eq h (by omega)]
    simp only [Option.bind_some]
    have ha : SS a := ⟨by omega, by omega⟩
    rw [xtx (ofV_ss h hm t), xly, xlx ha, xtx ha]
    simp only [Option.bind_some, if_true]
    cases (ofV s t).2 <;> cases sameB a b <;> rfl
def anyN (nm : ByteArray) (l : List ByteArray) : Bool := l.any fun x => decide (x = nm)
theorem xsbb (nm : ByteArray) (l : List ByteArray) : anyN nm l = true ↔ nm ∈ l := by simp [anyN]
theorem xncb {l : List ByteArray} (nm : ByteArray) (hl : l.length ≤ 1000000) : iter (xgd nm l) big (false, 0) = some (anyN nm l) := by
  obtain ⟨r, h1, h2⟩ := xxf (B := xgd nm l) (R := fun r => r = anyN nm l) (fun i t => t = (anyN nm (l.take i), (i : Int)) ∧ i ≤ l.length) l.length (by
    rintro i t ⟨rfl, hi⟩
    refine ⟨hi, ?_⟩
    simp only [xgd]
    by_cases hlt : i < l.length
    · rw [if_pos (by omega), ix_at hlt]
      simp only [Option.bind_some]
      rw [wr_suc (by omega)]
      have ht : anyN nm (l.take (i + 1)) = (anyN nm (l.take i) || decide (l[i] = nm)) := by
        unfold anyN
        rw [List.take_succ_eq_append_getElem hlt, List.any_append]
        simp only [List.any_cons, List.any_nil, Bool.or_false]
      rw [ht]
      refine .inl ?_
      cases hm : anyN nm (l.take i) with
      | true =>
        rw [if_pos rfl]
        exact ⟨_, rfl, by simp, by omega⟩
      | false =>
        rw [if_neg (by simp)]
        by_cases he : l[i] = nm
        · rw [if_pos he]
          exact ⟨_, rfl, by simp [he], by omega⟩
        · rw [if_neg he]
          exact ⟨_, rfl, by simp [he], by omega⟩
    · rw [if_neg (by omega)]
      have : i = l.length := by omega
      subst this
      exact .inr ⟨_, rfl, by simp⟩) big 0 (false, 0) ⟨by simp [anyN], by omega⟩ (by rw [big_eq]; omega)
  rw [h1, h2]
theorem xr7 : splitP rootB = ([], true) := by decide +kernel
theorem xyz (s : Stack) (nms : List ByteArray) (last : ByteArray) : xwf s nms last = some true := by
  unfold xwf
  obtain ⟨r, h1, h2⟩ := xco s 24 (by omega)
  rw [h1, awake18]
  simp only [Option.bind_some]
  cases r with
  | false => rfl
  | true =>
    rw [if_neg (by simp)]
    have h := (h2 rfl).1.sv
    have hm := (h2 rfl).2.mv
    by_cases c1 : 8 < (nms.length : Int)
    · rw [if_pos c1]
    rw [if_neg c1]
    by_cases c2 : 40 < (last.size : Int)
    · rw [if_pos c2]
    have hroot : ofV s (ByteArray.mk #[47]) = (⟨1, [], namesV s (begV s).2.1⟩, true) := by
      have e0 : splitP (ByteArray.mk #[47]) = ([], true) := xr7
      unfold ofV
      rw [e0]
      rfl
    rw [if_neg c2, of_eq h hm (by decide), hroot]
    simp only [Option.bind_some, Bool.not_true, Bool.false_eq_true, if_false, if_true]
    rw [ap_of (by simp; omega) (by decide)]
    simp only [Option.bind_some]
    rw [ap_of (by simp; omega) (by decide)]
    simp only [Option.bind_some, List.nil_append]
    rw [at_eqM h (by rw [List.length_append]; simp; omega), at_eqM h (by omega), xzcb]
    simp only [Option.bind_some]
    have hlow := x7v h nms
    generalize atV s nms = t at hlow
    have hnl := x1y h (v := t.2.1) (m := 3) hlow
    by_cases k1 : t.1 = 1
    · rw [if_pos k1, if_pos k1, xb2 h (by omega)]
      simp only [Option.bind_some]
      rw [xncb last (by omega)]
      simp only [Option.bind_some]
      have hmem := (xsbb last (namesV s t.2.1)).trans (xu7 (s := s) t.2.1 last)
      by_cases k2 : (stpV s t.2.1 last).1 = 0
      · have : ¬ anyN last (namesV s t.2.1) = true := fun e => (hmem.1 e) k2
        rw [if_pos k2, if_neg this]
      · rw [if_neg k2, if_pos (hmem.2 k2)]
    · rw [if_neg k1, if_neg k1]
      rfl
theorem x90 (s : Stack) (nms : List ByteArray) (p : Place) (hj : (Lib.join (nms.map fun x => x.data.toList) [47]).length ≤ 1999000) : x3f s nms p = some true := by
  unfold x3f
  obtain ⟨r, h1, h2⟩ := xco s 24 (by omega)
  rw [h1, awake18]
  simp only [Option.bind_some]
  cases r with
  | false => rfl
  | true =>
    rw [if_neg (by simp)]
    have h := (h2 rfl).1.sv
    have hm := (h2 rfl).2.mv
    by_cases c1 : 8 < (nms.length : Int)
    · rw [if_pos c1]
    have hs : (joinP nms).size ≤ 2000000 := by
      unfold joinP
      rw [xhp, List.length_cons]
      omega
    rw [if_neg c1, at_eqM h (by omega), x06 h (by omega), x71 h hm, xs1 h]
    simp only [Option.bind_some, if_true, decide_true]
    rw [x5t, xy9 (by omega) (by omega)]
    simp only [Option.bind_some, decide_true, Bool.not_true, Bool.false_eq_true, if_false]
    rw [of_eq h hm hs, rof_eq h hs]
    simp only [Option.bind_some]
    rw [xtx (ofV_ss h hm _), xly]
    simp only [Option.bind_some, if_true]
    cases (ofV s (joinP nms)).2 <;> rfl
theorem x3fb (s : Stack) (t : ByteArray) (a b : Seen) : Ok Tryz.prog 3 [xf s, str t, xub a, xub b] (bool true) := xet s t a b true (xy0 s t a b)
theorem x4fb (s : Stack) (nms : List ByteArray) (last : ByteArray) : Ok Tryz.prog 4 [xf s, .sl 1 (nms.map str), str last] (bool true) := xit s nms last true (xyz s nms last)
theorem xz2 (s : Stack) (nms : List ByteArray) (p : Place) (hj : (Lib.join (nms.map fun x => x.data.toList) [47]).length ≤ 1999000) : Ok Tryz.prog 5 [xf s, .sl 1 (nms.map str), xc p] (bool true) := xct s nms p true (x90 s nms p hj)
end Go.Proofs.YtfefidkblgendaaGreatDoor.AL

/- What any text shows, as a path, is what the document says: for every stack, every text, and any two things that are shown. -/
namespace Go.Proofs.YtfefidkblgendaaGreatDoor
theorem mergeTexts_holds : Rows.MergeTextsCardSaid := xwv (xqt fun s t a b _ _ _ _ => AL.x3fb s t a b)
#print axioms mergeTexts_holds
end Go.Proofs.YtfefidkblgendaaGreatDoor

