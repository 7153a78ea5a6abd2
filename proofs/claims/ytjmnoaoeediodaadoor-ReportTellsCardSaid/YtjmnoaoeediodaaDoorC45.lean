/- A law of the given program is proved: part 45 of 47. -/
import Derived.Test.YtjmnoaoeediodaaDoorC44
set_option linter.all false
/- Models of functions, and that the functions are as their models: written by gen.py. -/
set_option linter.all false
set_option maxRecDepth 100000
namespace Go.Proofs.YtjmnoaoeediodaaDoor.AL
open Go Go.Proofs
def xab  : Option (Bool) := (x7b (ByteArray.mk #[115, 99, 114, 105, 112, 116, 32, 110, 111, 10, 121, 101, 115, 32, 119, 104, 105, 116, 101, 32, 49, 58, 50, 10])).bind fun v2 => (x7b (ByteArray.mk #[115, 99, 114, 105, 112, 116, 32, 110, 111])).bind fun v4 => (x6d (ByteArray.mk #[110, 111, 32, 108, 105, 110, 107, 115, 32, 51, 58, 45, 49])).bind fun v6 => (xuc (⟨2, ([(⟨15, 1, 2, true⟩ : Answer)] : List Answer), false⟩ : Script) v2.1).bind fun v8 => if v8 = true then if v2.2 = 0 then if v4.2 = 2 then (xsb (⟨2, ([(⟨15, 1, 2, true⟩ : Answer)] : List Answer), false⟩ : Script)).bind fun v16 => if v16 = (ByteArray.mk #[115, 99, 114, 105, 112, 116, 32, 110, 111, 10, 121, 101, 115, 32, 119, 104, 105, 116, 101, 32, 49, 58, 50, 10]) then if (decide (v6.1 = (⟨19, 3, (-1), false⟩ : Answer))) = true then if v6.2 = true then (xic v6.1).bind fun v25 => if v25 = (ByteArray.mk #[110, 111, 32, 108, 105, 110, 107, 115, 32, 51, 58, 45, 49]) then some true
 else some false
 else some false
 else some false
 else some false
 else some false
 else some false
 else some false
def xbb := aI (aI (aI (@EV) (@R9)) (aI (@R36) (@R37))) (aI (aI (@R39) (@DAnswer)) (aI (@DScript) (@eq36)))
set_option maxHeartbeats 2000000 in
theorem xrb  (r : Bool) (hm0 : xab  = some r) : Ok Tryd.prog 18 [] (bool r) := by
 unfold xab at hm0
 refine okG xwp ?_
 unfold xal
 have e1 : (.agg [int 15, int 1, int 2, bool true] : AV) = xc (⟨15, 1, 2, true⟩ : Answer) := _root_.id rfl
 obtain ⟨v2, h3, hm0⟩ := bsE hm0
 simp only [e1, xbb, ↓EVd, isCall, sevalprocAttr]
 refine qc (xld _ _ h3) rfl ?_
 obtain ⟨v4, h5, hm0⟩ := bsE hm0
 simp only [e1, xbb, ↓EVd, isCall, sevalprocAttr]
 refine qc (xld _ _ h5) rfl ?_
 obtain ⟨v6, h7, hm0⟩ := bsE hm0
 simp only [e1, xbb, ↓EVd, isCall, sevalprocAttr]
 refine qc (x9g _ _ h7) rfl ?_
 obtain ⟨v8, h9, hm0⟩ := bsE hm0
 simp only [e1, xbb, ↓EVd, isCall, sevalprocAttr]
 refine qcbs (x8f _ _ _ h9) rfl (.cons (.agg (.refl _)) (.cons (.refl _) .nil)) (by simp only [e1, FZ, CLO, xbb, ↓EVd, isCall, sevalprocAttr]; first | done | rfl) ?_
 rcases itbE hm0 with ⟨e11, hm0⟩ | ⟨e11, hm0⟩
 · rcases iteE hm0 with ⟨e13, hm0⟩ | ⟨e13, hm0⟩
   · rcases iteE hm0 with ⟨e15, hm0⟩ | ⟨e15, hm0⟩
     · obtain ⟨v16, h17, hm0⟩ := bsE hm0
       simp only [e1, e11, e13, e15, xbb, ↓EVd, isCall, sevalprocAttr]
       refine qcbs (xcd _ _ h17) rfl (.cons (.agg (.refl _)) .nil) (by simp only [e1, e11, e13, e15, FZ, CLO, xbb, ↓EVd, isCall, sevalprocAttr]; first | done | rfl) ?_
       rcases iteE hm0 with ⟨e19, hm0⟩ | ⟨e19, hm0⟩
       · have e20 : (.agg [int 19, int 3, int (-1), bool false] : AV) = xc (⟨19, 3, (-1), false⟩ : Answer) := _root_.id rfl
         rcases itbE hm0 with ⟨e22, hm0⟩ | ⟨e22, hm0⟩
         · rcases itbE hm0 with ⟨e24, hm0⟩ | ⟨e24, hm0⟩
           · have g29 := And.intro (And.intro (And.intro ((e1)) ((e11))) (And.intro ((e13)) ((e15)))) (And.intro (And.intro ((e19)) ((e20))) (And.intro ((e22)) ((e24))))
             obtain ⟨v25, h26, hm0⟩ := bsE hm0
             simp only [g29, xbb, ↓EVd, isCall, sevalprocAttr]
             refine qc (xyd _ _ h26) rfl ?_
             rcases iteE hm0 with ⟨e28, hm0⟩ | ⟨e28, hm0⟩
             · obtain rfl := Option.some.inj hm0
               simp only [g29, e28, xbb, ↓EVd, isCall, sevalprocAttr]
               all_goals first | done | rfl
             obtain rfl := Option.some.inj hm0
             simp only [g29, e28, xbb, ↓EVd, isCall, sevalprocAttr]
             all_goals first | done | rfl
           obtain rfl := Option.some.inj hm0
           simp only [e1, e11, e13, e15, e19, e20, e22, e24, xbb, ↓EVd, isCall, sevalprocAttr]
           all_goals first | done | rfl
         obtain rfl := Option.some.inj hm0
         simp only [e1, e11, e13, e15, e19, e20, e22, xbb, ↓EVd, isCall, sevalprocAttr]
         all_goals first | done | rfl
       obtain rfl := Option.some.inj hm0
       simp only [e1, e11, e13, e15, e19, xbb, ↓EVd, isCall, sevalprocAttr]
       all_goals first | done | rfl
     obtain rfl := Option.some.inj hm0
     simp only [e1, e11, e13, e15, xbb, ↓EVd, isCall, sevalprocAttr]
     all_goals first | done | rfl
   obtain rfl := Option.some.inj hm0
   simp only [e1, e11, e13, xbb, ↓EVd, isCall, sevalprocAttr]
   all_goals first | done | rfl
 obtain rfl := Option.some.inj hm0
 simp only [e1, e11, xbb, ↓EVd, isCall, sevalprocAttr]
 all_goals first | done | rfl
def x4d (a0 : Answer) (a1 : Script) : Option (Bool) := (xzd a1).bind fun v1 => if (!v1) = true then (xab ).bind fun v5 => some v5
 else (xic a0).bind fun v7 => (xsc a0).bind fun v9 => if v7 = v9 then (xsb a1).bind fun v13 => (xhd a1).bind fun v15 => if v13 = v15 then (xab ).bind fun v19 => some v19
 else some false
 else some false
def xx := aI (aI (@EV) (aI (@R9) (@R36))) (aI (aI (@R39) (@DAnswer)) (aI (@DScript) (@mixed)))
set_option maxHeartbeats 2000000 in
theorem xtv (a0 : Answer) (a1 : Script) (r : Bool) (hm0 : x4d a0 a1 = some r) : Ok Tryd.prog 5 [xc a0, xl a1] (bool r) := by
 unfold x4d at hm0
 refine okG x1k ?_
 unfold x6g
 obtain ⟨v1, h2, hm0⟩ := bsE hm0
 simp only [xx, ↓EVd, isCall, sevalprocAttr]
 refine qc (x8i _ _ h2) rfl ?_
 rcases itbE hm0 with ⟨e4, hm0⟩ | ⟨e4, hm0⟩
 · obtain ⟨v5, h6, hm0⟩ := bsE hm0
   simp only [e4, xx, ↓EVd, isCall, sevalprocAttr]
   refine qc (xrb  _ h6) rfl ?_
   obtain rfl := Option.some.inj hm0
   simp only [e4, xx, ↓EVd, isCall, sevalprocAttr]
   all_goals first | done | rfl
 obtain ⟨v7, h8, hm0⟩ := bsE hm0
 simp only [e4, xx, ↓EVd, isCall, sevalprocAttr]
 refine qd (xyd _ _ h8) rfl ?_
 obtain ⟨v9, h10, hm0⟩ := bsE hm0
 simp only [e4, xx, ↓EVd, isCall, sevalprocAttr]
 refine qd (x2e _ _ h10) rfl ?_
 rcases iteE hm0 with ⟨e12, hm0⟩ | ⟨e12, hm0⟩
 · obtain ⟨v13, h14, hm0⟩ := bsE hm0
   simp only [e4, e12, xx, ↓EVd, isCall, sevalprocAttr]
   refine qd (xcd _ _ h14) rfl ?_
   obtain ⟨v15, h16, hm0⟩ := bsE hm0
   simp only [e4, e12, xx, ↓EVd, isCall, sevalprocAttr]
   refine qd (x1h _ _ h16) rfl ?_
   rcases iteE hm0 with ⟨e18, hm0⟩ | ⟨e18, hm0⟩
   · obtain ⟨v19, h20, hm0⟩ := bsE hm0
     simp only [e4, e12, e18, xx, ↓EVd, isCall, sevalprocAttr]
     refine qd (xrb  _ h20) rfl ?_
     obtain rfl := Option.some.inj hm0
     simp only [e4, e12, e18, xx, ↓EVd, isCall, sevalprocAttr]
     all_goals first | done | rfl
   obtain rfl := Option.some.inj hm0
   simp only [e4, e12, e18, xx, ↓EVd, isCall, sevalprocAttr]
   all_goals first | done | rfl
 obtain rfl := Option.some.inj hm0
 simp only [e4, e12, xx, ↓EVd, isCall, sevalprocAttr]
 all_goals first | done | rfl
def x2d (a0 : ByteArray) : Option (Bool) := if 1000 < (a0.size : Int) then (xab ).bind fun v3 => some v3
 else (x6d a0).bind fun v5 => (x1c a0).bind fun v7 => (x7b a0).bind fun v9 => (x3e a0).bind fun v11 => if (decide (v5.1 = v7.1)) = true then if v5.2 = true then if v7.2 = true then (xuc v9.1 v11.1).bind fun v19 => if v19 = true then if v9.2 = v11.2 then (xic v5.1).bind fun v25 => if v25 = a0 then if v9.2 = 0 then (xsb v9.1).bind fun v31 => if v31 = a0 then (xab ).bind fun v35 => some v35
 else some false
 else (xab ).bind fun v37 => some v37
 else some false
 else some false
 else some false
 else some false
 else if v7.2 = true then some false
 else (xuc v9.1 v11.1).bind fun v41 => if v41 = true then if v9.2 = v11.2 then if v9.2 = 0 then (xsb v9.1).bind fun v49 => if v49 = a0 then (xab ).bind fun v53 => some v53
 else some false
 else (xab ).bind fun v55 => some v55
 else some false
 else some false
 else some false
def xi := aI (aI (aI (@EV) (@R3)) (aI (@R4) (@R9))) (aI (aI (@R36) (@R39)) (aI (@DAnswer) (aI (@DScript) (@eq36))))
set_option maxHeartbeats 2000000 in
theorem xiv (a0 : ByteArray) (r : Bool) (hm0 : x2d a0 = some r) : Ok Tryd.prog 6 [str a0] (bool r) := by
 unfold x2d at hm0
 refine okG xik ?_
 unfold x7g
 rcases iteE hm0 with ⟨e2, hm0⟩ | ⟨e2, hm0⟩
 · obtain ⟨v3, h4, hm0⟩ := bsE hm0
   simp only [e2, xi, ↓EVd, isCall, sevalprocAttr]
   refine qc (xrb  _ h4) rfl ?_
   obtain rfl := Option.some.inj hm0
   simp only [e2, xi, ↓EVd, isCall, sevalprocAttr]
   all_goals first | done | rfl
 obtain ⟨v5, h6, hm0⟩ := bsE hm0
 simp only [e2, xi, ↓EVd, isCall, sevalprocAttr]
 refine qc (x9g _ _ h6) rfl ?_
 obtain ⟨v7, h8, hm0⟩ := bsE hm0
 simp only [e2, xi, ↓EVd, isCall, sevalprocAttr]
 refine qc (x0h _ _ h8) rfl ?_
 obtain ⟨v9, h10, hm0⟩ := bsE hm0
 simp only [e2, xi, ↓EVd, isCall, sevalprocAttr]
 refine qc (xld _ _ h10) rfl ?_
 obtain ⟨v11, h12, hm0⟩ := bsE hm0
 simp only [e2, xi, ↓EVd, isCall, sevalprocAttr]
 refine qc (xvp _ _ h12) rfl ?_
 rcases itbE hm0 with ⟨e14, hm0⟩ | ⟨e14, hm0⟩
 · rcases itbE hm0 with ⟨e16, hm0⟩ | ⟨e16, hm0⟩
   · rcases itbE hm0 with ⟨e18, hm0⟩ | ⟨e18, hm0⟩
     · obtain ⟨v19, h20, hm0⟩ := bsE hm0
       simp only [e2, e14, e16, e18, xi, ↓EVd, isCall, sevalprocAttr]
       refine qc (x8f _ _ _ h20) rfl ?_
       rcases itbE hm0 with ⟨e22, hm0⟩ | ⟨e22, hm0⟩
       · rcases iteE hm0 with ⟨e24, hm0⟩ | ⟨e24, hm0⟩
         · obtain ⟨v25, h26, hm0⟩ := bsE hm0
           simp only [e2, e14, e16, e18, e22, e24, xi, ↓EVd, isCall, sevalprocAttr]
           refine qc (xyd _ _ h26) rfl ?_
           rcases iteE hm0 with ⟨e28, hm0⟩ | ⟨e28, hm0⟩
           · rcases iteE hm0 with ⟨e30, hm0⟩ | ⟨e30, hm0⟩
             · have g57 := And.intro (And.intro (And.intro ((e2)) ((e14))) (And.intro ((e16)) ((e18)))) (And.intro (And.intro ((e22)) ((e24))) (And.intro ((e28)) ((e30))))
               obtain ⟨v31, h32, hm0⟩ := bsE hm0
               simp only [g57, xi, ↓EVd, isCall, sevalprocAttr]
               refine qc (xcd _ _ h32) rfl ?_
               rcases iteE hm0 with ⟨e34, hm0⟩ | ⟨e34, hm0⟩
               · obtain ⟨v35, h36, hm0⟩ := bsE hm0
                 simp only [g57, e34, xi, ↓EVd, isCall, sevalprocAttr]
                 refine qc (xrb  _ h36) rfl ?_
                 obtain rfl := Option.some.inj hm0
                 simp only [g57, e34, xi, ↓EVd, isCall, sevalprocAttr]
                 all_goals first | done | rfl
               obtain rfl := Option.some.inj hm0
               simp only [g57, e34, xi, ↓EVd, isCall, sevalprocAttr]
               all_goals first | done | rfl
             have g58 := And.intro (And.intro (And.intro ((e2)) ((e14))) (And.intro ((e16)) ((e18)))) (And.intro (And.intro ((e22)) ((e24))) (And.intro ((e28)) ((e30))))
             obtain ⟨v37, h38, hm0⟩ := bsE hm0
             simp only [g58, xi, ↓EVd, isCall, sevalprocAttr]
             refine qc (xrb  _ h38) rfl ?_
             obtain rfl := Option.some.inj hm0
             simp only [g58, xi, ↓EVd, isCall, sevalprocAttr]
             all_goals first | done | rfl
           obtain rfl := Option.some.inj hm0
           simp only [e2, e14, e16, e18, e22, e24, e28, xi, ↓EVd, isCall, sevalprocAttr]
           all_goals first | done | rfl
         obtain rfl := Option.some.inj hm0
         simp only [e2, e14, e16, e18, e22, e24, xi, ↓EVd, isCall, sevalprocAttr]
         all_goals first | done | rfl
       obtain rfl := Option.some.inj hm0
       simp only [e2, e14, e16, e18, e22, xi, ↓EVd, isCall, sevalprocAttr]
       all_goals first | done | rfl
     obtain rfl := Option.some.inj hm0
     simp only [e2, e14, e16, e18, xi, ↓EVd, isCall, sevalprocAttr]
     all_goals first | done | rfl
   rcases itbE hm0 with ⟨e40, hm0⟩ | ⟨e40, hm0⟩
   · obtain rfl := Option.some.inj hm0
     simp only [e2, e14, e16, e40, xi, ↓EVd, isCall, sevalprocAttr]
     all_goals first | done | rfl
   obtain ⟨v41, h42, hm0⟩ := bsE hm0
   simp only [e2, e14, e16, e40, xi, ↓EVd, isCall, sevalprocAttr]
   refine qc (x8f _ _ _ h42) rfl ?_
   rcases itbE hm0 with ⟨e44, hm0⟩ | ⟨e44, hm0⟩
   · rcases iteE hm0 with ⟨e46, hm0⟩ | ⟨e46, hm0⟩
     · rcases iteE hm0 with ⟨e48, hm0⟩ | ⟨e48, hm0⟩
       · obtain ⟨v49, h50, hm0⟩ := bsE hm0
         simp only [e2, e14, e16, e40, e44, e46, e48, xi, ↓EVd, isCall, sevalprocAttr]
         refine qc (xcd _ _ h50) rfl ?_
         rcases iteE hm0 with ⟨e52, hm0⟩ | ⟨e52, hm0⟩
         · have g59 := And.intro (And.intro (And.intro ((e2)) ((e14))) (And.intro ((e16)) ((e40)))) (And.intro (And.intro ((e44)) ((e46))) (And.intro ((e48)) ((e52))))
           obtain ⟨v53, h54, hm0⟩ := bsE hm0
           simp only [g59, xi, ↓EVd, isCall, sevalprocAttr]
           refine qc (xrb  _ h54) rfl ?_
           obtain rfl := Option.some.inj hm0
           simp only [g59, xi, ↓EVd, isCall, sevalprocAttr]
           all_goals first | done | rfl
         obtain rfl := Option.some.inj hm0
         simp only [e2, e14, e16, e40, e44, e46, e48, e52, xi, ↓EVd, isCall, sevalprocAttr]
         all_goals first | done | rfl
       obtain ⟨v55, h56, hm0⟩ := bsE hm0
       simp only [e2, e14, e16, e40, e44, e46, e48, xi, ↓EVd, isCall, sevalprocAttr]
       refine qc (xrb  _ h56) rfl ?_
       obtain rfl := Option.some.inj hm0
       simp only [e2, e14, e16, e40, e44, e46, e48, xi, ↓EVd, isCall, sevalprocAttr]
       all_goals first | done | rfl
     obtain rfl := Option.some.inj hm0
     simp only [e2, e14, e16, e40, e44, e46, xi, ↓EVd, isCall, sevalprocAttr]
     all_goals first | done | rfl
   obtain rfl := Option.some.inj hm0
   simp only [e2, e14, e16, e40, e44, xi, ↓EVd, isCall, sevalprocAttr]
   all_goals first | done | rfl
 obtain rfl := Option.some.inj hm0
 simp only [e2, e14, xi, ↓EVd, isCall, sevalprocAttr]
 all_goals first | done | rfl
def xdc (a0 : Script) : (Bool × Int) → Option (St (Bool × Int) (Bool))
 | (v12, v13) => if v13 < (a0.answers.length : Int) then (ix a0.answers v13).bind fun v18 => if v12 = true then if 1 ≤ v18.clause then if v18.clause ≤ 23 then some (.nx (true, (wr (v13 + 1))))
 else some (.nx (false, (wr (v13 + 1))))
 else some (.nx (false, (wr (v13 + 1))))
 else some (.nx (false, (wr (v13 + 1))))
 else some (.out v12)
def xbc (a0 : Script) : Int → Option (St (Int) (Unit))
 | v46 => if v46 < (a0.answers.length : Int) then (ix a0.answers v46).bind fun v50 => some (.nx (wr (v46 + 1)))
 else some (.out ())
def xte (a0 : Script) : Int → Option (St (Int) (Unit))
 | v62 => if v62 < (a0.answers.length : Int) then (ix a0.answers v62).bind fun v66 => some (.nx (wr (v62 + 1)))
 else some (.out ())
def xde (a0 : Script) : Option (Bool) := (xzd a0).bind fun v1 => if (!v1) = true then (xab ).bind fun v5 => some v5
 else if 0 ≤ a0.mode then if a0.mode ≤ 2 then (iter (xdc a0) big (true, 0)).bind fun o => (match o with
 | v15 => (xsb a0).bind fun v27 => (x7b v27).bind fun v29 => if v29.2 = 0 then if v15 = true then (xuc a0 v29.1).bind fun v35 => if v35 = true then (xab ).bind fun v39 => some v39
 else some false
 else some false
 else if v15 = true then some false
 else (xab ).bind fun v43 => some v43)
 else (iter (xbc a0) big 0).bind fun o => (match o with
 | _ => (xsb a0).bind fun v53 => (x7b v53).bind fun v55 => if v55.2 = 0 then some false
 else (xab ).bind fun v59 => some v59)
 else (iter (xte a0) big 0).bind fun o => (match o with
 | _ => (xsb a0).bind fun v69 => (x7b v69).bind fun v71 => if v71.2 = 0 then some false
 else (xab ).bind fun v75 => some v75)
def xb := aI (aI (aI (@EV) (@R3)) (aI (@R4) (@R9))) (aI (aI (@R36) (@R37)) (aI (@R39) (aI (@DAnswer) (@DScript))))
set_option maxHeartbeats 2000000 in
theorem x9v (a0 : Script) (r : Bool) (hm0 : xde a0 = some r) : Ok Tryd.prog 7 [xl a0] (bool r) := by
 unfold xde at hm0
 refine okG xul ?_
 unfold xzh
 obtain ⟨v1, h2, hm0⟩ := bsE hm0
 simp only [xb, ↓EVd, isCall, sevalprocAttr]
 refine qc (x8i _ _ h2) rfl ?_
 rcases itbE hm0 with ⟨e4, hm0⟩ | ⟨e4, hm0⟩
 · obtain ⟨v5, h6, hm0⟩ := bsE hm0
   simp only [e4, xb, ↓EVd, isCall, sevalprocAttr]
   refine qc (xrb  _ h6) rfl ?_
   obtain rfl := Option.some.inj hm0
   simp only [e4, xb, ↓EVd, isCall, sevalprocAttr]
   all_goals first | done | rfl
 rcases iteE hm0 with ⟨e8, hm0⟩ | ⟨e8, hm0⟩
 · rcases iteE hm0 with ⟨e10, hm0⟩ | ⟨e10, hm0⟩
   · obtain ⟨o0, ho0, hm0⟩ := bsE hm0
     simp only [e4, e8, e10, xb, ↓EVd, isCall, sevalprocAttr]
     refine cwp_cx 0 (fun s => ∃ v15 : Bool, (s.T 1 = .loc 0 3 0 0 ∧ s.T 3 = bool v15 ∧ s.H 0 = some (.row 39 3 [xl a0]) ∧ Lq 0 s.nx) ∧ v15 = o0) ?_ fun J0_0 hJ0_0 => ?_
     · rintro T0 H0 x14 ⟨v15, kk0_0, rfl⟩
       dsimp only [Lq, Nq] at kk0_0
       try dsimp only at hm0
       obtain ⟨v27, h28, hm0⟩ := bsE hm0
       simp only [kk0_0, e4, e8, e10, xb, ↓EVd, isCall, sevalprocAttr]
       refine qc (xcd _ _ h28) rfl ?_
       obtain ⟨v29, h30, hm0⟩ := bsE hm0
       simp only [kk0_0, e4, e8, e10, xb, ↓EVd, isCall, sevalprocAttr]
       refine qc (xld _ _ h30) rfl ?_
       rcases iteE hm0 with ⟨e32, hm0⟩ | ⟨e32, hm0⟩
       · rcases itbE hm0 with ⟨e34, hm0⟩ | ⟨e34, hm0⟩
         · obtain ⟨v35, h36, hm0⟩ := bsE hm0
           simp only [kk0_0, e4, e8, e10, e32, e34, xb, ↓EVd, isCall, sevalprocAttr]
           refine qc (x8f _ _ _ h36) rfl ?_
           rcases itbE hm0 with ⟨e38, hm0⟩ | ⟨e38, hm0⟩
           · obtain ⟨v39, h40, hm0⟩ := bsE hm0
             simp only [kk0_0, e4, e8, e10, e32, e34, e38, xb, ↓EVd, isCall, sevalprocAttr]
             refine qc (xrb  _ h40) rfl ?_
             obtain rfl := Option.some.inj hm0
             simp only [kk0_0, e4, e8, e10, e32, e34, e38, xb, ↓EVd, isCall, sevalprocAttr]
             all_goals first | done | rfl
           obtain rfl := Option.some.inj hm0
           simp only [kk0_0, e4, e8, e10, e32, e34, e38, xb, ↓EVd, isCall, sevalprocAttr]
           all_goals first | done | rfl
         obtain rfl := Option.some.inj hm0
         simp only [kk0_0, e4, e8, e10, e32, e34, xb, ↓EVd, isCall, sevalprocAttr]
         all_goals first | done | rfl
       rcases itbE hm0 with ⟨e42, hm0⟩ | ⟨e42, hm0⟩
       · obtain rfl := Option.some.inj hm0
         simp only [kk0_0, e4, e8, e10, e32, e42, xb, ↓EVd, isCall, sevalprocAttr]
         all_goals first | done | rfl
       obtain ⟨v43, h44, hm0⟩ := bsE hm0
       simp only [kk0_0, e4, e8, e10, e32, e42, xb, ↓EVd, isCall, sevalprocAttr]
       refine qc (xrb  _ h44) rfl ?_
       obtain rfl := Option.some.inj hm0
       simp only [kk0_0, e4, e8, e10, e32, e42, xb, ↓EVd, isCall, sevalprocAttr]
       all_goals first | done | rfl
     refine cwp_lp ho0 (fun (v12, v13) s => s.T 1 = .loc 0 3 0 0 ∧ s.T 3 = bool v12 ∧ s.T 21 = .sl 4 (a0.answers.map xc) ∧ s.T 22 = int (a0.answers.length : Int) ∧ s.T 23 = int v13 ∧ s.H 0 = some (.row 39 3 [xl a0]) ∧ Lq 0 s.nx) ?_ ?_
     · refine TI.here ⟨?_, ?_, ?_, ?_, ?_, ?_, ?_⟩
       all_goals try simp only [e4, e8, e10, xb, ↓EVd, isCall, sevalprocAttr]
       all_goals first | omega | exact lq (by omega) | exact nq (by omega) | rfl | (congr 1; omega)
     rintro I0 ⟨v12, v13⟩ T0 H0 x11 st0 kk0 hm1 hI0 hO0
     dsimp only [Lq, Nq] at kk0
     simp only [xdc] at hm1
     rcases iteE hm1 with ⟨e17, hm1⟩ | ⟨e17, hm1⟩
     · obtain ⟨v18, e20, hm1⟩ := ixE xc hm1
       rcases itbE hm1 with ⟨e22, hm1⟩ | ⟨e22, hm1⟩
       · rcases iteE hm1 with ⟨e24, hm1⟩ | ⟨e24, hm1⟩
         · rcases iteE hm1 with ⟨e26, hm1⟩ | ⟨e26, hm1⟩
           · obtain rfl := Option.some.inj hm1
             simp only [kk0, e4, e8, e10, e17, e20, e22, e24, e26, xb, ↓EVd, isCall, sevalprocAttr]
             refine TI.here (hI0 _ rfl _ ⟨?_, ?_, ?_, ?_, ?_, ?_, ?_⟩)
             all_goals try simp only [kk0, e4, e8, e10, e17, e20, e22, e24, e26, xb, ↓EVd, isCall, sevalprocAttr]
             all_goals first | omega | exact lq (by omega) | exact nq (by omega) | rfl | (congr 1; omega)
           obtain rfl := Option.some.inj hm1
           simp only [kk0, e4, e8, e10, e17, e20, e22, e24, e26, xb, ↓EVd, isCall, sevalprocAttr]
           refine TI.here (hI0 _ rfl _ ⟨?_, ?_, ?_, ?_, ?_, ?_, ?_⟩)
           all_goals try simp only [kk0, e4, e8, e10, e17, e20, e22, e24, e26, xb, ↓EVd, isCall, sevalprocAttr]
           all_goals first | omega | exact lq (by omega) | exact nq (by omega) | rfl | (congr 1; omega)
         obtain rfl := Option.some.inj hm1
         simp only [kk0, e4, e8, e10, e17, e20, e22, e24, xb, ↓EVd, isCall, sevalprocAttr]
         refine TI.here (hI0 _ rfl _ ⟨?_, ?_, ?_, ?_, ?_, ?_, ?_⟩)
         all_goals try simp only [kk0, e4, e8, e10, e17, e20, e22, e24, xb, ↓EVd, isCall, sevalprocAttr]
         all_goals first | omega | exact lq (by omega) | exact nq (by omega) | rfl | (congr 1; omega)
       obtain rfl := Option.some.inj hm1
       simp only [kk0, e4, e8, e10, e17, e20, e22, xb, ↓EVd, isCall, sevalprocAttr]
       refine TI.here (hI0 _ rfl _ ⟨?_, ?_, ?_, ?_, ?_, ?_, ?_⟩)
       all_goals try simp only [kk0, e4, e8, e10, e17, e20, e22, xb, ↓EVd, isCall, sevalprocAttr]
       all_goals first | omega | exact lq (by omega) | exact nq (by omega) | rfl | (congr 1; omega)
     obtain rfl := Option.some.inj hm1
     simp only [kk0, e4, e8, e10, e17, xb, ↓EVd, isCall, sevalprocAttr]
     refine TI.here (hJ0_0 _ ⟨v12, ⟨?_, ?_, ?_, ?_⟩, hO0 _ rfl⟩)
     all_goals try simp only [kk0, e4, e8, e10, e17, xb, ↓EVd, isCall, sevalprocAttr]
     all_goals first | omega | exact lq (by omega) | exact nq (by omega) | rfl | (congr 1; omega)
   obtain ⟨o1, ho1, hm0⟩ := bsE hm0
   simp only [e4, e8, e10, xb, ↓EVd, isCall, sevalprocAttr]
   refine cwp_cx 0 (fun s => (s.T 1 = .loc 0 3 0 0 ∧ s.T 3 = bool false ∧ s.H 0 = some (.row 39 3 [xl a0]) ∧ Lq 0 s.nx) ∧ () = o1) ?_ fun J1_0 hJ1_0 => ?_
   · rintro T1 H1 x47 ⟨kk1_0, rfl⟩
     dsimp only [Lq, Nq] at kk1_0
     try dsimp only at hm0
     obtain ⟨v53, h54, hm0⟩ := bsE hm0
     simp only [kk1_0, e4, e8, e10, xb, ↓EVd, isCall, sevalprocAttr]
     refine qc (xcd _ _ h54) rfl ?_
     obtain ⟨v55, h56, hm0⟩ := bsE hm0
     simp only [kk1_0, e4, e8, e10, xb, ↓EVd, isCall, sevalprocAttr]
     refine qc (xld _ _ h56) rfl ?_
     rcases iteE hm0 with ⟨e58, hm0⟩ | ⟨e58, hm0⟩
     · obtain rfl := Option.some.inj hm0
       simp only [kk1_0, e4, e8, e10, e58, xb, ↓EVd, isCall, sevalprocAttr]
       all_goals first | done | rfl
     obtain ⟨v59, h60, hm0⟩ := bsE hm0
     simp only [kk1_0, e4, e8, e10, e58, xb, ↓EVd, isCall, sevalprocAttr]
     refine qc (xrb  _ h60) rfl ?_
     obtain rfl := Option.some.inj hm0
     simp only [kk1_0, e4, e8, e10, e58, xb, ↓EVd, isCall, sevalprocAttr]
     all_goals first | done | rfl
   refine cwp_lp ho1 (fun v46 s => s.T 1 = .loc 0 3 0 0 ∧ s.T 3 = bool false ∧ s.T 21 = .sl 4 (a0.answers.map xc) ∧ s.T 22 = int (a0.answers.length : Int) ∧ s.T 23 = int v46 ∧ s.H 0 = some (.row 39 3 [xl a0]) ∧ Lq 0 s.nx) ?_ ?_
   · refine TI.here ⟨?_, ?_, ?_, ?_, ?_, ?_, ?_⟩
     all_goals try simp only [e4, e8, e10, xb, ↓EVd, isCall, sevalprocAttr]
     all_goals first | omega | exact lq (by omega) | exact nq (by omega) | rfl | (congr 1; omega)
   rintro I1 v46 T1 H1 x45 st1 kk1 hm1 hI1 hO1
   dsimp only [Lq, Nq] at kk1
   simp only [xbc] at hm1
   rcases iteE hm1 with ⟨e49, hm1⟩ | ⟨e49, hm1⟩
   · obtain ⟨v50, e52, hm1⟩ := ixE xc hm1
     obtain rfl := Option.some.inj hm1
     simp only [kk1, e4, e8, e10, e49, e52, xb, ↓EVd, isCall, sevalprocAttr]
     refine TI.here (hI1 _ rfl _ ⟨?_, ?_, ?_, ?_, ?_, ?_, ?_⟩)
     all_goals try simp only [kk1, e4, e8, e10, e49, e52, xb, ↓EVd, isCall, sevalprocAttr]
     all_goals first | omega | exact lq (by omega) | exact nq (by omega) | rfl | (congr 1; omega)
   obtain rfl := Option.some.inj hm1
   simp only [kk1, e4, e8, e10, e49, xb, ↓EVd, isCall, sevalprocAttr]
   refine TI.here (hJ1_0 _ ⟨⟨?_, ?_, ?_, ?_⟩, hO1 _ rfl⟩)
   all_goals try simp only [kk1, e4, e8, e10, e49, xb, ↓EVd, isCall, sevalprocAttr]
   all_goals first | omega | exact lq (by omega) | exact nq (by omega) | rfl | (congr 1; omega)
 obtain ⟨o2, ho2, hm0⟩ := bsE hm0
 simp only [e4, e8, xb, ↓EVd, isCall, sevalprocAttr]
 refine cwp_cx 0 (fun s => (s.T 1 = .loc 0 3 0 0 ∧ s.T 3 = bool false ∧ s.H 0 = some (.row 39 3 [xl a0]) ∧ Lq 0 s.nx) ∧ () = o2) ?_ fun J2_0 hJ2_0 => ?_
 · rintro T2 H2 x63 ⟨kk2_0, rfl⟩
   dsimp only [Lq, Nq] at kk2_0
   try dsimp only at hm0
   obtain ⟨v69, h70, hm0⟩ := bsE hm0
   simp only [kk2_0, e4, e8, xb, ↓EVd, isCall, sevalprocAttr]
   refine qc (xcd _ _ h70) rfl ?_
   obtain ⟨v71, h72, hm0⟩ := bsE hm0
   simp only [kk2_0, e4, e8, xb, ↓EVd, isCall, sevalprocAttr]
   refine qc (xld _ _ h72) rfl ?_
   rcases iteE hm0 with ⟨e74, hm0⟩ | ⟨e74, hm0⟩
   · obtain rfl := Option.some.inj hm0
     simp only [kk2_0, e4, e8, e74, xb, ↓EVd, isCall, sevalprocAttr]
     all_goals first | done | rfl
   obtain ⟨v75, h76, hm0⟩ := bsE hm0
   simp only [kk2_0, e4, e8, e74, xb, ↓EVd, isCall, sevalprocAttr]
   refine qc (xrb  _ h76) rfl ?_
   obtain rfl := Option.some.inj hm0
   simp only [kk2_0, e4, e8, e74, xb, ↓EVd, isCall, sevalprocAttr]
   all_goals first | done | rfl
 refine cwp_lp ho2 (fun v62 s => s.T 1 = .loc 0 3 0 0 ∧ s.T 3 = bool false ∧ s.T 21 = .sl 4 (a0.answers.map xc) ∧ s.T 22 = int (a0.answers.length : Int) ∧ s.T 23 = int v62 ∧ s.H 0 = some (.row 39 3 [xl a0]) ∧ Lq 0 s.nx) ?_ ?_
 · refine TI.here ⟨?_, ?_, ?_, ?_, ?_, ?_, ?_⟩
   all_goals try simp only [e4, e8, xb, ↓EVd, isCall, sevalprocAttr]
   all_goals first | omega | exact lq (by omega) | exact nq (by omega) | rfl | (congr 1; omega)
 rintro I2 v62 T2 H2 x61 st2 kk2 hm1 hI2 hO2
 dsimp only [Lq, Nq] at kk2
 simp only [xte] at hm1
 rcases iteE hm1 with ⟨e65, hm1⟩ | ⟨e65, hm1⟩
 · obtain ⟨v66, e68, hm1⟩ := ixE xc hm1
   obtain rfl := Option.some.inj hm1
   simp only [kk2, e4, e8, e65, e68, xb, ↓EVd, isCall, sevalprocAttr]
   refine TI.here (hI2 _ rfl _ ⟨?_, ?_, ?_, ?_, ?_, ?_, ?_⟩)
   all_goals try simp only [kk2, e4, e8, e65, e68, xb, ↓EVd, isCall, sevalprocAttr]
   all_goals first | omega | exact lq (by omega) | exact nq (by omega) | rfl | (congr 1; omega)
 obtain rfl := Option.some.inj hm1
 simp only [kk2, e4, e8, e65, xb, ↓EVd, isCall, sevalprocAttr]
 refine TI.here (hJ2_0 _ ⟨⟨?_, ?_, ?_, ?_⟩, hO2 _ rfl⟩)
 all_goals try simp only [kk2, e4, e8, e65, xb, ↓EVd, isCall, sevalprocAttr]
 all_goals first | omega | exact lq (by omega) | exact nq (by omega) | rfl | (congr 1; omega)
end Go.Proofs.YtjmnoaoeediodaaDoor.AL

/- Plain laws of chapter 43: the document's script of a text, and the laws. -/
set_option linter.all false
namespace Go.Proofs.YtjmnoaoeediodaaDoor.AL
open Go Go.Proofs Go.Lib
def modeN (w : List UInt8) : Int := if w = modeL 2 then 2 else if w = modeL 1 then 1 else 0
theorem xwr (w : List UInt8) : 0 ≤ modeN w ∧ modeN w ≤ 2 := by
  unfold modeN
  split
  · exact ⟨by decide, by decide⟩
  · split <;> exact ⟨by decide, by decide⟩
theorem xgt {m : Int} (h0 : 0 ≤ m) (h2 : m ≤ 2) : modeN (modeL m) = m := by
  have : m = 0 ∨ m = 1 ∨ m = 2 := by omega
  rcases this with rfl | rfl | rfl <;> rfl
theorem x4s {B : (Int × Int) → Option (St (Int × Int) Int)} (w : List UInt8) (hB : ∀ i m, B (i, m) = if i ≤ 2 then (x5c i).bind fun v => if v = bB w then some (.nx ((wr (i + 1)), i)) else some (.nx ((wr (i + 1)), m)) else some (.out m)) :
    iter B big (0, 0) = some (modeN w) := by
  obtain ⟨K, hK⟩ : ∃ K, big = K + 1 + 1 + 1 + 1 := ⟨999999999999999996, by unfold big; omega⟩
  have k : ∀ i : Int, i ≤ 2 → ∀ m, B (i, m) = some (.nx (wr (i + 1), if w = modeL i then i else m)) := by
    intro i hi m
    rw [hB, if_pos hi, xto]
    simp only [Option.bind_some, bB_iff]
    by_cases e : modeL i = w
    · rw [if_pos e, if_pos e.symm]
    · rw [if_neg e, if_neg (fun h => e h.symm)]
  rw [hK, xt, k 0 (by decide)]
  simp only [Option.bind_some]
  rw [show wr (0 + 1) = 1 from rfl, xt, k 1 (by decide)]
  simp only [Option.bind_some]
  rw [show wr (1 + 1) = 2 from rfl, xt, k 2 (by decide)]
  simp only [Option.bind_some]
  rw [show wr (2 + 1) = 3 from rfl, xt, hB, if_neg (by decide)]
  simp only [Option.bind_some]
  unfold modeN
  by_cases h2 : w = modeL 2
  · rw [if_pos h2, if_pos h2]
  · rw [if_neg h2, if_neg h2]
    by_cases h1 : w = modeL 1
    · rw [if_pos h1, if_pos h1]
    · rw [if_neg h1, if_neg h1]
      split <;> rfl
def rowsOf (l : List Answer) : List UInt8 := (l.map rowL).flatten
theorem nl_inj {t t' r r' : List UInt8} (h : (10 : UInt8) ∉ t) (h' : (10 : UInt8) ∉ t') (e : t ++ 10 :: r = t' ++ 10 :: r') : t = t' ∧ r = r' := by
  have h1 := xam r h
  rw [e, xam r' h'] at h1
  injection h1 with e1 e2
  exact ⟨(List.append_cancel_right e1).symm, e2.symm⟩
theorem x1n : ∀ l : List Answer, l.length ≤ (rowsOf l).length
  | [] => by simp
  | a :: l => by
    have := x1n l
    unfold rowsOf at this ⊢
    rw [xve]
    simp only [List.length_append, List.length_cons]
    omega
theorem xrq {a : Answer} {l : List Answer} {t r : List UInt8} (ht : (10 : UInt8) ∉ t) (e : t ++ 10 :: r = rowsOf (a :: l)) : t = lineL a ∧ r = rowsOf l := by
  unfold rowsOf at e
  rw [xve] at e
  exact nl_inj ht (xhi a) e
theorem xnu {B : (ByteArray × List Answer) → Option (St (ByteArray × List Answer) ((List Answer) ⊕ (Script × Int)))}
    (hB : ∀ v23 v25, B (v23, v25) = if 0 < (v23.size : Int) then (xpb v23 10).bind fun v31 => (x1c v31.1).bind fun v33 => if (!v31.2.2) = true then some (.out (.inr ((⟨0, [], false⟩ : Script), 2)))
      else if (!v33.2) = true then some (.out (.inr ((⟨0, [], false⟩ : Script), 2)))
      else (ap 32 v25 ([v33.1] : List Answer)).bind fun _ => some (.nx (v31.2.1, (v25 ++ ([v33.1] : List Answer))))
      else some (.out (.inl v25))) :
    ∀ (f : Nat) (r : List UInt8) (acc : List Answer), r.length < f → r.length + acc.length ≤ 100000 → ∃ o, iter B f (bB r, acc) = some o ∧ ((∃ l : List Answer, (∀ a ∈ l, FA a) ∧ r = rowsOf l ∧ o = .inl (acc ++ l)) ∨ (o = .inr (zeroX, 2) ∧ ∀ l : List Answer, (∀ a ∈ l, FA a) → r ≠ rowsOf l))
  | 0, r, acc, h, _ => absurd h (by omega)
  | f + 1, r, acc, hf, hb => by
    rw [xt, hB]
    by_cases h0 : r = []
    · subst h0
      rw [if_neg (by rw [xh]; simp)]
      exact ⟨_, rfl, .inl ⟨[], by simp, rfl, by simp⟩⟩
    · have hpos : 0 < r.length := List.length_pos_iff.2 h0
      have k10 : ((10 : UInt8).toNat : Int) = 10 := rfl
      have q1 := x8d (s := r) (by omega) 10
      rw [k10] at q1
      rw [if_pos (by rw [xh]; omega), q1]
      simp only [Option.bind_some]
      have hc := xjg r 10
      rw [xwn (by omega)]
      simp only [Option.bind_some]
      rcases xzi r with hn | ⟨t, r', rfl, hn⟩
      · rw [xhj hn]
        simp only [Bool.not_false, if_true]
        refine ⟨_, rfl, .inr ⟨rfl, fun l hl e => ?_⟩⟩
        cases l with
        | nil => exact h0 e
        | cons a l =>
          apply hn
          rw [e]
          unfold rowsOf
          rw [xve]
          simp
      · rw [xrd r' hn]
        simp only [Bool.not_true, Bool.false_eq_true, if_false]
        rcases xmh t with e | ⟨a, ha, rfl, e⟩
        · rw [e]
          simp only [Bool.not_false, if_true]
          refine ⟨_, rfl, .inr ⟨rfl, fun l hl he => ?_⟩⟩
          cases l with
          | nil => simp [rowsOf] at he
          | cons a l =>
            obtain ⟨rfl, _⟩ := xrq hn he
            rw [x0g (hl a (by simp))] at e
            exact absurd (congrArg Prod.snd e) (by simp)
        · rw [e]
          simp only [Bool.not_true, Bool.false_eq_true, if_false]
          simp only [List.length_append, List.length_cons] at hf hb
          rw [ap_of (by simp only [List.length_cons, List.length_nil]; omega) (by decide)]
          simp only [Option.bind_some]
          obtain ⟨o, h1, h2⟩ := xnu hB f r' (acc ++ [a]) (by omega) (by simp only [List.length_append, List.length_cons, List.length_nil]; omega)
          refine ⟨o, h1, ?_⟩
          rcases h2 with ⟨l, hl, rfl, rfl⟩ | ⟨rfl, h2⟩
          · refine .inl ⟨a :: l, fun b hb => ?_, ?_, by simp⟩
            · simp only [List.mem_cons] at hb
              rcases hb with rfl | hb
              · exact ha
              · exact hl b hb
            · unfold rowsOf
              rw [xve]
          · refine .inr ⟨rfl, fun l hl he => ?_⟩
            cases l with
            | nil => simp [rowsOf] at he
            | cons b l => exact h2 l (fun c hc => hl c (by simp [hc])) (xrq hn he).2
theorem xms : ∀ r : List UInt8, (32 : UInt8) ∉ r ∨ ∃ t r', r = t ++ 32 :: r' ∧ (32 : UInt8) ∉ t
  | [] => .inl (by simp)
  | b :: r => by
    by_cases hb : b = 32
    · exact .inr ⟨[], r, by rw [hb]; rfl, by simp⟩
    · rcases xms r with h | ⟨t, r', rfl, h⟩
      · exact .inl (by simp only [List.mem_cons, not_or]; exact ⟨fun e => hb e.symm, h⟩)
      · exact .inr ⟨b :: t, r', rfl, by simp only [List.mem_cons, not_or]; exact ⟨fun e => hb e.symm, h⟩⟩
theorem xji {s : List UInt8} (h : ∀ x, Good x → s ≠ textS x) : parseT s = (zeroX, 2) := by
  rcases xnj s with e | ⟨x, hx, e, _⟩
  · exact e
  · exact absurd e (h x hx)
theorem hd_sp (m : Int) (d : Bool) : cutR (hd m d) 32 = (modeL m, ynL d, true) := by
  unfold hd
  refine xrd _ ?_
  unfold modeL
  split
  · decide
  · split
    · decide
    · split <;> decide
theorem x2t {s : List UInt8} (hs : s.length ≤ 1000) : x3e (bB s) = some (parseT s) := by
  unfold x3e
  have k32 : ((32 : UInt8).toNat : Int) = 32 := rfl
  have k10 : ((10 : UInt8).toNat : Int) = 10 := rfl
  have l1 := xjg s 10
  have q1 := x8d (s := s) (by omega) 10
  have q2 := x8d (s := (cutR s 10).1) (by omega) 32
  rw [k10] at q1
  rw [k32] at q2
  rw [q1]
  simp only [Option.bind_some]
  rw [q2]
  simp only [Option.bind_some]
  have m0 : iter (xfg (bB (cutR (cutR s 10).1 32).1, bB (cutR (cutR s 10).1 32).2.1, (cutR (cutR s 10).1 32).2.2)) big (0, 0) = some (modeN (cutR (cutR s 10).1 32).1) := x4s _ (fun _ _ => rfl)
  have m2 : iter (xhg (bB (cutR (cutR s 10).1 32).1, bB (cutR (cutR s 10).1 32).2.1, (cutR (cutR s 10).1 32).2.2)) big (0, 0) = some (modeN (cutR (cutR s 10).1 32).1) := x4s _ (fun _ _ => rfl)
  have ey : ByteArray.mk #[121, 101, 115] = bB [121, 101, 115] := rfl
  rw [m0, m2]
  simp only [Option.bind_some, ey, bB_iff]
  have big1 : s.length < big := by rw [big_eq]; omega
  rcases xzi s with hn | ⟨t, r, rfl, hn⟩
  · rw [xhj hn]
    rw [xji (fun x _ e => hn (by rw [e, xqd]; simp))]
    simp only [Bool.not_false, if_true]
    split <;> rfl
  · rw [xrd r hn]
    simp only [Bool.not_true, Bool.false_eq_true, if_false]
    rcases xms t with hsp | ⟨w, d, rfl, hsp⟩
    · rw [xhj hsp]
      rw [xji (fun x _ e => by
        rw [xqd] at e
        have := (nl_inj hn (x5j _ _) e).1
        apply hsp
        rw [this]
        unfold hd
        simp)]
      simp only [Bool.not_false, if_true]
      split <;> rfl
    · rw [xrd d hsp]
      simp only [Bool.not_true, Bool.false_eq_true, if_false]
      simp only [List.length_append, List.length_cons] at hs big1
      have fin : ∀ (y : Bool) (B : (ByteArray × List Answer) → Option (St (ByteArray × List Answer) ((List Answer) ⊕ (Script × Int)))), (y = true ↔ d = [121, 101, 115]) →
          (∀ v23 v25, B (v23, v25) = if 0 < (v23.size : Int) then (xpb v23 10).bind fun v31 => (x1c v31.1).bind fun v33 => if (!v31.2.2) = true then some (.out (.inr ((⟨0, [], false⟩ : Script), 2)))
            else if (!v33.2) = true then some (.out (.inr ((⟨0, [], false⟩ : Script), 2)))
            else (ap 32 v25 ([v33.1] : List Answer)).bind fun _ => some (.nx (v31.2.1, (v25 ++ ([v33.1] : List Answer))))
            else some (.out (.inl v25))) →
          ((iter B big (bB r, [])).bind fun o => (match o with
            | (.inl v28) => (xhd (⟨modeN w, v28, y⟩ : Script)).bind fun v43 => if v43 = bB (w ++ 32 :: d ++ 10 :: r) then some ((⟨modeN w, v28, y⟩ : Script), 0)
              else some ((⟨0, [], false⟩ : Script), 2)
            | (.inr r) => some r)) = some (parseT (w ++ 32 :: d ++ 10 :: r)) := by
        intro y B hy hB
        obtain ⟨o, h1, h2⟩ := xnu hB big r [] (by omega) (by simp; omega)
        rw [h1]
        simp only [Option.bind_some]
        rcases h2 with ⟨l, hl, rfl, rfl⟩ | ⟨rfl, h2⟩
        · simp only [List.nil_append]
          have hlen := x1n l
          rw [xzn (x := ⟨modeN w, l, y⟩) (by simp only; omega) (fun a ha => (hl a ha).a64)]
          simp only [Option.bind_some, bB_iff]
          have hg : Good ⟨modeN w, l, y⟩ := ⟨(xwr w).1, (xwr w).2, hl⟩
          by_cases e : textS ⟨modeN w, l, y⟩ = w ++ 32 :: d ++ 10 :: rowsOf l
          · rw [if_pos e, ← e, xei hg]
          · rw [if_neg e, xji]
            · rfl
            · rintro ⟨m, l', d'⟩ hx he
              apply e
              rw [xqd] at he
              obtain ⟨e1, e2⟩ := nl_inj hn (x5j _ _) he
              have e3 := hd_sp m d'
              simp only at e1 e2
              rw [← e1, xrd d hsp] at e3
              injection e3 with e4 e5
              injection e5 with e5 _
              rw [xqd]
              have hm : modeN w = m := by rw [e4]; exact xgt hx.m0 hx.m2
              have hd : y = d' := by
                rw [e5, xn1] at hy
                cases y <;> cases d' <;> simp_all
              simp only
              rw [hm, hd, e1]
              rfl
        · simp only
          rw [xji]
          rintro ⟨m, l', d'⟩ hx he
          rw [xqd] at he
          exact h2 l' hx.ans (nl_inj hn (x5j _ _) he).2
      by_cases hd : d = [121, 101, 115]
      · rw [if_pos hd]
        exact fin true _ ⟨fun _ => hd, fun _ => rfl⟩ (fun _ _ => rfl)
      · rw [if_neg hd]
        exact fin false _ ⟨fun h => (by cases h), fun h => absurd h hd⟩ (fun _ _ => rfl)
theorem x2n {n : Nat} (h : n < 10) : itoa (n : Int) = [UInt8.ofNat (48 + n)] := by
  unfold itoa
  rw [if_neg (by omega), Int.toNat_natCast]
  exact decDigits_one h
theorem x9h {s : List UInt8} (hs : s.length ≤ 10000) : x7b (bB s) = some (parseT s) := by
  unfold x7b
  rw [ckY (by rw [xh]; exact hs)]
  rfl
theorem xdi {x : Script} (h : scq x) : xsb x = some (bB (textS x)) := by
  unfold xsb
  rw [ckY h]
  rfl
def aw1 : Answer := ⟨15, 1, 2, true⟩
def awX : Script := ⟨2, [aw1], false⟩
theorem aw1_fa : FA aw1 := ⟨by decide, by decide, by decide, by decide⟩
theorem aw2_fa : FA (⟨19, 3, -1, false⟩ : Answer) := ⟨by decide, by decide, by decide, by decide⟩
theorem xpz : Good awX := ⟨by decide, by decide, fun a ha => by simp only [awX, List.mem_singleton] at ha; rw [ha]; exact aw1_fa⟩
theorem x1z : lineL aw1 = [121, 101, 115, 32, 119, 104, 105, 116, 101, 32, 49, 58, 50] := by
  have h1 : itoa 1 = [49] := x2n (n := 1) (by decide)
  have h2 : itoa 2 = [50] := x2n (n := 2) (by decide)
  unfold lineL placeL aw1
  simp only
  rw [h1, h2]
  rfl
theorem xjy : lineL (⟨19, 3, -1, false⟩ : Answer) = [110, 111, 32, 108, 105, 110, 107, 115, 32, 51, 58, 45, 49] := by
  have h1 : itoa 3 = [51] := x2n (n := 3) (by decide)
  have h2 : itoa (-1) = [45, 49] := by
    unfold itoa
    rw [if_pos (by decide)]
    exact congrArg (fun l => (45 : UInt8) :: l) (decDigits_one (i := 1) (by decide))
  unfold lineL placeL
  simp only
  rw [h1, h2]
  rfl
theorem xqs : textS awX = [115, 99, 114, 105, 112, 116, 32, 110, 111, 10, 121, 101, 115, 32, 119, 104, 105, 116, 101, 32, 49, 58, 50, 10] := by
  rw [xqd]
  simp only [awX, List.map_cons, List.map_nil, List.flatten_cons, List.flatten_nil, rowL]
  rw [x1z]
  rfl
theorem awake43 : xab = some true := by
  unfold xab
  have e1 : ByteArray.mk #[115, 99, 114, 105, 112, 116, 32, 110, 111, 10, 121, 101, 115, 32, 119, 104, 105, 116, 101, 32, 49, 58, 50, 10] = bB (textS awX) := by rw [xqs]; rfl
  have e2 : ByteArray.mk #[115, 99, 114, 105, 112, 116, 32, 110, 111] = bB [115, 99, 114, 105, 112, 116, 32, 110, 111] := rfl
  have e3 : ByteArray.mk #[110, 111, 32, 108, 105, 110, 107, 115, 32, 51, 58, 45, 49] = bB (lineL (⟨19, 3, -1, false⟩ : Answer)) := by rw [xjy]; rfl
  have p2 : parseT [115, 99, 114, 105, 112, 116, 32, 110, 111] = (zeroX, 2) := by
    unfold parseT
    exact xkj (by decide) (by decide) _ _ _
  have hsc : scq awX := by decide
  have hl1 : (textS awX).length ≤ 10000 := by rw [xqs]; decide
  rw [e1, e2, e3, x9h hl1, x9h (by decide), p2, xei xpz, x2k (by have := xhe aw2_fa.a64; omega), x0g aw2_fa]
  simp only [Option.bind_some]
  have es : xuc (⟨2, ([(⟨15, 1, 2, true⟩ : Answer)] : List Answer), false⟩ : Script) awX = some true := by
    rw [xbi (by decide)]
    rfl
  have et : xsb (⟨2, ([(⟨15, 1, 2, true⟩ : Answer)] : List Answer), false⟩ : Script) = some (bB (textS awX)) := xdi hsc
  rw [es, et, xth aw2_fa.a64]
  simp only [Option.bind_some, if_true, decide_true]
theorem xm0 {a : Answer} {x : Script} (ha : A64 a) (hx : ∀ b ∈ x.answers, a64 b) : x4d a x = some true := by
  unfold x4d xzd
  rw [awake43]
  by_cases h : (x.answers.length : Int) ≤ 40
  · have hq : scq x := ⟨by omega, hx⟩
    rw [if_pos h]
    simp only [Option.bind_some, Bool.not_true, Bool.false_eq_true, if_false]
    rw [xth ha, x6h ha.ino ha.slot, xdi hq, xzn (by omega) (fun b hb => a64_of (hx b hb))]
    simp only [Option.bind_some, if_true]
  · rw [if_neg h]
    rfl
theorem xl0 (s : ByteArray) : x2d s = some true := by
  unfold x2d
  rw [awake43]
  by_cases hs : 1000 < (s.size : Int)
  · rw [if_pos hs]; rfl
  · rw [if_neg hs]
    obtain ⟨t, rfl⟩ := bB_eq s
    rw [xh] at hs
    rw [x2k (s := t) (by omega), xwn (s := t) (by omega), x9h (s := t) (by omega), x2t (s := t) (by omega)]
    simp only [Option.bind_some, decide_true, if_true]
    have key : ((xuc (parseT t).1 (parseT t).1).bind fun v41 => if v41 = true then if (parseT t).2 = 0 then (xsb (parseT t).1).bind fun v49 => if v49 = bB t then (some true).bind fun v53 => some v53
 else some false
 else (some true).bind fun v55 => some v55
 else some false) = some true := by
      rcases xnj t with e | ⟨x, hx, rfl, e⟩
      · rw [e, xbi (by decide)]
        rfl
      · rw [e]
        have hlen := x1n x.answers
        have h2 : (rowsOf x.answers).length ≤ (textS x).length := by rw [xqd]; unfold rowsOf; simp only [List.length_append, List.length_cons]; omega
        rw [xbi (by show x.answers.length ≤ 1000000; omega), xdi ⟨by show x.answers.length ≤ 1000; omega, fun a ha => ⟨(hx.ans a ha).a64.clause, (hx.ans a ha).ino, (hx.ans a ha).slot⟩⟩]
        simp only [decide_true, Option.bind_some, if_true]
    simp only [Option.bind_some] at key
    rcases xmh t with hz | ⟨g, hg, rfl, hr⟩
    · rw [hz]
      simp only [Bool.false_eq_true, if_false]
      exact key
    · rw [hr]
      simp only [if_true]
      rw [xth hg.a64]
      simp only [Option.bind_some, if_true]
      rcases xnj (lineL g) with e | ⟨x, hx, e, _⟩
      · rw [e] at key ⊢
        exact key
      · exact absurd e (fun e => xhi g (by rw [e, xqd]; simp))
theorem xuw (x : Script) (hl : x.answers.length ≤ 40) : iter (xdc x) big (true, 0) = some (decide (∀ a ∈ x.answers, 1 ≤ a.clause ∧ a.clause ≤ 23)) := by
  have := xlf (B := xdc x) (fun i (b : Bool) => (b, (i : Int))) x.answers (fun b a => b && decide (1 ≤ a.clause ∧ a.clause ≤ 23)) (fun b => b) (fun _ _ => True) (by
    intro i s hi _
    refine ⟨?_, trivial⟩
    simp only [xdc]
    rw [if_pos (by omega), ix_at hi, wr_suc (by omega)]
    simp only [Option.bind_some]
    cases s <;> by_cases h1 : 1 ≤ x.answers[i].clause <;> by_cases h2 : x.answers[i].clause ≤ 23 <;> simp [h1, h2]) (by
    intro s _
    simp only [xdc]
    rw [if_neg (by omega)]) (s0 := true) trivial (fuel := big) (by rw [big_eq]; omega)
  rw [show ((0 : Nat) : Int) = 0 from rfl] at this
  rw [this.1]
  congr 1
  have key : ∀ (l : List Answer) (b : Bool), l.foldl (fun b a => b && decide (1 ≤ a.clause ∧ a.clause ≤ 23)) b = (b && decide (∀ a ∈ l, 1 ≤ a.clause ∧ a.clause ≤ 23)) := by
    intro l
    induction l with
    | nil => intro b; simp
    | cons a l ih => intro b; rw [List.foldl_cons, ih]; simp [Bool.and_assoc]
  rw [key, Bool.true_and]
theorem xzo (x : Script) (hl : x.answers.length ≤ 40) : iter (xbc x) big 0 = some () := by
  have := xlf (B := xbc x) (fun i (_ : Unit) => (i : Int)) x.answers (fun b a => b) (fun b => ()) (fun _ _ => True) (by
    intro i s hi _
    refine ⟨?_, trivial⟩
    simp only [xbc]
    rw [if_pos (by omega), ix_at hi, wr_suc (by omega)]
    rfl) (by
    intro s _
    simp only [xbc]
    rw [if_neg (by omega)]) (s0 := ()) trivial (fuel := big) (by rw [big_eq]; omega)
  exact this.1
theorem xnv (x : Script) (hl : x.answers.length ≤ 40) : iter (xte x) big 0 = some () := xzo x hl
theorem xy1 {x : Script} (hx : ∀ b ∈ x.answers, a64 b) : xde x = some true := by
  unfold xde xzd
  rw [awake43]
  by_cases h : (x.answers.length : Int) ≤ 40
  · have hq : scq x := ⟨by omega, hx⟩
    have ha64 : ∀ b ∈ x.answers, A64 b := fun b hb => a64_of (hx b hb)
    have hlen : (textS x).length ≤ 10000 := by
      rw [xqd]
      have h1 : ∀ l : List Answer, (∀ b ∈ l, A64 b) → (rowsOf l).length ≤ l.length * 70 := by
        intro l
        induction l with
        | nil => intro _; simp [rowsOf]
        | cons a l ih =>
          intro hl
          have h2 := ih (fun b hb => hl b (by simp [hb]))
          have h3 := xhe (hl a (by simp))
          unfold rowsOf at h2 ⊢
          rw [xve]
          simp only [List.length_append, List.length_cons]
          omega
      have h2 := h1 x.answers ha64
      have h3 := xdf x.mode
      have h4 := ynL_le x.default
      unfold rowsOf at h2
      unfold hd
      simp only [List.length_append, List.length_cons]
      omega
    rw [if_pos h, xuw x (by omega), xzo x (by omega), xnv x (by omega)]
    simp only [Option.bind_some, Bool.not_true, Bool.false_eq_true, if_false]
    rw [xdi hq]
    simp only [Option.bind_some]
    rw [x9h hlen]
    simp only [Option.bind_some]
    by_cases hg : Good x
    · rw [if_pos hg.m0, if_pos hg.m2, xei hg]
      simp only [if_true]
      have hall : decide (∀ a ∈ x.answers, 1 ≤ a.clause ∧ a.clause ≤ 23) = true := decide_eq_true (fun a ha => ⟨(hg.ans a ha).c0, (hg.ans a ha).c1⟩)
      rw [hall, xbi (by omega)]
      simp only [Option.bind_some, if_true, decide_true]
    · rw [x5w ha64 hg]
      have z : ¬ ((2 : Int) = 0) := by decide
      simp only [z, if_false]
      by_cases h0 : 0 ≤ x.mode
      · rw [if_pos h0]
        by_cases h2 : x.mode ≤ 2
        · rw [if_pos h2]
          have hall : decide (∀ a ∈ x.answers, 1 ≤ a.clause ∧ a.clause ≤ 23) = false := by
            rw [decide_eq_false_iff_not]
            intro hc
            exact hg ⟨h0, h2, fun a ha => ⟨(hc a ha).1, (hc a ha).2, (ha64 a ha).ino, (ha64 a ha).slot⟩⟩
          rw [hall]
          simp
        · rw [if_neg h2]
      · rw [if_neg h0]
  · rw [if_neg h]
    rfl
end Go.Proofs.YtjmnoaoeediodaaDoor.AL

/- Any answer, and any script, as text, are what the document says. -/
namespace Go.Proofs.YtjmnoaoeediodaaDoor
theorem AL.fine_a64 {a : AL.Answer} (h : a.fine) : AL.a64 a := ⟨h.1, h.2.1, h.2.2.1⟩
theorem scriptTells_holds : Rows.ScriptTellsCardSaid := xml (xek fun a x ha hx => AL.xtv a x true (AL.xm0 (AL.a64_of (AL.fine_a64 ha)) (fun b hb => AL.fine_a64 (hx.2.1.2 b hb))))
#print axioms scriptTells_holds
end Go.Proofs.YtjmnoaoeediodaaDoor

