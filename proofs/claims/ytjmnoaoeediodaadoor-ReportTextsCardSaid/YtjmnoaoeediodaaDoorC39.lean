/- A law of the given program is proved: part 39 of 47. -/
import Derived.Test.YtjmnoaoeediodaaDoorC38
set_option linter.all false
/- Models of functions, and that the functions are as their models: written by gen.py. -/
set_option linter.all false
set_option maxRecDepth 100000
namespace Go.Proofs.YtjmnoaoeediodaaDoor.AL
open Go Go.Proofs
def xib  : Option (Bool) := (xxc (ByteArray.mk #[119, 104, 105, 116, 101, 32, 48, 58, 49, 58, 50])).bind fun v2 => (xwb (⟨15, 0, 1, 2⟩ : Finding)).bind fun v4 => if v4 = (ByteArray.mk #[119, 104, 105, 116, 101, 32, 48, 58, 49, 58, 50]) then if (decide (v2.1 = (⟨15, 0, 1, 2⟩ : Finding))) = true then if v2.2 = true then (xpc 24).bind fun v12 => if v12 = xzc then (xad (⟨4, ([(⟨15, 0, 1, 2⟩ : Finding)] : List Finding), [], [], 0, 0, 0, false⟩ : Report)).bind fun v16 => if v16 = (ByteArray.mk #[99, 111, 100, 101, 32, 52, 10, 112, 97, 115, 115, 101, 115, 32, 48, 32, 116, 114, 97, 110, 115, 32, 48, 32, 119, 114, 105, 116, 101, 115, 32, 48, 10, 102, 111, 117, 110, 100, 32, 119, 104, 105, 116, 101, 32, 48, 58, 49, 58, 50, 10]) then some true
 else some false
 else some false
 else some false
 else some false
 else some false
def x6b := aI (aI (aI (@EV) (@R3)) (aI (@R9) (@R23))) (aI (aI (@R30) (@R32)) (aI (@DFinding) (aI (@DReport) (@eq23))))
set_option maxHeartbeats 2000000 in
theorem x1b  (r : Bool) (hm0 : xib  = some r) : Ok Tryd.prog 8 [] (bool r) := by
 unfold xib at hm0
 refine okG xtp ?_
 unfold xil
 have e1 : (.agg [int 15, int 0, int 1, int 2] : AV) = xd (⟨15, 0, 1, 2⟩ : Finding) := _root_.id rfl
 obtain ⟨v2, h3, hm0⟩ := bsE hm0
 simp only [e1, x6b, ↓EVd, isCall, sevalprocAttr]
 refine qc (xse _ _ h3) rfl ?_
 obtain ⟨v4, h5, hm0⟩ := bsE hm0
 simp only [e1, x6b, ↓EVd, isCall, sevalprocAttr]
 refine qc (xlc _ _ h5) rfl ?_
 rcases iteE hm0 with ⟨e7, hm0⟩ | ⟨e7, hm0⟩
 · rcases itbE hm0 with ⟨e9, hm0⟩ | ⟨e9, hm0⟩
   · rcases itbE hm0 with ⟨e11, hm0⟩ | ⟨e11, hm0⟩
     · obtain ⟨v12, h13, hm0⟩ := bsE hm0
       simp only [e1, e7, e9, e11, x6b, ↓EVd, isCall, sevalprocAttr]
       refine qc (x0e _ _ h13) rfl ?_
       rcases iteE hm0 with ⟨e15, hm0⟩ | ⟨e15, hm0⟩
       · obtain ⟨v16, h17, hm0⟩ := bsE hm0
         simp only [e1, e7, e9, e11, e15, x6b, ↓EVd, isCall, sevalprocAttr]
         refine qcbs (x7j _ _ h17) rfl (.cons (.agg (.cons (.refl _) (.cons (.refl _) (.cons (.nilS _) (.cons (.nilS _) (.refl _)))))) .nil) (by simp only [e1, e7, e9, e11, e15, FZ, CLO, x6b, ↓EVd, isCall, sevalprocAttr]; first | done | rfl) ?_
         rcases iteE hm0 with ⟨e19, hm0⟩ | ⟨e19, hm0⟩
         · obtain rfl := Option.some.inj hm0
           simp only [e1, e7, e9, e11, e15, e19, x6b, ↓EVd, isCall, sevalprocAttr]
           all_goals first | done | rfl
         obtain rfl := Option.some.inj hm0
         simp only [e1, e7, e9, e11, e15, e19, x6b, ↓EVd, isCall, sevalprocAttr]
         all_goals first | done | rfl
       obtain rfl := Option.some.inj hm0
       simp only [e1, e7, e9, e11, e15, x6b, ↓EVd, isCall, sevalprocAttr]
       all_goals first | done | rfl
     obtain rfl := Option.some.inj hm0
     simp only [e1, e7, e9, e11, x6b, ↓EVd, isCall, sevalprocAttr]
     all_goals first | done | rfl
   obtain rfl := Option.some.inj hm0
   simp only [e1, e7, e9, x6b, ↓EVd, isCall, sevalprocAttr]
   all_goals first | done | rfl
 obtain rfl := Option.some.inj hm0
 simp only [e1, e7, x6b, ↓EVd, isCall, sevalprocAttr]
 all_goals first | done | rfl
def x5d (a0 : Int) (a1 : Finding) (a2 : ByteArray) : Option (Bool) := if 200 < (a2.size : Int) then (xib ).bind fun v3 => some v3
 else (xxc a2).bind fun v5 => (xof a2).bind fun v7 => (xpc a0).bind fun v9 => (xyc a0).bind fun v11 => if v9 = v11 then (xwb a1).bind fun v15 => (x2c a1).bind fun v17 => if v15 = v17 then if (decide (v5.1 = v7.1)) = true then if v5.2 = true then if v7.2 = true then (xwb v5.1).bind fun v27 => if v27 = a2 then (xwb a1).bind fun v31 => (xxc v31).bind fun v33 => if 1 ≤ a1.clause then if a1.clause ≤ 23 then if v33.2 = true then if (decide (v33.1 = a1)) = true then (xib ).bind fun v43 => some v43
 else some false
 else some false
 else if v33.2 = true then some false
 else (xib ).bind fun v47 => some v47
 else if v33.2 = true then some false
 else (xib ).bind fun v51 => some v51
 else some false
 else some false
 else if v7.2 = true then some false
 else (xwb a1).bind fun v55 => (xxc v55).bind fun v57 => if 1 ≤ a1.clause then if a1.clause ≤ 23 then if v57.2 = true then if (decide (v57.1 = a1)) = true then (xib ).bind fun v67 => some v67
 else some false
 else some false
 else if v57.2 = true then some false
 else (xib ).bind fun v71 => some v71
 else if v57.2 = true then some false
 else (xib ).bind fun v75 => some v75
 else some false
 else some false
 else some false
def xe := aI (aI (aI (@EV) (@R3)) (aI (@R4) (@R9))) (aI (aI (@R23) (@DFinding)) (aI (@eq23) (@mixed)))
set_option maxHeartbeats 2000000 in
theorem xlv (a0 : Int) (a1 : Finding) (a2 : ByteArray) (r : Bool) (hm0 : x5d a0 a1 a2 = some r) : Ok Tryd.prog 3 [int a0, xd a1, str a2] (bool r) := by
 unfold x5d at hm0
 refine okG xnk ?_
 unfold x4g
 rcases iteE hm0 with ⟨e2, hm0⟩ | ⟨e2, hm0⟩
 · obtain ⟨v3, h4, hm0⟩ := bsE hm0
   simp only [e2, xe, ↓EVd, isCall, sevalprocAttr]
   refine qc (x1b  _ h4) rfl ?_
   obtain rfl := Option.some.inj hm0
   simp only [e2, xe, ↓EVd, isCall, sevalprocAttr]
   all_goals first | done | rfl
 obtain ⟨v5, h6, hm0⟩ := bsE hm0
 simp only [e2, xe, ↓EVd, isCall, sevalprocAttr]
 refine qc (xse _ _ h6) rfl ?_
 obtain ⟨v7, h8, hm0⟩ := bsE hm0
 simp only [e2, xe, ↓EVd, isCall, sevalprocAttr]
 refine qc (xnr _ _ h8) rfl ?_
 obtain ⟨v9, h10, hm0⟩ := bsE hm0
 simp only [e2, xe, ↓EVd, isCall, sevalprocAttr]
 refine qd (x0e _ _ h10) rfl ?_
 obtain ⟨v11, h12, hm0⟩ := bsE hm0
 simp only [e2, xe, ↓EVd, isCall, sevalprocAttr]
 refine qd (xbf _ _ h12) rfl ?_
 rcases iteE hm0 with ⟨e14, hm0⟩ | ⟨e14, hm0⟩
 · obtain ⟨v15, h16, hm0⟩ := bsE hm0
   simp only [e2, e14, xe, ↓EVd, isCall, sevalprocAttr]
   refine qd (xlc _ _ h16) rfl ?_
   obtain ⟨v17, h18, hm0⟩ := bsE hm0
   simp only [e2, e14, xe, ↓EVd, isCall, sevalprocAttr]
   refine qd (xig _ _ h18) rfl ?_
   rcases iteE hm0 with ⟨e20, hm0⟩ | ⟨e20, hm0⟩
   · rcases itbE hm0 with ⟨e22, hm0⟩ | ⟨e22, hm0⟩
     · rcases itbE hm0 with ⟨e24, hm0⟩ | ⟨e24, hm0⟩
       · rcases itbE hm0 with ⟨e26, hm0⟩ | ⟨e26, hm0⟩
         · obtain ⟨v27, h28, hm0⟩ := bsE hm0
           simp only [e2, e14, e20, e22, e24, e26, xe, ↓EVd, isCall, sevalprocAttr]
           refine qd (xlc _ _ h28) rfl ?_
           rcases iteE hm0 with ⟨e30, hm0⟩ | ⟨e30, hm0⟩
           · obtain ⟨v31, h32, hm0⟩ := bsE hm0
             simp only [e2, e14, e20, e22, e24, e26, e30, xe, ↓EVd, isCall, sevalprocAttr]
             refine qc (xlc _ _ h32) rfl ?_
             obtain ⟨v33, h34, hm0⟩ := bsE hm0
             simp only [e2, e14, e20, e22, e24, e26, e30, xe, ↓EVd, isCall, sevalprocAttr]
             refine qc (xse _ _ h34) rfl ?_
             rcases iteE hm0 with ⟨e36, hm0⟩ | ⟨e36, hm0⟩
             · have g77 := And.intro (And.intro (And.intro ((e2)) ((e14))) (And.intro ((e20)) ((e22)))) (And.intro (And.intro ((e24)) ((e26))) (And.intro ((e30)) ((e36))))
               rcases iteE hm0 with ⟨e38, hm0⟩ | ⟨e38, hm0⟩
               · rcases itbE hm0 with ⟨e40, hm0⟩ | ⟨e40, hm0⟩
                 · rcases itbE hm0 with ⟨e42, hm0⟩ | ⟨e42, hm0⟩
                   · obtain ⟨v43, h44, hm0⟩ := bsE hm0
                     simp only [g77, e38, e40, e42, xe, ↓EVd, isCall, sevalprocAttr]
                     refine qc (x1b  _ h44) rfl ?_
                     obtain rfl := Option.some.inj hm0
                     simp only [g77, e38, e40, e42, xe, ↓EVd, isCall, sevalprocAttr]
                     all_goals first | done | rfl
                   obtain rfl := Option.some.inj hm0
                   simp only [g77, e38, e40, e42, xe, ↓EVd, isCall, sevalprocAttr]
                   all_goals first | done | rfl
                 obtain rfl := Option.some.inj hm0
                 simp only [g77, e38, e40, xe, ↓EVd, isCall, sevalprocAttr]
                 all_goals first | done | rfl
               rcases itbE hm0 with ⟨e46, hm0⟩ | ⟨e46, hm0⟩
               · obtain rfl := Option.some.inj hm0
                 simp only [g77, e38, e46, xe, ↓EVd, isCall, sevalprocAttr]
                 all_goals first | done | rfl
               obtain ⟨v47, h48, hm0⟩ := bsE hm0
               simp only [g77, e38, e46, xe, ↓EVd, isCall, sevalprocAttr]
               refine qc (x1b  _ h48) rfl ?_
               obtain rfl := Option.some.inj hm0
               simp only [g77, e38, e46, xe, ↓EVd, isCall, sevalprocAttr]
               all_goals first | done | rfl
             have g78 := And.intro (And.intro (And.intro ((e2)) ((e14))) (And.intro ((e20)) ((e22)))) (And.intro (And.intro ((e24)) ((e26))) (And.intro ((e30)) ((e36))))
             rcases itbE hm0 with ⟨e50, hm0⟩ | ⟨e50, hm0⟩
             · obtain rfl := Option.some.inj hm0
               simp only [g78, e50, xe, ↓EVd, isCall, sevalprocAttr]
               all_goals first | done | rfl
             obtain ⟨v51, h52, hm0⟩ := bsE hm0
             simp only [g78, e50, xe, ↓EVd, isCall, sevalprocAttr]
             refine qc (x1b  _ h52) rfl ?_
             obtain rfl := Option.some.inj hm0
             simp only [g78, e50, xe, ↓EVd, isCall, sevalprocAttr]
             all_goals first | done | rfl
           obtain rfl := Option.some.inj hm0
           simp only [e2, e14, e20, e22, e24, e26, e30, xe, ↓EVd, isCall, sevalprocAttr]
           all_goals first | done | rfl
         obtain rfl := Option.some.inj hm0
         simp only [e2, e14, e20, e22, e24, e26, xe, ↓EVd, isCall, sevalprocAttr]
         all_goals first | done | rfl
       rcases itbE hm0 with ⟨e54, hm0⟩ | ⟨e54, hm0⟩
       · obtain rfl := Option.some.inj hm0
         simp only [e2, e14, e20, e22, e24, e54, xe, ↓EVd, isCall, sevalprocAttr]
         all_goals first | done | rfl
       obtain ⟨v55, h56, hm0⟩ := bsE hm0
       simp only [e2, e14, e20, e22, e24, e54, xe, ↓EVd, isCall, sevalprocAttr]
       refine qc (xlc _ _ h56) rfl ?_
       obtain ⟨v57, h58, hm0⟩ := bsE hm0
       simp only [e2, e14, e20, e22, e24, e54, xe, ↓EVd, isCall, sevalprocAttr]
       refine qc (xse _ _ h58) rfl ?_
       rcases iteE hm0 with ⟨e60, hm0⟩ | ⟨e60, hm0⟩
       · rcases iteE hm0 with ⟨e62, hm0⟩ | ⟨e62, hm0⟩
         · have g79 := And.intro (And.intro (And.intro ((e2)) ((e14))) (And.intro ((e20)) ((e22)))) (And.intro (And.intro ((e24)) ((e54))) (And.intro ((e60)) ((e62))))
           rcases itbE hm0 with ⟨e64, hm0⟩ | ⟨e64, hm0⟩
           · rcases itbE hm0 with ⟨e66, hm0⟩ | ⟨e66, hm0⟩
             · obtain ⟨v67, h68, hm0⟩ := bsE hm0
               simp only [g79, e64, e66, xe, ↓EVd, isCall, sevalprocAttr]
               refine qc (x1b  _ h68) rfl ?_
               obtain rfl := Option.some.inj hm0
               simp only [g79, e64, e66, xe, ↓EVd, isCall, sevalprocAttr]
               all_goals first | done | rfl
             obtain rfl := Option.some.inj hm0
             simp only [g79, e64, e66, xe, ↓EVd, isCall, sevalprocAttr]
             all_goals first | done | rfl
           obtain rfl := Option.some.inj hm0
           simp only [g79, e64, xe, ↓EVd, isCall, sevalprocAttr]
           all_goals first | done | rfl
         have g80 := And.intro (And.intro (And.intro ((e2)) ((e14))) (And.intro ((e20)) ((e22)))) (And.intro (And.intro ((e24)) ((e54))) (And.intro ((e60)) ((e62))))
         rcases itbE hm0 with ⟨e70, hm0⟩ | ⟨e70, hm0⟩
         · obtain rfl := Option.some.inj hm0
           simp only [g80, e70, xe, ↓EVd, isCall, sevalprocAttr]
           all_goals first | done | rfl
         obtain ⟨v71, h72, hm0⟩ := bsE hm0
         simp only [g80, e70, xe, ↓EVd, isCall, sevalprocAttr]
         refine qc (x1b  _ h72) rfl ?_
         obtain rfl := Option.some.inj hm0
         simp only [g80, e70, xe, ↓EVd, isCall, sevalprocAttr]
         all_goals first | done | rfl
       rcases itbE hm0 with ⟨e74, hm0⟩ | ⟨e74, hm0⟩
       · obtain rfl := Option.some.inj hm0
         simp only [e2, e14, e20, e22, e24, e54, e60, e74, xe, ↓EVd, isCall, sevalprocAttr]
         all_goals first | done | rfl
       have g81 := And.intro (And.intro (And.intro ((e2)) ((e14))) (And.intro ((e20)) ((e22)))) (And.intro (And.intro ((e24)) ((e54))) (And.intro ((e60)) ((e74))))
       obtain ⟨v75, h76, hm0⟩ := bsE hm0
       simp only [g81, xe, ↓EVd, isCall, sevalprocAttr]
       refine qc (x1b  _ h76) rfl ?_
       obtain rfl := Option.some.inj hm0
       simp only [g81, xe, ↓EVd, isCall, sevalprocAttr]
       all_goals first | done | rfl
     obtain rfl := Option.some.inj hm0
     simp only [e2, e14, e20, e22, xe, ↓EVd, isCall, sevalprocAttr]
     all_goals first | done | rfl
   obtain rfl := Option.some.inj hm0
   simp only [e2, e14, e20, xe, ↓EVd, isCall, sevalprocAttr]
   all_goals first | done | rfl
 obtain rfl := Option.some.inj hm0
 simp only [e2, e14, xe, ↓EVd, isCall, sevalprocAttr]
 all_goals first | done | rfl
def x3d (a0 : Report) : Option (Bool) := if 60 < (a0.found.length : Int) then (xib ).bind fun v3 => some v3
 else if 60 < (a0.done.length : Int) then (xib ).bind fun v7 => some v7
 else if 60 < (a0.left.length : Int) then (xib ).bind fun v11 => some v11
 else (xad a0).bind fun v13 => (xjf a0).bind fun v15 => if v13 = v15 then (xib ).bind fun v19 => some v19
 else some false
def xy := aI (aI (aI (@EV) (@R3)) (aI (@R9) (@R23))) (aI (aI (@R30) (@R32)) (aI (@DFinding) (aI (@DReport) (@mixed))))
set_option maxHeartbeats 2000000 in
theorem xsu (a0 : Report) (r : Bool) (hm0 : x3d a0 = some r) : Ok Tryd.prog 4 [xgb a0] (bool r) := by
 unfold x3d at hm0
 refine okG xhk ?_
 unfold x5g
 rcases iteE hm0 with ⟨e2, hm0⟩ | ⟨e2, hm0⟩
 · obtain ⟨v3, h4, hm0⟩ := bsE hm0
   simp only [e2, xy, ↓EVd, isCall, sevalprocAttr]
   refine qc (x1b  _ h4) rfl ?_
   obtain rfl := Option.some.inj hm0
   simp only [e2, xy, ↓EVd, isCall, sevalprocAttr]
   all_goals first | done | rfl
 rcases iteE hm0 with ⟨e6, hm0⟩ | ⟨e6, hm0⟩
 · obtain ⟨v7, h8, hm0⟩ := bsE hm0
   simp only [e2, e6, xy, ↓EVd, isCall, sevalprocAttr]
   refine qc (x1b  _ h8) rfl ?_
   obtain rfl := Option.some.inj hm0
   simp only [e2, e6, xy, ↓EVd, isCall, sevalprocAttr]
   all_goals first | done | rfl
 rcases iteE hm0 with ⟨e10, hm0⟩ | ⟨e10, hm0⟩
 · obtain ⟨v11, h12, hm0⟩ := bsE hm0
   simp only [e2, e6, e10, xy, ↓EVd, isCall, sevalprocAttr]
   refine qc (x1b  _ h12) rfl ?_
   obtain rfl := Option.some.inj hm0
   simp only [e2, e6, e10, xy, ↓EVd, isCall, sevalprocAttr]
   all_goals first | done | rfl
 obtain ⟨v13, h14, hm0⟩ := bsE hm0
 simp only [e2, e6, e10, xy, ↓EVd, isCall, sevalprocAttr]
 refine qd (x7j _ _ h14) rfl ?_
 obtain ⟨v15, h16, hm0⟩ := bsE hm0
 simp only [e2, e6, e10, xy, ↓EVd, isCall, sevalprocAttr]
 refine qd (xhr _ _ h16) rfl ?_
 rcases iteE hm0 with ⟨e18, hm0⟩ | ⟨e18, hm0⟩
 · obtain ⟨v19, h20, hm0⟩ := bsE hm0
   simp only [e2, e6, e10, e18, xy, ↓EVd, isCall, sevalprocAttr]
   refine qd (x1b  _ h20) rfl ?_
   obtain rfl := Option.some.inj hm0
   simp only [e2, e6, e10, e18, xy, ↓EVd, isCall, sevalprocAttr]
   all_goals first | done | rfl
 obtain rfl := Option.some.inj hm0
 simp only [e2, e6, e10, e18, xy, ↓EVd, isCall, sevalprocAttr]
 all_goals first | done | rfl
end Go.Proofs.YtjmnoaoeediodaaDoor.AL

/- Plain laws of chapter 37: the laws. -/
set_option linter.all false
namespace Go.Proofs.YtjmnoaoeediodaaDoor.AL
open Go Go.Proofs Go.Lib
theorem k_code : ByteArray.mk #[99, 111, 100, 101, 32] = bB [99, 111, 100, 101, 32] := rfl
theorem k_repl : ByteArray.mk #[114, 101, 112, 108, 97, 121, 101, 100, 10] = bB [114, 101, 112, 108, 97, 121, 101, 100, 10] := rfl
theorem k_pass : ByteArray.mk #[112, 97, 115, 115, 101, 115, 32] = bB [112, 97, 115, 115, 101, 115, 32] := rfl
theorem k_tran : ByteArray.mk #[32, 116, 114, 97, 110, 115, 32] = bB [32, 116, 114, 97, 110, 115, 32] := rfl
theorem k_writ : ByteArray.mk #[32, 119, 114, 105, 116, 101, 115, 32] = bB [32, 119, 114, 105, 116, 101, 115, 32] := rfl
theorem k_foun : ByteArray.mk #[102, 111, 117, 110, 100] = bB [102, 111, 117, 110, 100] := rfl
theorem k_done : ByteArray.mk #[100, 111, 110, 101] = bB [100, 111, 110, 101] := rfl
theorem k_left : ByteArray.mk #[108, 101, 102, 116] = bB [108, 101, 102, 116] := rfl
theorem xmj {word : List UInt8} {l : List Finding} (hw : word.length ≤ 10) (hl : l.length ≤ 60 ∧ ∀ f ∈ l, F64 f) : xhc (bB word) l = some (bB ((l.map (lineOf word)).flatten)) := by
  unfold xhc
  have h1 := hl.1
  have := xlf (B := x1d (bB word) l) (fun i (s : List UInt8) => (bB s, (i : Int))) l (fun s f => s ++ lineOf word f) (fun s => bB s) (fun i s => s.length ≤ i * 110) (by
    intro i s hi hs
    have hf := hl.2 l[i] (List.getElem_mem hi)
    have hz := xdk hf
    have hs2 : s.length ≤ 60 * 110 := Nat.le_trans hs (Nat.mul_le_mul_right _ (by omega))
    have hlo : (lineOf word l[i]).length ≤ 110 := by
      unfold lineOf
      simp only [List.length_append, List.length_cons, List.length_nil]
      omega
    refine ⟨?_, by simp only [List.length_append]; omega⟩
    simp only [x1d]
    rw [if_pos (by omega), ix_at hi, wr_suc (by omega)]
    simp only [Option.bind_some]
    rw [x9f hf.layer hf.ino hf.slot]
    simp only [Option.bind_some, c32, c10, bB_app, xh, List.length_append, List.length_cons, List.length_nil]
    repeat (rw [ckY (by omega)]; simp only [Option.bind_some])
    unfold lineOf
    simp) (by
    intro s _
    simp only [x1d]
    rw [if_neg (by omega)]) (s0 := []) (by simp) (fuel := big) (by rw [big_eq]; omega)
  have e0 : ((0 : Nat) : Int) = 0 := rfl
  have eb : xzc = bB [] := rfl
  rw [e0] at this
  rw [eb, this.1]
  simp only [Option.bind_some]
  congr 2
  have key : ∀ (l : List Finding) (s : List UInt8), l.foldl (fun s f => s ++ lineOf word f) s = s ++ (l.map (lineOf word)).flatten := by
    intro l
    induction l with
    | nil => intro s; simp
    | cons f l ih => intro s; rw [List.foldl_cons, ih]; simp
  rw [key]
  rfl
theorem x7v {r : Report} (h : FR r) : xjf r = some (bB (textR r)) := by
  unfold xjf
  have z1 := xdb h.code
  have z2 := xdb h.passes
  have z3 := xdb h.trans
  have z4 := xdb h.writes
  have y1 := xmg (word := [102, 111, 117, 110, 100]) h.found (by decide)
  have y2 := xmg (word := [100, 111, 110, 101]) h.done (by decide)
  have y3 := xmg (word := [108, 101, 102, 116]) h.left (by decide)
  rw [xoc h.code, xoc h.passes, xoc h.trans, xoc h.writes]
  simp only [Option.bind_some, k_code, k_repl, k_pass, k_tran, k_writ, k_foun, k_done, k_left, c10]
  rw [xmj (by decide) h.found, xmj (by decide) h.done, xmj (by decide) h.left]
  simp only [Option.bind_some, bB_app, xh, List.length_append, List.length_cons, List.length_nil]
  unfold textR codeL countL linesL replL
  by_cases hrp : r.replayed = true
  · rw [if_pos hrp, if_pos hrp]
    repeat (rw [ckY (by omega)]; simp only [Option.bind_some])
    simp
  · rw [if_neg hrp, if_neg hrp]
    repeat (rw [ckY (by omega)]; simp only [Option.bind_some])
    simp
def f15 : Finding := ⟨15, 0, 1, 2⟩
theorem f15_ff : FF f15 := ⟨by decide, by decide, by decide, by decide, by decide⟩
theorem xxj {n : Nat} (h : n < 10) : itoa (n : Int) = [UInt8.ofNat (48 + n)] := by
  unfold itoa
  rw [if_neg (by omega), Int.toNat_natCast]
  exact decDigits_one h
theorem xdo : findL f15 = [119, 104, 105, 116, 101, 32, 48, 58, 49, 58, 50] := by
  unfold findL placeL f15
  rw [show itoa 0 = [48] from xxj (n := 0) (by decide), show itoa 1 = [49] from xxj (n := 1) (by decide), show itoa 2 = [50] from xxj (n := 2) (by decide)]
  decide +kernel
theorem awake37 : xib = some true := by
  unfold xib
  have e : ByteArray.mk #[119, 104, 105, 116, 101, 32, 48, 58, 49, 58, 50] = bB (findL f15) := by rw [xdo]; rfl
  have ef : (⟨15, 0, 1, 2⟩ : Finding) = f15 := rfl
  have hl : (findL f15).length ≤ 100000 := by rw [xdo]; decide
  rw [e, ef, xbj hl, x8h f15_ff]
  simp only [Option.bind_some]
  rw [xgf f15_ff.f64]
  simp only [Option.bind_some]
  rw [if_pos trivial, if_pos (by simp), if_pos trivial, xnh (by decide)]
  simp only [Option.bind_some]
  rw [xng (.inr (by decide)), if_pos (show bB [] = xzc from rfl)]
  have hq : frq ⟨4, [f15], [], [], 0, 0, 0, false⟩ := by decide +kernel
  have ht : xad ⟨4, [f15], [], [], 0, 0, 0, false⟩ = some (bB (textR ⟨4, [f15], [], [], 0, 0, 0, false⟩)) := by
    unfold xad
    rw [ckY hq]
    rfl
  rw [ht]
  simp only [Option.bind_some]
  rw [if_pos]
  have : textR ⟨4, [f15], [], [], 0, 0, 0, false⟩ = [99, 111, 100, 101, 32, 52, 10, 112, 97, 115, 115, 101, 115, 32, 48, 32, 116, 114, 97, 110, 115, 32, 48, 32, 119, 114, 105, 116, 101, 115, 32, 48, 10, 102, 111, 117, 110, 100, 32, 119, 104, 105, 116, 101, 32, 48, 58, 49, 58, 50, 10] := by
    unfold textR codeL countL linesL replL
    simp only [List.map_cons, List.map_nil, List.flatten_cons, List.flatten_nil]
    unfold lineOf
    rw [xdo, show itoa 0 = [48] from xxj (n := 0) (by decide), show itoa 4 = [52] from xxj (n := 4) (by decide)]
    rfl
  rw [this]
  rfl
theorem xk0 {n : Int} {f : Finding} (s : ByteArray) (hn : i64 n) (hf : F64 f) : x5d n f s = some true := by
  unfold x5d
  rw [awake37]
  by_cases hs : 200 < (s.size : Int)
  · rw [if_pos hs]; rfl
  · rw [if_neg hs]
    obtain ⟨t, rfl⟩ := bB_eq s
    rw [xh] at hs
    have ht : t.length ≤ 100000 := by omega
    have hfl := xdk hf
    rw [xbj ht, xru ht, xnh hn, xyi, xgf hf, x9f hf.layer hf.ino hf.slot]
    simp only [Option.bind_some, if_true, decide_true]
    rw [xbj (s := findL f) (by omega)]
    simp only [Option.bind_some]
    have key : (if 1 ≤ f.clause then if f.clause ≤ 23 then if (readP (findL f)).2 = true then if (decide ((readP (findL f)).1 = f)) = true then some true
 else some false
 else some false
 else if (readP (findL f)).2 = true then some false
 else some true
 else if (readP (findL f)).2 = true then some false
 else some true) = some true := by
      by_cases h1 : 1 ≤ f.clause
      · by_cases h2 : f.clause ≤ 23
        · rw [x8h ⟨h1, h2, hf.layer, hf.ino, hf.slot⟩]
          simp [h1, h2]
        · rw [x0m (.inr (by omega))]
          simp [h1, h2]
      · rw [x0m (.inl (by omega))]
        simp [h1]
    rcases x6e t with hz | ⟨g, hg, rfl, hr⟩
    · rw [hz]
      simp only [Bool.false_eq_true, if_false]
      exact key
    · rw [hr]
      simp only [if_true]
      rw [xgf hg.f64]
      simp only [Option.bind_some, if_true]
      exact key
theorem xj0 {r : Report} (h0 : i64 r.code ∧ i64 r.passes ∧ i64 r.trans ∧ i64 r.writes) (h1 : ∀ f ∈ r.found, f64 f) (h2 : ∀ f ∈ r.done, f64 f) (h3 : ∀ f ∈ r.left, f64 f) : x3d r = some true := by
  unfold x3d
  rw [awake37]
  by_cases c1 : 60 < (r.found.length : Int)
  · rw [if_pos c1]; rfl
  · rw [if_neg c1]
    by_cases c2 : 60 < (r.done.length : Int)
    · rw [if_pos c2]; rfl
    · rw [if_neg c2]
      by_cases c3 : 60 < (r.left.length : Int)
      · rw [if_pos c3]; rfl
      · rw [if_neg c3]
        have hq : frq r := ⟨h0, ⟨by omega, h1⟩, ⟨by omega, h2⟩, ⟨by omega, h3⟩⟩
        have ht : xad r = some (bB (textR r)) := by
          unfold xad
          rw [ckY hq]
          rfl
        rw [ht, x7v (frq_of hq)]
        simp only [Option.bind_some, if_true]
end Go.Proofs.YtjmnoaoeediodaaDoor.AL

/- Any clause's name, any finding as text, and the finding of any text, are what the document says; it is read from its text, and has just this one. -/
namespace Go.Proofs.YtjmnoaoeediodaaDoor
theorem AL.i64_k {n : Int} (h : IntKind.i64.min ≤ n ∧ n ≤ IntKind.i64.max) : AL.i64 n := h
theorem AL.fine_f64 {f : AL.Finding} (h : f.fine) : AL.F64 f := ⟨h.1, h.2.1, h.2.2.1, h.2.2.2⟩
theorem reportTells_holds : Rows.ReportTellsCardSaid := xql (xvk fun n f s hn hf _ => AL.xlv n f s true (AL.xk0 s (AL.i64_k hn) (AL.fine_f64 hf)))
#print axioms reportTells_holds
end Go.Proofs.YtjmnoaoeediodaaDoor

