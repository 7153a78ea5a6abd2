/- A law of the given program is proved: part 51 of 51. -/
import Derived.Test.YtfkgckbdknpcnaaGreatDoorA50
set_option linter.all false
/- Models of functions, and that the functions are as their models: written by gen.py. -/
set_option linter.all false
set_option maxRecDepth 100000
namespace Go.Proofs.YtfkgckbdknpcnaaGreatDoor.AL
open Go Go.Proofs
def x0b (a0 : ByteArray) (a1 : Int) : Option (Bool) := (xql a0).bind fun v1 => (xod v1).bind fun v3 => (xpb v3 ([(⟨a1, 0, 4, (-1)⟩ : Finding)] : List Finding)).bind fun v6 => some v6
def x1g := aI (aI (aI (@EV) (@R9)) (aI (@R29) (aI (@R34) (@R36)))) (aI (aI (@DBranch) (aI (@DStack) (@DFinding))) (aI (@DAttr) (aI (@DNode) (@DEntry))))
set_option maxHeartbeats 2000000 in
theorem xng (a0 : ByteArray) (a1 : Int) (r : Bool) (hm0 : x0b a0 a1 = some r) : Ok Tryz.prog 17 [str a0, int a1] (bool r) := by
 unfold x0b at hm0
 refine okG xkw ?_
 unfold xgo
 obtain ⟨v1, h2, hm0⟩ := bsE hm0
 simp only [x1g, ↓EVd, isCall, sevalprocAttr]
 refine qc (x81 _ _ h2) rfl ?_
 obtain ⟨v3, h4, hm0⟩ := bsE hm0
 simp only [x1g, ↓EVd, isCall, sevalprocAttr]
 refine qc (xgl _ _ h4) rfl ?_
 have e5 : (.agg [int a1, int 0, int 4, int (-1)] : AV) = xcb (⟨a1, 0, 4, (-1)⟩ : Finding) := _root_.id rfl
 obtain ⟨v6, h7, hm0⟩ := bsE hm0
 simp only [e5, x1g, ↓EVd, isCall, sevalprocAttr]
 refine qcb (xne _ _ _ h7) rfl (by simp only [e5, FZ, CLO, x1g, ↓EVd, isCall, sevalprocAttr]) ?_
 obtain rfl := Option.some.inj hm0
 simp only [e5, x1g, ↓EVd, isCall, sevalprocAttr]
 all_goals first | done | rfl
def xvd  : Option (Bool) := (x0b (ByteArray.mk #[47, 100]) 10).bind fun v1 => if v1 = true then (x0b (ByteArray.mk #[47]) 10).bind fun v5 => if v5 = true then (x0b (ByteArray.mk #[47, 120]) 11).bind fun v9 => if v9 = true then (x0b (ByteArray.mk #[97]) 11).bind fun v13 => if v13 = true then (x0b (ByteArray.mk #[97, 47]) 9).bind fun v17 => if v17 = true then (xad ([(ByteArray.mk #[100])] : List ByteArray) (ByteArray.mk #[100])).bind fun v21 => if v21 = true then (x0n ).bind fun v25 => (xkd v25).bind fun v27 => (xyb v27 ([(⟨1, 1⟩ : Place)] : List Place)).bind fun v30 => some v30
 else some false
 else some false
 else some false
 else some false
 else some false
 else some false
def xub := aI (aI (aI (@EV) (aI (@R3) (@R9))) (aI (@R29) (aI (@R30) (@R39)))) (aI (aI (@R41) (aI (@DBranch) (@DStack))) (aI (aI (@DPlace) (@DAttr)) (aI (@DNode) (@DEntry))))
set_option maxHeartbeats 2000000 in
theorem x9g  (r : Bool) (hm0 : xvd  = some r) : Ok Tryz.prog 5 [] (bool r) := by
 unfold xvd at hm0
 refine okG xky ?_
 unfold x5q
 obtain ⟨v1, h2, hm0⟩ := bsE hm0
 simp only [xub, ↓EVd, isCall, sevalprocAttr]
 refine qc (xng _ _ _ h2) rfl ?_
 rcases itbE hm0 with ⟨e4, hm0⟩ | ⟨e4, hm0⟩
 · obtain ⟨v5, h6, hm0⟩ := bsE hm0
   simp only [e4, xub, ↓EVd, isCall, sevalprocAttr]
   refine qc (xng _ _ _ h6) rfl ?_
   rcases itbE hm0 with ⟨e8, hm0⟩ | ⟨e8, hm0⟩
   · obtain ⟨v9, h10, hm0⟩ := bsE hm0
     simp only [e4, e8, xub, ↓EVd, isCall, sevalprocAttr]
     refine qc (xng _ _ _ h10) rfl ?_
     rcases itbE hm0 with ⟨e12, hm0⟩ | ⟨e12, hm0⟩
     · obtain ⟨v13, h14, hm0⟩ := bsE hm0
       simp only [e4, e8, e12, xub, ↓EVd, isCall, sevalprocAttr]
       refine qc (xng _ _ _ h14) rfl ?_
       rcases itbE hm0 with ⟨e16, hm0⟩ | ⟨e16, hm0⟩
       · obtain ⟨v17, h18, hm0⟩ := bsE hm0
         simp only [e4, e8, e12, e16, xub, ↓EVd, isCall, sevalprocAttr]
         refine qc (xng _ _ _ h18) rfl ?_
         rcases itbE hm0 with ⟨e20, hm0⟩ | ⟨e20, hm0⟩
         · obtain ⟨v21, h22, hm0⟩ := bsE hm0
           simp only [e4, e8, e12, e16, e20, xub, ↓EVd, isCall, sevalprocAttr]
           refine qcb (x5j _ _ _ h22) rfl (by simp only [e4, e8, e12, e16, e20, FZ, CLO, xub, ↓EVd, isCall, sevalprocAttr]) ?_
           rcases itbE hm0 with ⟨e24, hm0⟩ | ⟨e24, hm0⟩
           · obtain ⟨v25, h26, hm0⟩ := bsE hm0
             simp only [e4, e8, e12, e16, e20, e24, xub, ↓EVd, isCall, sevalprocAttr]
             refine qc (x80  _ h26) rfl ?_
             obtain ⟨v27, h28, hm0⟩ := bsE hm0
             simp only [e4, e8, e12, e16, e20, e24, xub, ↓EVd, isCall, sevalprocAttr]
             refine qc (xdm _ _ h28) rfl ?_
             have e29 : (.agg [int 1, int 1] : AV) = xc (⟨1, 1⟩ : Place) := _root_.id rfl
             obtain ⟨v30, h31, hm0⟩ := bsE hm0
             simp only [e4, e8, e12, e16, e20, e24, e29, xub, ↓EVd, isCall, sevalprocAttr]
             refine qcb (xnf _ _ _ h31) rfl (by simp only [e4, e8, e12, e16, e20, e24, e29, FZ, CLO, xub, ↓EVd, isCall, sevalprocAttr]) ?_
             obtain rfl := Option.some.inj hm0
             simp only [e4, e8, e12, e16, e20, e24, e29, xub, ↓EVd, isCall, sevalprocAttr]
             all_goals first | done | rfl
           obtain rfl := Option.some.inj hm0
           simp only [e4, e8, e12, e16, e20, e24, xub, ↓EVd, isCall, sevalprocAttr]
           all_goals first | done | rfl
         obtain rfl := Option.some.inj hm0
         simp only [e4, e8, e12, e16, e20, xub, ↓EVd, isCall, sevalprocAttr]
         all_goals first | done | rfl
       obtain rfl := Option.some.inj hm0
       simp only [e4, e8, e12, e16, xub, ↓EVd, isCall, sevalprocAttr]
       all_goals first | done | rfl
     obtain rfl := Option.some.inj hm0
     simp only [e4, e8, e12, xub, ↓EVd, isCall, sevalprocAttr]
     all_goals first | done | rfl
   obtain rfl := Option.some.inj hm0
   simp only [e4, e8, xub, ↓EVd, isCall, sevalprocAttr]
   all_goals first | done | rfl
 obtain rfl := Option.some.inj hm0
 simp only [e4, xub, ↓EVd, isCall, sevalprocAttr]
 all_goals first | done | rfl
def xmf (a0 : Stack) (a1 : List ByteArray) (a2 : ByteArray) : Option (Bool) := (xme a0 24).bind fun v1 => if (!v1) = true then (xvd ).bind fun v5 => some v5
 else if 10 < (a1.length : Int) then (xvd ).bind fun v9 => some v9
 else if 60 < (a2.size : Int) then (xvd ).bind fun v13 => some v13
 else (xod a0).bind fun v15 => (xog a0).bind fun v17 => (xpb v15 v17).bind fun v19 => if v19 = true then (xkd a0).bind fun v23 => (xag a0).bind fun v25 => (xyb v23 v25).bind fun v27 => if v27 = true then (xad a1 a2).bind fun v31 => (xpf a1 a2).bind fun v33 => if v31 = true then if v33 = true then (xvd ).bind fun v39 => some v39
 else some false
 else if v33 = true then some false
 else (xvd ).bind fun v43 => some v43
 else some false
 else some false
def xm := aI (aI (aI (aI (@EV) (@R3)) (aI (@R4) (@R9))) (aI (aI (@R29) (@R30)) (aI (@R34) (aI (@R36) (@R39))))) (aI (aI (aI (@R41) (@DBranch)) (aI (@DStack) (@DFinding))) (aI (aI (@DPlace) (@DAttr)) (aI (@DNode) (aI (@DEntry) (@mixed)))))
set_option maxHeartbeats 2000000 in
theorem xzo (a0 : Stack) (a1 : List ByteArray) (a2 : ByteArray) (r : Bool) (hm0 : xmf a0 a1 a2 = some r) : Ok Tryz.prog 3 [xl a0, .sl 1 (a1.map str), str a2] (bool r) := by
 unfold xmf at hm0
 refine okG x8o ?_
 unfold x1k
 obtain ⟨v1, h2, hm0⟩ := bsE hm0
 simp only [xm, ↓EVd, isCall, sevalprocAttr]
 refine qc (x6y _ _ _ h2) rfl ?_
 rcases itbE hm0 with ⟨e4, hm0⟩ | ⟨e4, hm0⟩
 · obtain ⟨v5, h6, hm0⟩ := bsE hm0
   simp only [e4, xm, ↓EVd, isCall, sevalprocAttr]
   refine qc (x9g  _ h6) rfl ?_
   obtain rfl := Option.some.inj hm0
   simp only [e4, xm, ↓EVd, isCall, sevalprocAttr]
   all_goals first | done | rfl
 rcases iteE hm0 with ⟨e8, hm0⟩ | ⟨e8, hm0⟩
 · obtain ⟨v9, h10, hm0⟩ := bsE hm0
   simp only [e4, e8, xm, ↓EVd, isCall, sevalprocAttr]
   refine qc (x9g  _ h10) rfl ?_
   obtain rfl := Option.some.inj hm0
   simp only [e4, e8, xm, ↓EVd, isCall, sevalprocAttr]
   all_goals first | done | rfl
 rcases iteE hm0 with ⟨e12, hm0⟩ | ⟨e12, hm0⟩
 · obtain ⟨v13, h14, hm0⟩ := bsE hm0
   simp only [e4, e8, e12, xm, ↓EVd, isCall, sevalprocAttr]
   refine qc (x9g  _ h14) rfl ?_
   obtain rfl := Option.some.inj hm0
   simp only [e4, e8, e12, xm, ↓EVd, isCall, sevalprocAttr]
   all_goals first | done | rfl
 obtain ⟨v15, h16, hm0⟩ := bsE hm0
 simp only [e4, e8, e12, xm, ↓EVd, isCall, sevalprocAttr]
 refine qd (xgl _ _ h16) rfl ?_
 obtain ⟨v17, h18, hm0⟩ := bsE hm0
 simp only [e4, e8, e12, xm, ↓EVd, isCall, sevalprocAttr]
 refine qd (xzu _ _ h18) rfl ?_
 obtain ⟨v19, h20, hm0⟩ := bsE hm0
 simp only [e4, e8, e12, xm, ↓EVd, isCall, sevalprocAttr]
 refine qd (xne _ _ _ h20) rfl ?_
 rcases itbE hm0 with ⟨e22, hm0⟩ | ⟨e22, hm0⟩
 · obtain ⟨v23, h24, hm0⟩ := bsE hm0
   simp only [e4, e8, e12, e22, xm, ↓EVd, isCall, sevalprocAttr]
   refine qd (xdm _ _ h24) rfl ?_
   obtain ⟨v25, h26, hm0⟩ := bsE hm0
   simp only [e4, e8, e12, e22, xm, ↓EVd, isCall, sevalprocAttr]
   refine qd (xbo _ _ h26) rfl ?_
   obtain ⟨v27, h28, hm0⟩ := bsE hm0
   simp only [e4, e8, e12, e22, xm, ↓EVd, isCall, sevalprocAttr]
   refine qd (xnf _ _ _ h28) rfl ?_
   rcases itbE hm0 with ⟨e30, hm0⟩ | ⟨e30, hm0⟩
   · obtain ⟨v31, h32, hm0⟩ := bsE hm0
     simp only [e4, e8, e12, e22, e30, xm, ↓EVd, isCall, sevalprocAttr]
     refine qd (x5j _ _ _ h32) rfl ?_
     obtain ⟨v33, h34, hm0⟩ := bsE hm0
     simp only [e4, e8, e12, e22, e30, xm, ↓EVd, isCall, sevalprocAttr]
     refine qd (xyp _ _ _ h34) rfl ?_
     rcases itbE hm0 with ⟨e36, hm0⟩ | ⟨e36, hm0⟩
     · rcases itbE hm0 with ⟨e38, hm0⟩ | ⟨e38, hm0⟩
       · obtain ⟨v39, h40, hm0⟩ := bsE hm0
         simp only [e4, e8, e12, e22, e30, e36, e38, xm, ↓EVd, isCall, sevalprocAttr]
         refine qd (x9g  _ h40) rfl ?_
         obtain rfl := Option.some.inj hm0
         simp only [e4, e8, e12, e22, e30, e36, e38, xm, ↓EVd, isCall, sevalprocAttr]
         all_goals first | done | rfl
       obtain rfl := Option.some.inj hm0
       simp only [e4, e8, e12, e22, e30, e36, e38, xm, ↓EVd, isCall, sevalprocAttr]
       all_goals first | done | rfl
     rcases itbE hm0 with ⟨e42, hm0⟩ | ⟨e42, hm0⟩
     · obtain rfl := Option.some.inj hm0
       simp only [e4, e8, e12, e22, e30, e36, e42, xm, ↓EVd, isCall, sevalprocAttr]
       all_goals first | done | rfl
     obtain ⟨v43, h44, hm0⟩ := bsE hm0
     simp only [e4, e8, e12, e22, e30, e36, e42, xm, ↓EVd, isCall, sevalprocAttr]
     refine qd (x9g  _ h44) rfl ?_
     obtain rfl := Option.some.inj hm0
     simp only [e4, e8, e12, e22, e30, e36, e42, xm, ↓EVd, isCall, sevalprocAttr]
     all_goals first | done | rfl
   obtain rfl := Option.some.inj hm0
   simp only [e4, e8, e12, e22, e30, xm, ↓EVd, isCall, sevalprocAttr]
   all_goals first | done | rfl
 obtain rfl := Option.some.inj hm0
 simp only [e4, e8, e12, e22, xm, ↓EVd, isCall, sevalprocAttr]
 all_goals first | done | rfl
end Go.Proofs.YtfkgckbdknpcnaaGreatDoor.AL

/- Plain laws of chapter 21: the law. -/
set_option linter.all false
namespace Go.Proofs.YtfkgckbdknpcnaaGreatDoor.AL
open Go Go.Proofs
def loop21 (t : ByteArray) : Stack := ⟨⟨1, 5, 6, 5⟩, ⟨[⟨1, 0, 2, 0, [], [⟨0, 4, ByteArray.mk #[100]⟩], ⟨0, 0, xk, ⟨0, 0, 0⟩, 0⟩⟩, ⟨1, 0, 2, 0, [], [], ⟨0, 0, xk, ⟨0, 0, 0⟩, 0⟩⟩, ⟨1, 0, 2, 0, [], [], ⟨0, 0, xk, ⟨0, 0, 0⟩, 0⟩⟩, ⟨1, 0, 2, 0, [], [], ⟨2, 0, t, ⟨0, 0, 0⟩, 0⟩⟩, ⟨0, 0, 0, 0, [], [], ⟨0, 0, xk, ⟨0, 0, 0⟩, 0⟩⟩]⟩, [⟨[⟨1, 0, 2, 0, [], [⟨0, 2, ByteArray.mk #[97]⟩], ⟨0, 0, xk, ⟨0, 0, 0⟩, 0⟩⟩, ⟨2, 0, 1, 3, [120], [], ⟨0, 0, xk, ⟨0, 0, 0⟩, 0⟩⟩, ⟨0, 0, 0, 0, [], [], ⟨0, 0, xk, ⟨0, 0, 0⟩, 0⟩⟩, ⟨0, 0, 0, 0, [], [], ⟨0, 0, xk, ⟨0, 0, 0⟩, 0⟩⟩, ⟨0, 0, 0, 0, [], [], ⟨0, 0, xk, ⟨0, 0, 0⟩, 0⟩⟩]⟩]⟩
theorem xmcb : findP (loop21 (ByteArray.mk #[47, 100])) = [⟨10, 0, 4, -1⟩] := by kernel_rfl
theorem x2bb : findP (loop21 (ByteArray.mk #[47])) = [⟨10, 0, 4, -1⟩] := by kernel_rfl
theorem xfcb : findP (loop21 (ByteArray.mk #[47, 120])) = [⟨11, 0, 4, -1⟩] := by kernel_rfl
theorem xbdb : findP (loop21 (ByteArray.mk #[97])) = [⟨11, 0, 4, -1⟩] := by kernel_rfl
theorem x1db : findP (loop21 (ByteArray.mk #[97, 47])) = [⟨9, 0, 4, -1⟩] := by kernel_rfl
theorem sb_of {s : Stack} (h : xme s 24 = some true) : SB s := by
  obtain ⟨r, h1, h2⟩ := xf0 s
  rw [h] at h1
  injection h1 with h1
  exact h2 h1.symm
theorem aw21 {t : ByteArray} {c : Int} (hL : xql t = some (loop21 t)) (hS : xme (loop21 t) 24 = some true) (hf : findP (loop21 t) = [⟨c, 0, 4, -1⟩]) : x0b t c = some true := by
  unfold x0b
  have hb := sb_of hS
  rw [hL]
  simp only [Option.bind_some]
  rw [xar hb.sv hb.pb, hf]
  simp only [Option.bind_some]
  rw [x3q (by simp)]
  simp
theorem aw21_0 : x0b (ByteArray.mk #[47, 100]) 10 = some true := aw21 (by kernel_rfl) (by kernel_rfl) xmcb
theorem aw21_1 : x0b (ByteArray.mk #[47]) 10 = some true := aw21 (by kernel_rfl) (by kernel_rfl) x2bb
theorem aw21_2 : x0b (ByteArray.mk #[47, 120]) 11 = some true := aw21 (by kernel_rfl) (by kernel_rfl) xfcb
theorem aw21_3 : x0b (ByteArray.mk #[97]) 11 = some true := aw21 (by kernel_rfl) (by kernel_rfl) xbdb
theorem aw21_4 : x0b (ByteArray.mk #[97, 47]) 9 = some true := aw21 (by kernel_rfl) (by kernel_rfl) x1db
theorem lp21 : loopsP [ByteArray.mk #[100]] (ByteArray.mk #[100]) = true := by decide +kernel
theorem cl21 : ∃ s, x0n = some s ∧ xkd s = some [⟨1, 1⟩] := by
  refine ⟨_, rfl, ?_⟩
  kernel_rfl
theorem awake21 : xvd = some true := by
  unfold xvd
  obtain ⟨s, h1, h2⟩ := cl21
  rw [aw21_0, aw21_1, aw21_2, aw21_3, aw21_4, xjq (by simp), lp21, h1]
  simp only [Option.bind_some, if_true]
  rw [h2]
  simp only [Option.bind_some]
  rw [xav (by simp)]
  simp
theorem x4u (s : Stack) (own : List ByteArray) (tx : ByteArray) : xmf s own tx = some true := by
  unfold xmf
  obtain ⟨r, h1, h2⟩ := xf0 s
  rw [h1, awake21]
  simp only [Option.bind_some]
  cases r with
  | false => rfl
  | true =>
    have hsv := (h2 rfl).sv
    have hb := (h2 rfl).pb
    rw [if_neg (by simp)]
    by_cases h3 : 10 < (own.length : Int)
    · rw [if_pos h3]
    · rw [if_neg h3]
      by_cases h4 : 60 < (tx.size : Int)
      · rw [if_pos h4]
      · rw [if_neg h4, xar hsv hb, xxy hsv hb]
        have hl := xuab hb
        have hwl := xoe hb (fr := [1]) (by simp)
        have hvl := xxh hsv hb
        simp only [Option.bind_some]
        rw [x3q (by omega)]
        simp only [Option.bind_some, decide_true, if_true]
        rw [xc5 hsv hb, xiu hsv hb]
        simp only [Option.bind_some]
        rw [xav (by simp; omega)]
        simp only [Option.bind_some, decide_true, if_true]
        rw [xjq (by omega), xlv (by omega)]
        simp only [Option.bind_some]
        cases loopsP own tx <;> rfl
theorem xadb (s : Stack) (own : List ByteArray) (tx : ByteArray) : Ok Tryz.prog 3 [xl s, .sl 1 (own.map str), str tx] (bool true) := xzo s own tx true (x4u s own tx)
end Go.Proofs.YtfkgckbdknpcnaaGreatDoor.AL

/- Which redirects of any stack may not be, which lower directories the upper ones claim, and whether any redirect leads to itself, is what the document says. -/
namespace Go.Proofs.YtfkgckbdknpcnaaGreatDoor
theorem redirectTells_holds : Rows.RedirectTellsCardSaid := xop (x1o fun s own tx _ _ _ => AL.xadb s own tx)
#print axioms redirectTells_holds
end Go.Proofs.YtfkgckbdknpcnaaGreatDoor

