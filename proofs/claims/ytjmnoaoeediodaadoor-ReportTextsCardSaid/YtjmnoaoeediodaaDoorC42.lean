/- A law of the given program is proved: part 42 of 47. -/
import Derived.Test.YtjmnoaoeediodaaDoorC41
set_option linter.all false
/- Models of functions, and that the functions are as their models: written by gen.py. -/
set_option linter.all false
set_option maxRecDepth 100000
namespace Go.Proofs.YtjmnoaoeediodaaDoor.AL
open Go Go.Proofs
def xbd (a0 : Bool) : Option (ByteArray) := if a0 = true then some (ByteArray.mk #[121, 101, 115])
 else some (ByteArray.mk #[110, 111])
def x2j := (@EV)
set_option maxHeartbeats 2000000 in
theorem xee (a0 : Bool) (r : ByteArray) (hm0 : xbd a0 = some r) : Ok Tryd.prog 43 [bool a0] (str r) := by
 unfold xbd at hm0
 refine okG xmo ?_
 unfold xwj
 rcases itbE hm0 with ⟨e2, hm0⟩ | ⟨e2, hm0⟩
 · obtain rfl := Option.some.inj hm0
   simp only [e2, x2j, ↓EVd, isCall, sevalprocAttr]
   all_goals first | done | rfl
 obtain rfl := Option.some.inj hm0
 simp only [e2, x2j, ↓EVd, isCall, sevalprocAttr]
 all_goals first | done | rfl
def xpf  : Option (List ByteArray) := some ([(ByteArray.mk #[99, 104, 101, 99, 107]), (ByteArray.mk #[97, 117, 116, 111]), (ByteArray.mk #[115, 99, 114, 105, 112, 116])] : List ByteArray)
def xpj := aI (@EV) (aI (@R9) (@R53))
set_option maxHeartbeats 2000000 in
theorem x2i  (r : List ByteArray) (hm0 : xpf  = some r) : Ok Tryd.prog 44 [] (.sl 1 (r.map str)) := by
 unfold xpf at hm0
 refine okG x0o ?_
 unfold x3j
 obtain rfl := Option.some.inj hm0
 simp only [xpj, ↓EVd, isCall, sevalprocAttr]
 all_goals first | done | rfl | exact frzR_e (by simp only [FZ, CLO, xpj, ↓EVd, isCall, sevalprocAttr])
def xic (a0 : Answer) : Option (ByteArray) := (xpc a0.clause).bind fun v1 => if v1 = xzc then (xbd a0.yes).bind fun v5 => (ck (v5.size + (ByteArray.mk #[32]).size ≤ 9223372036854775807)).bind fun _ => (ck ((v5 ++ (ByteArray.mk #[32])).size + (ByteArray.mk #[63]).size ≤ 9223372036854775807)).bind fun _ => (ck (((v5 ++ (ByteArray.mk #[32])) ++ (ByteArray.mk #[63])).size + (ByteArray.mk #[32]).size ≤ 9223372036854775807)).bind fun _ => (xhb a0.ino).bind fun v13 => (ck ((((v5 ++ (ByteArray.mk #[32])) ++ (ByteArray.mk #[63])) ++ (ByteArray.mk #[32])).size + v13.size ≤ 9223372036854775807)).bind fun _ => (ck (((((v5 ++ (ByteArray.mk #[32])) ++ (ByteArray.mk #[63])) ++ (ByteArray.mk #[32])) ++ v13).size + (ByteArray.mk #[58]).size ≤ 9223372036854775807)).bind fun _ => (xhb a0.slot).bind fun v19 => (ck ((((((v5 ++ (ByteArray.mk #[32])) ++ (ByteArray.mk #[63])) ++ (ByteArray.mk #[32])) ++ v13) ++ (ByteArray.mk #[58])).size + v19.size ≤ 9223372036854775807)).bind fun _ => some ((((((v5 ++ (ByteArray.mk #[32])) ++ (ByteArray.mk #[63])) ++ (ByteArray.mk #[32])) ++ v13) ++ (ByteArray.mk #[58])) ++ v19)
 else (xbd a0.yes).bind fun v23 => (ck (v23.size + (ByteArray.mk #[32]).size ≤ 9223372036854775807)).bind fun _ => (ck ((v23 ++ (ByteArray.mk #[32])).size + v1.size ≤ 9223372036854775807)).bind fun _ => (ck (((v23 ++ (ByteArray.mk #[32])) ++ v1).size + (ByteArray.mk #[32]).size ≤ 9223372036854775807)).bind fun _ => (xhb a0.ino).bind fun v31 => (ck ((((v23 ++ (ByteArray.mk #[32])) ++ v1) ++ (ByteArray.mk #[32])).size + v31.size ≤ 9223372036854775807)).bind fun _ => (ck (((((v23 ++ (ByteArray.mk #[32])) ++ v1) ++ (ByteArray.mk #[32])) ++ v31).size + (ByteArray.mk #[58]).size ≤ 9223372036854775807)).bind fun _ => (xhb a0.slot).bind fun v37 => (ck ((((((v23 ++ (ByteArray.mk #[32])) ++ v1) ++ (ByteArray.mk #[32])) ++ v31) ++ (ByteArray.mk #[58])).size + v37.size ≤ 9223372036854775807)).bind fun _ => some ((((((v23 ++ (ByteArray.mk #[32])) ++ v1) ++ (ByteArray.mk #[32])) ++ v31) ++ (ByteArray.mk #[58])) ++ v37)
def xwc := aI (aI (@EV) (aI (@R3) (@R4))) (aI (aI (@R9) (@R36)) (aI (@DAnswer) (@mixed)))
set_option maxHeartbeats 2000000 in
theorem xyd (a0 : Answer) (r : ByteArray) (hm0 : xic a0 = some r) : Ok Tryd.prog 19 [xc a0] (str r) := by
 unfold xic at hm0
 refine okG xxp ?_
 unfold xcl
 obtain ⟨v1, h2, hm0⟩ := bsE hm0
 simp only [xwc, ↓EVd, isCall, sevalprocAttr]
 refine qc (x0e _ _ h2) rfl ?_
 rcases iteE hm0 with ⟨e4, hm0⟩ | ⟨e4, hm0⟩
 · obtain ⟨v5, h6, hm0⟩ := bsE hm0
   simp only [e4, xwc, ↓EVd, isCall, sevalprocAttr]
   refine qd (xee _ _ h6) rfl ?_
   obtain ⟨e8, hm0⟩ := ckE hm0
   obtain ⟨e10, hm0⟩ := ckE hm0
   obtain ⟨e12, hm0⟩ := ckE hm0
   obtain ⟨v13, h14, hm0⟩ := bsE hm0
   simp only [e4, e8, e10, e12, xwc, ↓EVd, isCall, sevalprocAttr]
   refine qd (xvb _ _ h14) rfl ?_
   obtain ⟨e16, hm0⟩ := ckE hm0
   obtain ⟨e18, hm0⟩ := ckE hm0
   obtain ⟨v19, h20, hm0⟩ := bsE hm0
   simp only [e4, e8, e10, e12, e16, e18, xwc, ↓EVd, isCall, sevalprocAttr]
   refine qd (xvb _ _ h20) rfl ?_
   obtain ⟨e22, hm0⟩ := ckE hm0
   obtain rfl := Option.some.inj hm0
   simp only [e4, e8, e10, e12, e16, e18, e22, xwc, ↓EVd, isCall, sevalprocAttr]
   all_goals first | done | rfl
 obtain ⟨v23, h24, hm0⟩ := bsE hm0
 simp only [e4, xwc, ↓EVd, isCall, sevalprocAttr]
 refine qd (xee _ _ h24) rfl ?_
 obtain ⟨e26, hm0⟩ := ckE hm0
 obtain ⟨e28, hm0⟩ := ckE hm0
 obtain ⟨e30, hm0⟩ := ckE hm0
 obtain ⟨v31, h32, hm0⟩ := bsE hm0
 simp only [e4, e26, e28, e30, xwc, ↓EVd, isCall, sevalprocAttr]
 refine qd (xvb _ _ h32) rfl ?_
 obtain ⟨e34, hm0⟩ := ckE hm0
 obtain ⟨e36, hm0⟩ := ckE hm0
 obtain ⟨v37, h38, hm0⟩ := bsE hm0
 simp only [e4, e26, e28, e30, e34, e36, xwc, ↓EVd, isCall, sevalprocAttr]
 refine qd (xvb _ _ h38) rfl ?_
 obtain ⟨e40, hm0⟩ := ckE hm0
 obtain rfl := Option.some.inj hm0
 simp only [e4, e26, e28, e30, e34, e36, e40, xwc, ↓EVd, isCall, sevalprocAttr]
 all_goals first | done | rfl
def x6d (a0 : ByteArray) : Option (Answer × Bool) := (x5b a0 (ByteArray.mk #[32])).bind fun v1 => (x5b v1.2.1 (ByteArray.mk #[32])).bind fun v3 => (ck (v3.1.size + (ByteArray.mk #[32, 48, 58]).size ≤ 9223372036854775807)).bind fun _ => (ck ((v3.1 ++ (ByteArray.mk #[32, 48, 58])).size + v3.2.1.size ≤ 9223372036854775807)).bind fun _ => (xxc ((v3.1 ++ (ByteArray.mk #[32, 48, 58])) ++ v3.2.1)).bind fun v9 => if v1.1 = (ByteArray.mk #[121, 101, 115]) then if (!v9.2) = true then some ((⟨0, 0, 0, false⟩ : Answer), false)
 else (xic (⟨v9.1.clause, v9.1.ino, v9.1.slot, true⟩ : Answer)).bind fun v17 => if v17 = a0 then some ((⟨v9.1.clause, v9.1.ino, v9.1.slot, true⟩ : Answer), true)
 else some ((⟨0, 0, 0, false⟩ : Answer), false)
 else if (!v9.2) = true then some ((⟨0, 0, 0, false⟩ : Answer), false)
 else (xic (⟨v9.1.clause, v9.1.ino, v9.1.slot, false⟩ : Answer)).bind fun v26 => if v26 = a0 then some ((⟨v9.1.clause, v9.1.ino, v9.1.slot, false⟩ : Answer), true)
 else some ((⟨0, 0, 0, false⟩ : Answer), false)
def x4b := aI (aI (@EV) (aI (@R3) (@R9))) (aI (aI (@R23) (@R36)) (aI (@DFinding) (@DAnswer)))
set_option maxHeartbeats 2000000 in
theorem x9g (a0 : ByteArray) (r : Answer × Bool) (hm0 : x6d a0 = some r) : Ok Tryd.prog 23 [str a0] (.tup [xc r.1, bool r.2]) := by
 unfold x6d at hm0
 refine okG xrp ?_
 unfold x4k
 obtain ⟨v1, h2, hm0⟩ := bsE hm0
 simp only [x4b, ↓EVd, isCall, sevalprocAttr]
 refine qc (xfh _ _ _ h2) rfl ?_
 obtain ⟨v3, h4, hm0⟩ := bsE hm0
 simp only [x4b, ↓EVd, isCall, sevalprocAttr]
 refine qc (xfh _ _ _ h4) rfl ?_
 obtain ⟨e6, hm0⟩ := ckE hm0
 obtain ⟨e8, hm0⟩ := ckE hm0
 obtain ⟨v9, h10, hm0⟩ := bsE hm0
 simp only [e6, e8, x4b, ↓EVd, isCall, sevalprocAttr]
 refine qc (xse _ _ h10) rfl ?_
 rcases iteE hm0 with ⟨e12, hm0⟩ | ⟨e12, hm0⟩
 · have e13 : (.agg [int v9.1.clause, int v9.1.ino, int v9.1.slot, bool true] : AV) = xc (⟨v9.1.clause, v9.1.ino, v9.1.slot, true⟩ : Answer) := _root_.id rfl
   rcases itbE hm0 with ⟨e15, hm0⟩ | ⟨e15, hm0⟩
   · have e16 : (.agg [int 0, int 0, int 0, bool false] : AV) = xc (⟨0, 0, 0, false⟩ : Answer) := _root_.id rfl
     obtain rfl := Option.some.inj hm0
     simp only [e6, e8, e12, e13, e15, e16, x4b, ↓EVd, isCall, sevalprocAttr]
     all_goals first | done | rfl | exact xg (by simp only [CLO]) | exact xj (by simp only [CLO]) (Sub.tup (Subs.cons (Sub.refl _) (Subs.cons (Sub.refl _) (Subs.nil))))
   obtain ⟨v17, h18, hm0⟩ := bsE hm0
   simp only [e6, e8, e12, e13, e15, x4b, ↓EVd, isCall, sevalprocAttr]
   refine qc (xyd _ _ h18) rfl ?_
   rcases iteE hm0 with ⟨e20, hm0⟩ | ⟨e20, hm0⟩
   · obtain rfl := Option.some.inj hm0
     simp only [e6, e8, e12, e13, e15, e20, x4b, ↓EVd, isCall, sevalprocAttr]
     all_goals first | done | rfl | exact xg (by simp only [CLO]) | exact xj (by simp only [CLO]) (Sub.tup (Subs.cons (Sub.refl _) (Subs.cons (Sub.refl _) (Subs.nil))))
   have e21 : (.agg [int 0, int 0, int 0, bool false] : AV) = xc (⟨0, 0, 0, false⟩ : Answer) := _root_.id rfl
   obtain rfl := Option.some.inj hm0
   simp only [e6, e8, e12, e13, e15, e20, e21, x4b, ↓EVd, isCall, sevalprocAttr]
   all_goals first | done | rfl | exact xg (by simp only [CLO]) | exact xj (by simp only [CLO]) (Sub.tup (Subs.cons (Sub.refl _) (Subs.cons (Sub.refl _) (Subs.nil))))
 have e22 : (.agg [int v9.1.clause, int v9.1.ino, int v9.1.slot, bool false] : AV) = xc (⟨v9.1.clause, v9.1.ino, v9.1.slot, false⟩ : Answer) := _root_.id rfl
 rcases itbE hm0 with ⟨e24, hm0⟩ | ⟨e24, hm0⟩
 · have e25 : (.agg [int 0, int 0, int 0, bool false] : AV) = xc (⟨0, 0, 0, false⟩ : Answer) := _root_.id rfl
   obtain rfl := Option.some.inj hm0
   simp only [e6, e8, e12, e22, e24, e25, x4b, ↓EVd, isCall, sevalprocAttr]
   all_goals first | done | rfl | exact xg (by simp only [CLO]) | exact xj (by simp only [CLO]) (Sub.tup (Subs.cons (Sub.refl _) (Subs.cons (Sub.refl _) (Subs.nil))))
 obtain ⟨v26, h27, hm0⟩ := bsE hm0
 simp only [e6, e8, e12, e22, e24, x4b, ↓EVd, isCall, sevalprocAttr]
 refine qc (xyd _ _ h27) rfl ?_
 rcases iteE hm0 with ⟨e29, hm0⟩ | ⟨e29, hm0⟩
 · obtain rfl := Option.some.inj hm0
   simp only [e6, e8, e12, e22, e24, e29, x4b, ↓EVd, isCall, sevalprocAttr]
   all_goals first | done | rfl | exact xg (by simp only [CLO]) | exact xj (by simp only [CLO]) (Sub.tup (Subs.cons (Sub.refl _) (Subs.cons (Sub.refl _) (Subs.nil))))
 have e30 : (.agg [int 0, int 0, int 0, bool false] : AV) = xc (⟨0, 0, 0, false⟩ : Answer) := _root_.id rfl
 obtain rfl := Option.some.inj hm0
 simp only [e6, e8, e12, e22, e24, e29, e30, x4b, ↓EVd, isCall, sevalprocAttr]
 all_goals first | done | rfl | exact xg (by simp only [CLO]) | exact xj (by simp only [CLO]) (Sub.tup (Subs.cons (Sub.refl _) (Subs.cons (Sub.refl _) (Subs.nil))))
def xyb (a0 : ByteArray) (v4 : Int) (v8 : ByteArray) : Int → Option (St (Int) ((Unit) ⊕ (Script × Bool)))
 | v12 => if v12 < 2 then if v12 = 0 then (ck (v8.size + (ByteArray.mk #[32]).size ≤ 9223372036854775807)).bind fun _ => (xbd false).bind fun v24 => (ck ((v8 ++ (ByteArray.mk #[32])).size + v24.size ≤ 9223372036854775807)).bind fun _ => if a0 = ((v8 ++ (ByteArray.mk #[32])) ++ v24) then some (.out (.inr ((⟨v4, [], false⟩ : Script), true)))
 else some (.nx (wr (v12 + 1)))
 else (ck (v12 = 1)).bind fun _ => (ck (v8.size + (ByteArray.mk #[32]).size ≤ 9223372036854775807)).bind fun _ => (xbd true).bind fun v38 => (ck ((v8 ++ (ByteArray.mk #[32])).size + v38.size ≤ 9223372036854775807)).bind fun _ => if a0 = ((v8 ++ (ByteArray.mk #[32])) ++ v38) then some (.out (.inr ((⟨v4, [], true⟩ : Script), true)))
 else some (.nx (wr (v12 + 1)))
 else some (.out (.inl ()))
def x7c (a0 : ByteArray) (v1 : List ByteArray) : Int → Option (St (Int) ((Unit) ⊕ (Script × Bool)))
 | v4 => if v4 < (v1.length : Int) then (ix v1 v4).bind fun v8 => (iter (xyb a0 v4 v8) big 0).bind fun o => (match o with
 | (.inl _) => some (.nx (wr (v4 + 1)))
 | (.inr r) => some (.out (.inr r)))
 else some (.out (.inl ()))
def xwf (a0 : ByteArray) : Option (Script × Bool) := (xpf ).bind fun v1 => (iter (x7c a0 v1) big 0).bind fun o => (match o with
 | (.inl _) => some ((⟨0, [], false⟩ : Script), false)
 | (.inr r) => some r)
def xq := aI (aI (aI (@EV) (@R3)) (aI (@R4) (@R9))) (aI (aI (@R39) (@R53)) (aI (@R92) (aI (@DAnswer) (@DScript))))
end Go.Proofs.YtjmnoaoeediodaaDoor.AL

