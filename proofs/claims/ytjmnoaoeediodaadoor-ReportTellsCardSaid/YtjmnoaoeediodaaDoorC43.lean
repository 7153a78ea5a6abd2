/- A law of the given program is proved: part 43 of 47. -/
import Derived.RangeFuncNested
import Derived.RangeFuncBound
import Derived.RangeFuncCalls
import Derived.RangeFuncLeaves
import Derived.Test.YtjmnoaoeediodaaDoorC42
set_option linter.all false
/- Models of functions, and that the functions are as their models: written by gen.py. -/
set_option linter.all false
set_option maxRecDepth 100000
namespace Go.Proofs.YtjmnoaoeediodaaDoor.AL
open Go Go.Proofs
def xsc (a0 : Answer) : Option (ByteArray) := if a0.yes = true then (x0d a0.clause).bind fun v3 => (ck ((ByteArray.mk #[121, 101, 115, 32]).size + v3.size ≤ 9223372036854775807)).bind fun _ => (ck (((ByteArray.mk #[121, 101, 115, 32]) ++ v3).size + (ByteArray.mk #[32]).size ≤ 9223372036854775807)).bind fun _ => (xu a0.ino).bind fun v9 => (ck ((((ByteArray.mk #[121, 101, 115, 32]) ++ v3) ++ (ByteArray.mk #[32])).size + v9.size ≤ 9223372036854775807)).bind fun _ => (ck (((((ByteArray.mk #[121, 101, 115, 32]) ++ v3) ++ (ByteArray.mk #[32])) ++ v9).size + (ByteArray.mk #[58]).size ≤ 9223372036854775807)).bind fun _ => (xu a0.slot).bind fun v15 => (ck ((((((ByteArray.mk #[121, 101, 115, 32]) ++ v3) ++ (ByteArray.mk #[32])) ++ v9) ++ (ByteArray.mk #[58])).size + v15.size ≤ 9223372036854775807)).bind fun _ => some ((((((ByteArray.mk #[121, 101, 115, 32]) ++ v3) ++ (ByteArray.mk #[32])) ++ v9) ++ (ByteArray.mk #[58])) ++ v15)
 else (x0d a0.clause).bind fun v19 => (ck ((ByteArray.mk #[110, 111, 32]).size + v19.size ≤ 9223372036854775807)).bind fun _ => (ck (((ByteArray.mk #[110, 111, 32]) ++ v19).size + (ByteArray.mk #[32]).size ≤ 9223372036854775807)).bind fun _ => (xu a0.ino).bind fun v25 => (ck ((((ByteArray.mk #[110, 111, 32]) ++ v19) ++ (ByteArray.mk #[32])).size + v25.size ≤ 9223372036854775807)).bind fun _ => (ck (((((ByteArray.mk #[110, 111, 32]) ++ v19) ++ (ByteArray.mk #[32])) ++ v25).size + (ByteArray.mk #[58]).size ≤ 9223372036854775807)).bind fun _ => (xu a0.slot).bind fun v31 => (ck ((((((ByteArray.mk #[110, 111, 32]) ++ v19) ++ (ByteArray.mk #[32])) ++ v25) ++ (ByteArray.mk #[58])).size + v31.size ≤ 9223372036854775807)).bind fun _ => some ((((((ByteArray.mk #[110, 111, 32]) ++ v19) ++ (ByteArray.mk #[32])) ++ v25) ++ (ByteArray.mk #[58])) ++ v31)
def xjd := aI (aI (@EV) (aI (@R3) (@R4))) (aI (aI (@R9) (@R36)) (aI (@DAnswer) (@mixed)))
set_option maxHeartbeats 2000000 in
theorem x2e (a0 : Answer) (r : ByteArray) (hm0 : xsc a0 = some r) : Ok Tryd.prog 20 [xc a0] (str r) := by
 unfold xsc at hm0
 refine okG x8q ?_
 unfold xom
 rcases itbE hm0 with ⟨e2, hm0⟩ | ⟨e2, hm0⟩
 · obtain ⟨v3, h4, hm0⟩ := bsE hm0
   simp only [e2, xjd, ↓EVd, isCall, sevalprocAttr]
   refine qd (x3h _ _ h4) rfl ?_
   obtain ⟨e6, hm0⟩ := ckE hm0
   obtain ⟨e8, hm0⟩ := ckE hm0
   obtain ⟨v9, h10, hm0⟩ := bsE hm0
   simp only [e2, e6, e8, xjd, ↓EVd, isCall, sevalprocAttr]
   refine qd (xfb _ _ h10) rfl ?_
   obtain ⟨e12, hm0⟩ := ckE hm0
   obtain ⟨e14, hm0⟩ := ckE hm0
   obtain ⟨v15, h16, hm0⟩ := bsE hm0
   simp only [e2, e6, e8, e12, e14, xjd, ↓EVd, isCall, sevalprocAttr]
   refine qd (xfb _ _ h16) rfl ?_
   obtain ⟨e18, hm0⟩ := ckE hm0
   obtain rfl := Option.some.inj hm0
   simp only [e2, e6, e8, e12, e14, e18, xjd, ↓EVd, isCall, sevalprocAttr]
   all_goals first | done | rfl
 obtain ⟨v19, h20, hm0⟩ := bsE hm0
 simp only [e2, xjd, ↓EVd, isCall, sevalprocAttr]
 refine qd (x3h _ _ h20) rfl ?_
 obtain ⟨e22, hm0⟩ := ckE hm0
 obtain ⟨e24, hm0⟩ := ckE hm0
 obtain ⟨v25, h26, hm0⟩ := bsE hm0
 simp only [e2, e22, e24, xjd, ↓EVd, isCall, sevalprocAttr]
 refine qd (xfb _ _ h26) rfl ?_
 obtain ⟨e28, hm0⟩ := ckE hm0
 obtain ⟨e30, hm0⟩ := ckE hm0
 obtain ⟨v31, h32, hm0⟩ := bsE hm0
 simp only [e2, e22, e24, e28, e30, xjd, ↓EVd, isCall, sevalprocAttr]
 refine qd (xfb _ _ h32) rfl ?_
 obtain ⟨e34, hm0⟩ := ckE hm0
 obtain rfl := Option.some.inj hm0
 simp only [e2, e22, e24, e28, e30, e34, xjd, ↓EVd, isCall, sevalprocAttr]
 all_goals first | done | rfl
def x1c (a0 : ByteArray) : Option (Answer × Bool) := (xpb a0 32).bind fun v1 => (xpb v1.2.1 32).bind fun v3 => (xpb v3.2.1 58).bind fun v5 => (xkc v5.1).bind fun v7 => (xkc v5.2.1).bind fun v9 => (x7d v3.1).bind fun v11 => if v1.1 = (ByteArray.mk #[121, 101, 115]) then if (!v1.2.2) = true then some ((⟨0, 0, 0, false⟩ : Answer), false)
 else if (!v3.2.2) = true then some ((⟨0, 0, 0, false⟩ : Answer), false)
 else if (!v5.2.2) = true then some ((⟨0, 0, 0, false⟩ : Answer), false)
 else if (!v7.2) = true then some ((⟨0, 0, 0, false⟩ : Answer), false)
 else if (!v9.2) = true then some ((⟨0, 0, 0, false⟩ : Answer), false)
 else if v11 = 0 then some ((⟨0, 0, 0, false⟩ : Answer), false)
 else (xsc (⟨v11, v7.1, v9.1, true⟩ : Answer)).bind fun v34 => if v34 = a0 then some ((⟨v11, v7.1, v9.1, true⟩ : Answer), true)
 else some ((⟨0, 0, 0, false⟩ : Answer), false)
 else if (!v1.2.2) = true then some ((⟨0, 0, 0, false⟩ : Answer), false)
 else if (!v3.2.2) = true then some ((⟨0, 0, 0, false⟩ : Answer), false)
 else if (!v5.2.2) = true then some ((⟨0, 0, 0, false⟩ : Answer), false)
 else if (!v7.2) = true then some ((⟨0, 0, 0, false⟩ : Answer), false)
 else if (!v9.2) = true then some ((⟨0, 0, 0, false⟩ : Answer), false)
 else if v11 = 0 then some ((⟨0, 0, 0, false⟩ : Answer), false)
 else (xsc (⟨v11, v7.1, v9.1, false⟩ : Answer)).bind fun v58 => if v58 = a0 then some ((⟨v11, v7.1, v9.1, false⟩ : Answer), true)
 else some ((⟨0, 0, 0, false⟩ : Answer), false)
def xp := aI (aI (@EV) (@R3)) (aI (@R9) (aI (@R36) (@DAnswer)))
set_option maxHeartbeats 2000000 in
theorem x0h (a0 : ByteArray) (r : Answer × Bool) (hm0 : x1c a0 = some r) : Ok Tryd.prog 24 [str a0] (.tup [xc r.1, bool r.2]) := by
 unfold x1c at hm0
 refine okG xqr ?_
 unfold x1m
 obtain ⟨v1, h2, hm0⟩ := bsE hm0
 simp only [xp, ↓EVd, isCall, sevalprocAttr]
 refine qc (xvc _ _ _ h2) rfl ?_
 obtain ⟨v3, h4, hm0⟩ := bsE hm0
 simp only [xp, ↓EVd, isCall, sevalprocAttr]
 refine qc (xvc _ _ _ h4) rfl ?_
 obtain ⟨v5, h6, hm0⟩ := bsE hm0
 simp only [xp, ↓EVd, isCall, sevalprocAttr]
 refine qc (xvc _ _ _ h6) rfl ?_
 obtain ⟨v7, h8, hm0⟩ := bsE hm0
 simp only [xp, ↓EVd, isCall, sevalprocAttr]
 refine qc (xge _ _ h8) rfl ?_
 obtain ⟨v9, h10, hm0⟩ := bsE hm0
 simp only [xp, ↓EVd, isCall, sevalprocAttr]
 refine qc (xge _ _ h10) rfl ?_
 obtain ⟨v11, h12, hm0⟩ := bsE hm0
 simp only [xp, ↓EVd, isCall, sevalprocAttr]
 refine qc (xoj _ _ h12) rfl ?_
 rcases iteE hm0 with ⟨e14, hm0⟩ | ⟨e14, hm0⟩
 · have e15 : (.agg [int v11, int v7.1, int v9.1, bool true] : AV) = xc (⟨v11, v7.1, v9.1, true⟩ : Answer) := _root_.id rfl
   rcases itbE hm0 with ⟨e17, hm0⟩ | ⟨e17, hm0⟩
   · have e18 : (.agg [int 0, int 0, int 0, bool false] : AV) = xc (⟨0, 0, 0, false⟩ : Answer) := _root_.id rfl
     obtain rfl := Option.some.inj hm0
     simp only [e14, e15, e17, e18, xp, ↓EVd, isCall, sevalprocAttr]
     all_goals first | done | rfl | exact xg (by simp only [CLO]) | exact xj (by simp only [CLO]) (Sub.tup (Subs.cons (Sub.refl _) (Subs.cons (Sub.refl _) (Subs.nil))))
   rcases itbE hm0 with ⟨e20, hm0⟩ | ⟨e20, hm0⟩
   · have e21 : (.agg [int 0, int 0, int 0, bool false] : AV) = xc (⟨0, 0, 0, false⟩ : Answer) := _root_.id rfl
     obtain rfl := Option.some.inj hm0
     simp only [e14, e15, e17, e20, e21, xp, ↓EVd, isCall, sevalprocAttr]
     all_goals first | done | rfl | exact xg (by simp only [CLO]) | exact xj (by simp only [CLO]) (Sub.tup (Subs.cons (Sub.refl _) (Subs.cons (Sub.refl _) (Subs.nil))))
   rcases itbE hm0 with ⟨e23, hm0⟩ | ⟨e23, hm0⟩
   · have e24 : (.agg [int 0, int 0, int 0, bool false] : AV) = xc (⟨0, 0, 0, false⟩ : Answer) := _root_.id rfl
     obtain rfl := Option.some.inj hm0
     simp only [e14, e15, e17, e20, e23, e24, xp, ↓EVd, isCall, sevalprocAttr]
     all_goals first | done | rfl | exact xg (by simp only [CLO]) | exact xj (by simp only [CLO]) (Sub.tup (Subs.cons (Sub.refl _) (Subs.cons (Sub.refl _) (Subs.nil))))
   rcases itbE hm0 with ⟨e26, hm0⟩ | ⟨e26, hm0⟩
   · have e27 : (.agg [int 0, int 0, int 0, bool false] : AV) = xc (⟨0, 0, 0, false⟩ : Answer) := _root_.id rfl
     obtain rfl := Option.some.inj hm0
     simp only [e14, e15, e17, e20, e23, e26, e27, xp, ↓EVd, isCall, sevalprocAttr]
     all_goals first | done | rfl | exact xg (by simp only [CLO]) | exact xj (by simp only [CLO]) (Sub.tup (Subs.cons (Sub.refl _) (Subs.cons (Sub.refl _) (Subs.nil))))
   rcases itbE hm0 with ⟨e29, hm0⟩ | ⟨e29, hm0⟩
   · have e30 : (.agg [int 0, int 0, int 0, bool false] : AV) = xc (⟨0, 0, 0, false⟩ : Answer) := _root_.id rfl
     obtain rfl := Option.some.inj hm0
     simp only [e14, e15, e17, e20, e23, e26, e29, e30, xp, ↓EVd, isCall, sevalprocAttr]
     all_goals first | done | rfl | exact xg (by simp only [CLO]) | exact xj (by simp only [CLO]) (Sub.tup (Subs.cons (Sub.refl _) (Subs.cons (Sub.refl _) (Subs.nil))))
   rcases iteE hm0 with ⟨e32, hm0⟩ | ⟨e32, hm0⟩
   · have e33 : (.agg [int 0, int 0, int 0, bool false] : AV) = xc (⟨0, 0, 0, false⟩ : Answer) := _root_.id rfl
     obtain rfl := Option.some.inj hm0
     simp only [e14, e15, e17, e20, e23, e26, e29, e32, e33, xp, ↓EVd, isCall, sevalprocAttr]
     all_goals first | done | rfl | exact xg (by simp only [CLO]) | exact xj (by simp only [CLO]) (Sub.tup (Subs.cons (Sub.refl _) (Subs.cons (Sub.refl _) (Subs.nil))))
   have g63 := And.intro (And.intro (And.intro ((e14)) ((e15))) (And.intro ((e17)) ((e20)))) (And.intro (And.intro ((e23)) ((e26))) (And.intro ((e29)) ((e32))))
   obtain ⟨v34, h35, hm0⟩ := bsE hm0
   simp only [g63, xp, ↓EVd, isCall, sevalprocAttr]
   refine qc (x2e _ _ h35) rfl ?_
   rcases iteE hm0 with ⟨e37, hm0⟩ | ⟨e37, hm0⟩
   · obtain rfl := Option.some.inj hm0
     simp only [g63, e37, xp, ↓EVd, isCall, sevalprocAttr]
     all_goals first | done | rfl | exact xg (by simp only [CLO]) | exact xj (by simp only [CLO]) (Sub.tup (Subs.cons (Sub.refl _) (Subs.cons (Sub.refl _) (Subs.nil))))
   have e38 : (.agg [int 0, int 0, int 0, bool false] : AV) = xc (⟨0, 0, 0, false⟩ : Answer) := _root_.id rfl
   obtain rfl := Option.some.inj hm0
   simp only [g63, e37, e38, xp, ↓EVd, isCall, sevalprocAttr]
   all_goals first | done | rfl | exact xg (by simp only [CLO]) | exact xj (by simp only [CLO]) (Sub.tup (Subs.cons (Sub.refl _) (Subs.cons (Sub.refl _) (Subs.nil))))
 have e39 : (.agg [int v11, int v7.1, int v9.1, bool false] : AV) = xc (⟨v11, v7.1, v9.1, false⟩ : Answer) := _root_.id rfl
 rcases itbE hm0 with ⟨e41, hm0⟩ | ⟨e41, hm0⟩
 · have e42 : (.agg [int 0, int 0, int 0, bool false] : AV) = xc (⟨0, 0, 0, false⟩ : Answer) := _root_.id rfl
   obtain rfl := Option.some.inj hm0
   simp only [e14, e39, e41, e42, xp, ↓EVd, isCall, sevalprocAttr]
   all_goals first | done | rfl | exact xg (by simp only [CLO]) | exact xj (by simp only [CLO]) (Sub.tup (Subs.cons (Sub.refl _) (Subs.cons (Sub.refl _) (Subs.nil))))
 rcases itbE hm0 with ⟨e44, hm0⟩ | ⟨e44, hm0⟩
 · have e45 : (.agg [int 0, int 0, int 0, bool false] : AV) = xc (⟨0, 0, 0, false⟩ : Answer) := _root_.id rfl
   obtain rfl := Option.some.inj hm0
   simp only [e14, e39, e41, e44, e45, xp, ↓EVd, isCall, sevalprocAttr]
   all_goals first | done | rfl | exact xg (by simp only [CLO]) | exact xj (by simp only [CLO]) (Sub.tup (Subs.cons (Sub.refl _) (Subs.cons (Sub.refl _) (Subs.nil))))
 rcases itbE hm0 with ⟨e47, hm0⟩ | ⟨e47, hm0⟩
 · have e48 : (.agg [int 0, int 0, int 0, bool false] : AV) = xc (⟨0, 0, 0, false⟩ : Answer) := _root_.id rfl
   obtain rfl := Option.some.inj hm0
   simp only [e14, e39, e41, e44, e47, e48, xp, ↓EVd, isCall, sevalprocAttr]
   all_goals first | done | rfl | exact xg (by simp only [CLO]) | exact xj (by simp only [CLO]) (Sub.tup (Subs.cons (Sub.refl _) (Subs.cons (Sub.refl _) (Subs.nil))))
 rcases itbE hm0 with ⟨e50, hm0⟩ | ⟨e50, hm0⟩
 · have e51 : (.agg [int 0, int 0, int 0, bool false] : AV) = xc (⟨0, 0, 0, false⟩ : Answer) := _root_.id rfl
   obtain rfl := Option.some.inj hm0
   simp only [e14, e39, e41, e44, e47, e50, e51, xp, ↓EVd, isCall, sevalprocAttr]
   all_goals first | done | rfl | exact xg (by simp only [CLO]) | exact xj (by simp only [CLO]) (Sub.tup (Subs.cons (Sub.refl _) (Subs.cons (Sub.refl _) (Subs.nil))))
 rcases itbE hm0 with ⟨e53, hm0⟩ | ⟨e53, hm0⟩
 · have e54 : (.agg [int 0, int 0, int 0, bool false] : AV) = xc (⟨0, 0, 0, false⟩ : Answer) := _root_.id rfl
   obtain rfl := Option.some.inj hm0
   simp only [e14, e39, e41, e44, e47, e50, e53, e54, xp, ↓EVd, isCall, sevalprocAttr]
   all_goals first | done | rfl | exact xg (by simp only [CLO]) | exact xj (by simp only [CLO]) (Sub.tup (Subs.cons (Sub.refl _) (Subs.cons (Sub.refl _) (Subs.nil))))
 rcases iteE hm0 with ⟨e56, hm0⟩ | ⟨e56, hm0⟩
 · have e57 : (.agg [int 0, int 0, int 0, bool false] : AV) = xc (⟨0, 0, 0, false⟩ : Answer) := _root_.id rfl
   obtain rfl := Option.some.inj hm0
   simp only [e14, e39, e41, e44, e47, e50, e53, e56, e57, xp, ↓EVd, isCall, sevalprocAttr]
   all_goals first | done | rfl | exact xg (by simp only [CLO]) | exact xj (by simp only [CLO]) (Sub.tup (Subs.cons (Sub.refl _) (Subs.cons (Sub.refl _) (Subs.nil))))
 have g64 := And.intro (And.intro (And.intro ((e14)) ((e39))) (And.intro ((e41)) ((e44)))) (And.intro (And.intro ((e47)) ((e50))) (And.intro ((e53)) ((e56))))
 obtain ⟨v58, h59, hm0⟩ := bsE hm0
 simp only [g64, xp, ↓EVd, isCall, sevalprocAttr]
 refine qc (x2e _ _ h59) rfl ?_
 rcases iteE hm0 with ⟨e61, hm0⟩ | ⟨e61, hm0⟩
 · obtain rfl := Option.some.inj hm0
   simp only [g64, e61, xp, ↓EVd, isCall, sevalprocAttr]
   all_goals first | done | rfl | exact xg (by simp only [CLO]) | exact xj (by simp only [CLO]) (Sub.tup (Subs.cons (Sub.refl _) (Subs.cons (Sub.refl _) (Subs.nil))))
 have e62 : (.agg [int 0, int 0, int 0, bool false] : AV) = xc (⟨0, 0, 0, false⟩ : Answer) := _root_.id rfl
 obtain rfl := Option.some.inj hm0
 simp only [g64, e61, e62, xp, ↓EVd, isCall, sevalprocAttr]
 all_goals first | done | rfl | exact xg (by simp only [CLO]) | exact xj (by simp only [CLO]) (Sub.tup (Subs.cons (Sub.refl _) (Subs.cons (Sub.refl _) (Subs.nil))))
def x5c (a0 : Int) : Option (ByteArray) := if a0 = 0 then some (ByteArray.mk #[99, 104, 101, 99, 107])
 else if a0 = 1 then some (ByteArray.mk #[97, 117, 116, 111])
 else if a0 = 2 then some (ByteArray.mk #[115, 99, 114, 105, 112, 116])
 else some (ByteArray.mk #[63])
def xzg := aI (@EV) (@R3)
set_option maxHeartbeats 2000000 in
theorem xag (a0 : Int) (r : ByteArray) (hm0 : x5c a0 = some r) : Ok Tryd.prog 45 [int a0] (str r) := by
 unfold x5c at hm0
 refine okG x9q ?_
 unfold xqm
 rcases iteE hm0 with ⟨e2, hm0⟩ | ⟨e2, hm0⟩
 · obtain rfl := Option.some.inj hm0
   simp only [e2, xzg, ↓EVd, isCall, sevalprocAttr]
   all_goals first | done | rfl
 rcases iteE hm0 with ⟨e4, hm0⟩ | ⟨e4, hm0⟩
 · obtain rfl := Option.some.inj hm0
   simp only [e2, e4, xzg, ↓EVd, isCall, sevalprocAttr]
   all_goals first | done | rfl
 rcases iteE hm0 with ⟨e6, hm0⟩ | ⟨e6, hm0⟩
 · obtain rfl := Option.some.inj hm0
   simp only [e2, e4, e6, xzg, ↓EVd, isCall, sevalprocAttr]
   all_goals first | done | rfl
 obtain rfl := Option.some.inj hm0
 simp only [e2, e4, e6, xzg, ↓EVd, isCall, sevalprocAttr]
 all_goals first | done | rfl
def xmd (a0 : Script) : (ByteArray × Int) → Option (St (ByteArray × Int) (ByteArray))
 | (v12, v13) => if v13 < (a0.answers.length : Int) then (ix a0.answers v13).bind fun v18 => (xsc v18).bind fun v21 => (ck (v12.size + v21.size ≤ 9223372036854775807)).bind fun _ => (ck ((v12 ++ v21).size + (ByteArray.mk #[10]).size ≤ 9223372036854775807)).bind fun _ => some (.nx (((v12 ++ v21) ++ (ByteArray.mk #[10])), (wr (v13 + 1))))
 else some (.out v12)
def x2g (a0 : Script) : (ByteArray × Int) → Option (St (ByteArray × Int) (ByteArray))
 | (v28, v29) => if v29 < (a0.answers.length : Int) then (ix a0.answers v29).bind fun v34 => (xsc v34).bind fun v37 => (ck (v28.size + v37.size ≤ 9223372036854775807)).bind fun _ => (ck ((v28 ++ v37).size + (ByteArray.mk #[10]).size ≤ 9223372036854775807)).bind fun _ => some (.nx (((v28 ++ v37) ++ (ByteArray.mk #[10])), (wr (v29 + 1))))
 else some (.out v28)
def xhd (a0 : Script) : Option (ByteArray) := (x5c a0.mode).bind fun v1 => (ck (v1.size + (ByteArray.mk #[32, 110, 111, 10]).size ≤ 9223372036854775807)).bind fun _ => if a0.default = true then (x5c a0.mode).bind fun v7 => (ck (v7.size + (ByteArray.mk #[32, 121, 101, 115, 10]).size ≤ 9223372036854775807)).bind fun _ => (iter (xmd a0) big ((v7 ++ (ByteArray.mk #[32, 121, 101, 115, 10])), 0)).bind fun o => (match o with
 | v15 => some v15)
 else (iter (x2g a0) big ((v1 ++ (ByteArray.mk #[32, 110, 111, 10])), 0)).bind fun o => (match o with
 | v31 => some v31)
def xw := aI (aI (aI (@EV) (@R3)) (aI (@R4) (@R9))) (aI (aI (@R36) (@R37)) (aI (@R39) (aI (@DAnswer) (@DScript))))
set_option maxHeartbeats 2000000 in
theorem x1h (a0 : Script) (r : ByteArray) (hm0 : xhd a0 = some r) : Ok Tryd.prog 22 [xl a0] (str r) := by
 unfold xhd at hm0
 refine okG xfr ?_
 unfold x2l
 obtain ⟨v1, h2, hm0⟩ := bsE hm0
 simp only [xw, ↓EVd, isCall, sevalprocAttr]
 refine qc (xag _ _ h2) rfl ?_
 obtain ⟨e4, hm0⟩ := ckE hm0
 rcases itbE hm0 with ⟨e6, hm0⟩ | ⟨e6, hm0⟩
 · obtain ⟨v7, h8, hm0⟩ := bsE hm0
   simp only [e4, e6, xw, ↓EVd, isCall, sevalprocAttr]
   refine qc (xag _ _ h8) rfl ?_
   obtain ⟨e10, hm0⟩ := ckE hm0
   obtain ⟨o0, ho0, hm0⟩ := bsE hm0
   simp only [e4, e6, e10, xw, ↓EVd, isCall, sevalprocAttr]
   refine cwp_cx 0 (fun s => ∃ v15 : ByteArray, (s.T 3 = str v15) ∧ v15 = o0) ?_ fun J0_0 hJ0_0 => ?_
   · rintro T0 H0 x14 ⟨v15, kk0_0, rfl⟩
     dsimp only [Lq, Nq] at kk0_0
     try dsimp only at hm0
     obtain rfl := Option.some.inj hm0
     simp only [kk0_0, e4, e6, e10, xw, ↓EVd, isCall, sevalprocAttr]
     all_goals first | done | rfl
   refine cwp_lp ho0 (fun (v12, v13) s => s.T 1 = .loc 0 3 0 0 ∧ s.T 3 = str v12 ∧ s.T 4 = int v13 ∧ s.H 0 = some (.row 39 3 [xl a0]) ∧ Lq 0 s.nx) ?_ ?_
   · refine TI.here ⟨?_, ?_, ?_, ?_, ?_⟩
     all_goals try simp only [e4, e6, e10, xw, ↓EVd, isCall, sevalprocAttr]
     all_goals first | omega | exact lq (by omega) | exact nq (by omega) | rfl | (congr 1; omega)
   rintro I0 ⟨v12, v13⟩ T0 H0 x11 st0 kk0 hm1 hI0 hO0
   dsimp only [Lq, Nq] at kk0
   simp only [xmd] at hm1
   rcases iteE hm1 with ⟨e17, hm1⟩ | ⟨e17, hm1⟩
   · obtain ⟨v18, e20, hm1⟩ := ixE xc hm1
     obtain ⟨v21, h22, hm1⟩ := bsE hm1
     simp only [kk0, e4, e6, e10, e17, e20, xw, ↓EVd, isCall, sevalprocAttr]
     refine qc (x2e _ _ h22) rfl ?_
     obtain ⟨e24, hm1⟩ := ckE hm1
     obtain ⟨e26, hm1⟩ := ckE hm1
     obtain rfl := Option.some.inj hm1
     simp only [kk0, e4, e6, e10, e17, e20, e24, e26, xw, ↓EVd, isCall, sevalprocAttr]
     refine TI.here (hI0 _ rfl _ ⟨?_, ?_, ?_, ?_, ?_⟩)
     all_goals try simp only [kk0, e4, e6, e10, e17, e20, e24, e26, xw, ↓EVd, isCall, sevalprocAttr]
     all_goals first | omega | exact lq (by omega) | exact nq (by omega) | rfl | (congr 1; omega)
   obtain rfl := Option.some.inj hm1
   simp only [kk0, e4, e6, e10, e17, xw, ↓EVd, isCall, sevalprocAttr]
   refine TI.here (hJ0_0 _ ⟨v12, ?_, hO0 _ rfl⟩)
   all_goals try simp only [kk0, e4, e6, e10, e17, xw, ↓EVd, isCall, sevalprocAttr]
   all_goals first | omega | exact lq (by omega) | exact nq (by omega) | rfl | (congr 1; omega)
 obtain ⟨o1, ho1, hm0⟩ := bsE hm0
 simp only [e4, e6, xw, ↓EVd, isCall, sevalprocAttr]
 refine cwp_cx 0 (fun s => ∃ v31 : ByteArray, (s.T 3 = str v31) ∧ v31 = o1) ?_ fun J1_0 hJ1_0 => ?_
 · rintro T1 H1 x30 ⟨v31, kk1_0, rfl⟩
   dsimp only [Lq, Nq] at kk1_0
   try dsimp only at hm0
   obtain rfl := Option.some.inj hm0
   simp only [kk1_0, e4, e6, xw, ↓EVd, isCall, sevalprocAttr]
   all_goals first | done | rfl
 refine cwp_lp ho1 (fun (v28, v29) s => s.T 1 = .loc 0 3 0 0 ∧ s.T 3 = str v28 ∧ s.T 4 = int v29 ∧ s.H 0 = some (.row 39 3 [xl a0]) ∧ Lq 0 s.nx) ?_ ?_
 · refine TI.here ⟨?_, ?_, ?_, ?_, ?_⟩
   all_goals try simp only [e4, e6, xw, ↓EVd, isCall, sevalprocAttr]
   all_goals first | omega | exact lq (by omega) | exact nq (by omega) | rfl | (congr 1; omega)
 rintro I1 ⟨v28, v29⟩ T1 H1 x27 st1 kk1 hm1 hI1 hO1
 dsimp only [Lq, Nq] at kk1
 simp only [x2g] at hm1
 rcases iteE hm1 with ⟨e33, hm1⟩ | ⟨e33, hm1⟩
 · obtain ⟨v34, e36, hm1⟩ := ixE xc hm1
   obtain ⟨v37, h38, hm1⟩ := bsE hm1
   simp only [kk1, e4, e6, e33, e36, xw, ↓EVd, isCall, sevalprocAttr]
   refine qc (x2e _ _ h38) rfl ?_
   obtain ⟨e40, hm1⟩ := ckE hm1
   obtain ⟨e42, hm1⟩ := ckE hm1
   obtain rfl := Option.some.inj hm1
   simp only [kk1, e4, e6, e33, e36, e40, e42, xw, ↓EVd, isCall, sevalprocAttr]
   refine TI.here (hI1 _ rfl _ ⟨?_, ?_, ?_, ?_, ?_⟩)
   all_goals try simp only [kk1, e4, e6, e33, e36, e40, e42, xw, ↓EVd, isCall, sevalprocAttr]
   all_goals first | omega | exact lq (by omega) | exact nq (by omega) | rfl | (congr 1; omega)
 obtain rfl := Option.some.inj hm1
 simp only [kk1, e4, e6, e33, xw, ↓EVd, isCall, sevalprocAttr]
 refine TI.here (hJ1_0 _ ⟨v28, ?_, hO1 _ rfl⟩)
 all_goals try simp only [kk1, e4, e6, e33, xw, ↓EVd, isCall, sevalprocAttr]
 all_goals first | omega | exact lq (by omega) | exact nq (by omega) | rfl | (congr 1; omega)
def xfg (v3 : ByteArray × ByteArray × Bool) : (Int × Int) → Option (St (Int × Int) (Int))
 | (v8, v9) => if v8 ≤ 2 then (x5c v8).bind fun v14 => if v14 = v3.1 then some (.nx ((wr (v8 + 1)), v8))
 else some (.nx ((wr (v8 + 1)), v9))
 else some (.out v9)
def xxi  : (ByteArray × List Answer) → Option (St (ByteArray × List Answer) ((List Answer) ⊕ (Script × Int)))
 | (v23, v25) => if 0 < (v23.size : Int) then (xpb v23 10).bind fun v31 => (x1c v31.1).bind fun v33 => if (!v31.2.2) = true then some (.out (.inr ((⟨0, [], false⟩ : Script), 2)))
 else if (!v33.2) = true then some (.out (.inr ((⟨0, [], false⟩ : Script), 2)))
 else (ap 32 v25 ([v33.1] : List Answer)).bind fun _ => some (.nx (v31.2.1, (v25 ++ ([v33.1] : List Answer))))
 else some (.out (.inl v25))
def xhg (v3 : ByteArray × ByteArray × Bool) : (Int × Int) → Option (St (Int × Int) (Int))
 | (v48, v49) => if v48 ≤ 2 then (x5c v48).bind fun v54 => if v54 = v3.1 then some (.nx ((wr (v48 + 1)), v48))
 else some (.nx ((wr (v48 + 1)), v49))
 else some (.out v49)
def xvi  : (ByteArray × List Answer) → Option (St (ByteArray × List Answer) ((List Answer) ⊕ (Script × Int)))
 | (v63, v65) => if 0 < (v63.size : Int) then (xpb v63 10).bind fun v71 => (x1c v71.1).bind fun v73 => if (!v71.2.2) = true then some (.out (.inr ((⟨0, [], false⟩ : Script), 2)))
 else if (!v73.2) = true then some (.out (.inr ((⟨0, [], false⟩ : Script), 2)))
 else (ap 32 v65 ([v73.1] : List Answer)).bind fun _ => some (.nx (v71.2.1, (v65 ++ ([v73.1] : List Answer))))
 else some (.out (.inl v65))
def x3e (a0 : ByteArray) : Option (Script × Int) := (xpb a0 10).bind fun v1 => (xpb v1.1 32).bind fun v3 => if v3.2.1 = (ByteArray.mk #[121, 101, 115]) then (iter (xfg v3) big (0, 0)).bind fun o => (match o with
 | v11 => if (!v1.2.2) = true then some ((⟨0, [], false⟩ : Script), 2)
 else if (!v3.2.2) = true then some ((⟨0, [], false⟩ : Script), 2)
 else (iter (xxi) big (v1.2.1, [])).bind fun o => (match o with
 | (.inl v28) => (xhd (⟨v11, v28, true⟩ : Script)).bind fun v43 => if v43 = a0 then some ((⟨v11, v28, true⟩ : Script), 0)
 else some ((⟨0, [], false⟩ : Script), 2)
 | (.inr r) => some r))
 else (iter (xhg v3) big (0, 0)).bind fun o => (match o with
 | v51 => if (!v1.2.2) = true then some ((⟨0, [], false⟩ : Script), 2)
 else if (!v3.2.2) = true then some ((⟨0, [], false⟩ : Script), 2)
 else (iter (xvi) big (v1.2.1, [])).bind fun o => (match o with
 | (.inl v68) => (xhd (⟨v51, v68, false⟩ : Script)).bind fun v83 => if v83 = a0 then some ((⟨v51, v68, false⟩ : Script), 0)
 else some ((⟨0, [], false⟩ : Script), 2)
 | (.inr r) => some r))
def xf := aI (aI (aI (@EV) (@R3)) (aI (@R9) (@R36))) (aI (aI (@R37) (@R39)) (aI (@DAnswer) (@DScript)))
set_option maxHeartbeats 2000000 in
theorem xvp (a0 : ByteArray) (r : Script × Int) (hm0 : x3e a0 = some r) : Ok Tryd.prog 26 [str a0] (.tup [xl r.1, int r.2]) := by
 unfold x3e at hm0
 refine okG x3p ?_
 unfold xel
 obtain ⟨v1, h2, hm0⟩ := bsE hm0
 simp only [xf, ↓EVd, isCall, sevalprocAttr]
 refine qc (xvc _ _ _ h2) rfl ?_
 obtain ⟨v3, h4, hm0⟩ := bsE hm0
 simp only [xf, ↓EVd, isCall, sevalprocAttr]
 refine qc (xvc _ _ _ h4) rfl ?_
 rcases iteE hm0 with ⟨e6, hm0⟩ | ⟨e6, hm0⟩
 · obtain ⟨o0, ho0, hm0⟩ := bsE hm0
   simp only [e6, xf, ↓EVd, isCall, sevalprocAttr]
   refine cwp_cx 0 (fun s => ∃ v11 : Int, (s.T 0 = str a0 ∧ s.T 2 = .loc 0 3 0 0 ∧ s.T 5 = str v1.2.1 ∧ s.T 6 = bool v1.2.2 ∧ s.T 9 = bool v3.2.2 ∧ s.T 10 = .loc 23 3 0 0 ∧ s.H 0 = some (.row 39 3 [.agg [int 0, nilS, bool false]]) ∧ s.H 23 = some (.row 39 3 [.agg [int v11, nilS, bool true]]) ∧ Lq 0 s.nx ∧ Lq 23 s.nx) ∧ v11 = o0) ?_ fun J0_0 hJ0_0 => ?_
   · rintro T0 H0 x10 ⟨v11, kk0_0, rfl⟩
     dsimp only [Lq, Nq] at kk0_0
     try dsimp only at hm0
     rcases itbE hm0 with ⟨e19, hm0⟩ | ⟨e19, hm0⟩
     · obtain rfl := Option.some.inj hm0
       simp only [kk0_0, e6, e19, xf, ↓EVd, isCall, sevalprocAttr]
       all_goals first | done | rfl | exact xg (by simp only [CLO]) | exact xj (by simp only [CLO]) (Sub.tup (Subs.cons (Sub.agg (Subs.cons (Sub.refl _) (Subs.cons (Sub.nilS _) (Subs.cons (Sub.refl _) (Subs.nil))))) (Subs.cons (Sub.refl _) (Subs.nil))))
     rcases itbE hm0 with ⟨e21, hm0⟩ | ⟨e21, hm0⟩
     · obtain rfl := Option.some.inj hm0
       simp only [kk0_0, e6, e19, e21, xf, ↓EVd, isCall, sevalprocAttr]
       all_goals first | done | rfl | exact xg (by simp only [CLO]) | exact xj (by simp only [CLO]) (Sub.tup (Subs.cons (Sub.agg (Subs.cons (Sub.refl _) (Subs.cons (Sub.nilS _) (Subs.cons (Sub.refl _) (Subs.nil))))) (Subs.cons (Sub.refl _) (Subs.nil))))
     obtain ⟨o1, ho1, hm0⟩ := bsE hm0
     simp only [kk0_0, e6, e19, e21, xf, ↓EVd, isCall, sevalprocAttr]
     refine cwp_cx 2 (fun s => ∃ v28 : List Answer, ∃ l27 : Nat, (s.T 0 = str a0 ∧ s.T 2 = .loc 0 3 0 0 ∧ s.T 10 = .loc 23 3 0 0 ∧ s.H 0 = some (.row 39 3 [.agg [int 0, nilS, bool false]]) ∧ s.H 23 = some (.row 39 3 [.agg [int v11, .msl l27 v28.length, bool true]]) ∧ s.H l27 = some (.row 36 4 (v28.map xc)) ∧ Lq 0 s.nx ∧ Lq 23 s.nx ∧ Lq l27 s.nx ∧ Nq 0 l27 ∧ Nq 23 l27) ∧ (.inl v28) = o1) ?_ fun J1_0 hJ1_0 => ?_
     · rintro T1 H1 x26 ⟨v28, l27, kk1_0, rfl⟩
       dsimp only [Lq, Nq] at kk1_0
       try dsimp only at hm0
       obtain ⟨v43, h44, hm0⟩ := bsE hm0
       simp only [kk1_0, e6, e19, e21, xf, ↓EVd, isCall, sevalprocAttr]
       refine qcbs (x1h _ _ h44) rfl (.cons (.agg (.refl _)) .nil) (by simp only [kk1_0, e6, e19, e21, FZ, CLO, xf, ↓EVd, isCall, sevalprocAttr]) ?_
       rcases iteE hm0 with ⟨e46, hm0⟩ | ⟨e46, hm0⟩
       · obtain rfl := Option.some.inj hm0
         simp only [kk1_0, e6, e19, e21, e46, xf, ↓EVd, isCall, sevalprocAttr]
         all_goals first | done | rfl | exact xju 9 (by simp only [kk1_0, e6, e19, e21, e46, FZ, CLO, xf, ↓EVd, isCall, sevalprocAttr]) (Sub.tup (Subs.cons (Sub.agg (Subs.cons (Sub.refl _) (Subs.cons (Sub.refl _) (Subs.cons (Sub.refl _) (Subs.nil))))) (Subs.cons (Sub.refl _) (Subs.nil))))
       obtain rfl := Option.some.inj hm0
       simp only [kk1_0, e6, e19, e21, e46, xf, ↓EVd, isCall, sevalprocAttr]
       all_goals first | done | rfl | exact xg (by simp only [CLO]) | exact xj (by simp only [CLO]) (Sub.tup (Subs.cons (Sub.agg (Subs.cons (Sub.refl _) (Subs.cons (Sub.nilS _) (Subs.cons (Sub.refl _) (Subs.nil))))) (Subs.cons (Sub.refl _) (Subs.nil))))
     refine cwp_lp ho1 (fun (v23, v25) s => ∃ l24 : Nat, s.T 0 = str a0 ∧ s.T 2 = .loc 0 3 0 0 ∧ s.T 5 = str v23 ∧ s.T 10 = .loc 23 3 0 0 ∧ s.H 0 = some (.row 39 3 [.agg [int 0, nilS, bool false]]) ∧ s.H 23 = some (.row 39 3 [.agg [int v11, .msl l24 v25.length, bool true]]) ∧ s.H l24 = some (.row 36 4 (v25.map xc)) ∧ Lq 0 s.nx ∧ Lq 23 s.nx ∧ Lq l24 s.nx ∧ Nq 0 l24 ∧ Nq 23 l24) ?_ ?_
     · refine TI.by (Tn.adoptC 23 1 39 3 36 4 [int v11, nilS, bool true] (by simp only [kk0_0, e6, e19, e21, xf, ↓EVd, isCall, sevalprocAttr]) rfl) ?_
       refine TI.here ⟨(x10 + 6), ?_, ?_, ?_, ?_, ?_, ?_, ?_, ?_, ?_, ?_, ?_, ?_⟩
       all_goals try simp only [kk0_0, e6, e19, e21, xf, ↓EVd, isCall, sevalprocAttr]
       all_goals first | omega | exact lq (by omega) | exact nq (by omega) | rfl | (congr 1; omega)
     rintro I1 ⟨v23, v25⟩ T1 H1 x22 st1 ⟨l24, kk1⟩ hm1 hI1 hO1
     dsimp only [Lq, Nq] at kk1
     simp only [xxi] at hm1
     rcases iteE hm1 with ⟨e30, hm1⟩ | ⟨e30, hm1⟩
     · obtain ⟨v31, h32, hm1⟩ := bsE hm1
       simp only [kk1, e6, e19, e21, e30, xf, ↓EVd, isCall, sevalprocAttr]
       refine qc (xvc _ _ _ h32) rfl ?_
       obtain ⟨v33, h34, hm1⟩ := bsE hm1
       simp only [kk1, e6, e19, e21, e30, xf, ↓EVd, isCall, sevalprocAttr]
       refine qc (x0h _ _ h34) rfl ?_
       rcases itbE hm1 with ⟨e36, hm1⟩ | ⟨e36, hm1⟩
       · obtain rfl := Option.some.inj hm1
         obtain rfl := hO1 _ rfl
         try dsimp only at hm0
         obtain rfl := Option.some.inj hm0
         simp only [kk1, e6, e19, e21, e30, e36, xf, ↓EVd, isCall, sevalprocAttr]
         all_goals first | done | rfl | exact xg (by simp only [CLO]) | exact xj (by simp only [CLO]) (Sub.tup (Subs.cons (Sub.agg (Subs.cons (Sub.refl _) (Subs.cons (Sub.nilS _) (Subs.cons (Sub.refl _) (Subs.nil))))) (Subs.cons (Sub.refl _) (Subs.nil))))
       rcases itbE hm1 with ⟨e38, hm1⟩ | ⟨e38, hm1⟩
       · obtain rfl := Option.some.inj hm1
         obtain rfl := hO1 _ rfl
         try dsimp only at hm0
         obtain rfl := Option.some.inj hm0
         simp only [kk1, e6, e19, e21, e30, e36, e38, xf, ↓EVd, isCall, sevalprocAttr]
         all_goals first | done | rfl | exact xg (by simp only [CLO]) | exact xj (by simp only [CLO]) (Sub.tup (Subs.cons (Sub.agg (Subs.cons (Sub.refl _) (Subs.cons (Sub.nilS _) (Subs.cons (Sub.refl _) (Subs.nil))))) (Subs.cons (Sub.refl _) (Subs.nil))))
       obtain ⟨e41, hm1⟩ := apE hm1
       try simp only [ZL] at e41
       obtain rfl := Option.some.inj hm1
       simp only [kk1, e6, e19, e21, e30, e36, e38, e41, xf, ↓EVd, isCall, sevalprocAttr]
       refine TI.here (hI1 _ rfl _ ⟨(x22 + 30), ?_, ?_, ?_, ?_, ?_, ?_, ?_, ?_, ?_, ?_, ?_, ?_⟩)
       all_goals try simp only [kk1, e6, e19, e21, e30, e36, e38, e41, xf, ↓EVd, isCall, sevalprocAttr]
       all_goals first | omega | exact lq (by omega) | exact nq (by omega) | rfl | (congr 1; omega)
     obtain rfl := Option.some.inj hm1
     simp only [kk1, e6, e19, e21, e30, xf, ↓EVd, isCall, sevalprocAttr]
     refine TI.here (hJ1_0 _ ⟨v25, l24, ⟨?_, ?_, ?_, ?_, ?_, ?_, ?_, ?_, ?_, ?_, ?_⟩, hO1 _ rfl⟩)
     all_goals try simp only [kk1, e6, e19, e21, e30, xf, ↓EVd, isCall, sevalprocAttr]
     all_goals first | omega | exact lq (by omega) | exact nq (by omega) | rfl | (congr 1; omega)
   refine cwp_lp ho0 (fun (v8, v9) s => s.T 0 = str a0 ∧ s.T 2 = .loc 0 3 0 0 ∧ s.T 5 = str v1.2.1 ∧ s.T 6 = bool v1.2.2 ∧ s.T 7 = str v3.1 ∧ s.T 9 = bool v3.2.2 ∧ s.T 10 = .loc 23 3 0 0 ∧ s.T 11 = int v8 ∧ s.H 0 = some (.row 39 3 [.agg [int 0, nilS, bool false]]) ∧ s.H 23 = some (.row 39 3 [.agg [int v9, nilS, bool true]]) ∧ Lq 0 s.nx ∧ Lq 23 s.nx) ?_ ?_
   · refine TI.here ⟨?_, ?_, ?_, ?_, ?_, ?_, ?_, ?_, ?_, ?_, ?_, ?_⟩
     all_goals try simp only [e6, xf, ↓EVd, isCall, sevalprocAttr]
     all_goals first | omega | exact lq (by omega) | exact nq (by omega) | rfl | (congr 1; omega)
   rintro I0 ⟨v8, v9⟩ T0 H0 x7 st0 kk0 hm1 hI0 hO0
   dsimp only [Lq, Nq] at kk0
   simp only [xfg] at hm1
   rcases iteE hm1 with ⟨e13, hm1⟩ | ⟨e13, hm1⟩
   · obtain ⟨v14, h15, hm1⟩ := bsE hm1
     simp only [kk0, e6, e13, xf, ↓EVd, isCall, sevalprocAttr]
     refine qc (xag _ _ h15) rfl ?_
     rcases iteE hm1 with ⟨e17, hm1⟩ | ⟨e17, hm1⟩
     · obtain rfl := Option.some.inj hm1
       simp only [kk0, e6, e13, e17, xf, ↓EVd, isCall, sevalprocAttr]
       refine TI.here (hI0 _ rfl _ ⟨?_, ?_, ?_, ?_, ?_, ?_, ?_, ?_, ?_, ?_, ?_, ?_⟩)
       all_goals try simp only [kk0, e6, e13, e17, xf, ↓EVd, isCall, sevalprocAttr]
       all_goals first | omega | exact lq (by omega) | exact nq (by omega) | rfl | (congr 1; omega)
     obtain rfl := Option.some.inj hm1
     simp only [kk0, e6, e13, e17, xf, ↓EVd, isCall, sevalprocAttr]
     refine TI.here (hI0 _ rfl _ ⟨?_, ?_, ?_, ?_, ?_, ?_, ?_, ?_, ?_, ?_, ?_, ?_⟩)
     all_goals try simp only [kk0, e6, e13, e17, xf, ↓EVd, isCall, sevalprocAttr]
     all_goals first | omega | exact lq (by omega) | exact nq (by omega) | rfl | (congr 1; omega)
   obtain rfl := Option.some.inj hm1
   simp only [kk0, e6, e13, xf, ↓EVd, isCall, sevalprocAttr]
   refine TI.here (hJ0_0 _ ⟨v9, ⟨?_, ?_, ?_, ?_, ?_, ?_, ?_, ?_, ?_, ?_⟩, hO0 _ rfl⟩)
   all_goals try simp only [kk0, e6, e13, xf, ↓EVd, isCall, sevalprocAttr]
   all_goals first | omega | exact lq (by omega) | exact nq (by omega) | rfl | (congr 1; omega)
 obtain ⟨o2, ho2, hm0⟩ := bsE hm0
 simp only [e6, xf, ↓EVd, isCall, sevalprocAttr]
 refine cwp_cx 0 (fun s => ∃ v51 : Int, (s.T 0 = str a0 ∧ s.T 2 = .loc 0 3 0 0 ∧ s.T 5 = str v1.2.1 ∧ s.T 6 = bool v1.2.2 ∧ s.T 9 = bool v3.2.2 ∧ s.T 10 = .loc 23 3 0 0 ∧ s.H 0 = some (.row 39 3 [.agg [int 0, nilS, bool false]]) ∧ s.H 23 = some (.row 39 3 [.agg [int v51, nilS, bool false]]) ∧ Lq 0 s.nx ∧ Lq 23 s.nx) ∧ v51 = o2) ?_ fun J2_0 hJ2_0 => ?_
 · rintro T2 H2 x50 ⟨v51, kk2_0, rfl⟩
   dsimp only [Lq, Nq] at kk2_0
   try dsimp only at hm0
   rcases itbE hm0 with ⟨e59, hm0⟩ | ⟨e59, hm0⟩
   · obtain rfl := Option.some.inj hm0
     simp only [kk2_0, e6, e59, xf, ↓EVd, isCall, sevalprocAttr]
     all_goals first | done | rfl | exact xg (by simp only [CLO]) | exact xj (by simp only [CLO]) (Sub.tup (Subs.cons (Sub.agg (Subs.cons (Sub.refl _) (Subs.cons (Sub.nilS _) (Subs.cons (Sub.refl _) (Subs.nil))))) (Subs.cons (Sub.refl _) (Subs.nil))))
   rcases itbE hm0 with ⟨e61, hm0⟩ | ⟨e61, hm0⟩
   · obtain rfl := Option.some.inj hm0
     simp only [kk2_0, e6, e59, e61, xf, ↓EVd, isCall, sevalprocAttr]
     all_goals first | done | rfl | exact xg (by simp only [CLO]) | exact xj (by simp only [CLO]) (Sub.tup (Subs.cons (Sub.agg (Subs.cons (Sub.refl _) (Subs.cons (Sub.nilS _) (Subs.cons (Sub.refl _) (Subs.nil))))) (Subs.cons (Sub.refl _) (Subs.nil))))
   obtain ⟨o3, ho3, hm0⟩ := bsE hm0
   simp only [kk2_0, e6, e59, e61, xf, ↓EVd, isCall, sevalprocAttr]
   refine cwp_cx 2 (fun s => ∃ v68 : List Answer, ∃ l67 : Nat, (s.T 0 = str a0 ∧ s.T 2 = .loc 0 3 0 0 ∧ s.T 10 = .loc 23 3 0 0 ∧ s.H 0 = some (.row 39 3 [.agg [int 0, nilS, bool false]]) ∧ s.H 23 = some (.row 39 3 [.agg [int v51, .msl l67 v68.length, bool false]]) ∧ s.H l67 = some (.row 36 4 (v68.map xc)) ∧ Lq 0 s.nx ∧ Lq 23 s.nx ∧ Lq l67 s.nx ∧ Nq 0 l67 ∧ Nq 23 l67) ∧ (.inl v68) = o3) ?_ fun J3_0 hJ3_0 => ?_
   · rintro T3 H3 x66 ⟨v68, l67, kk3_0, rfl⟩
     dsimp only [Lq, Nq] at kk3_0
     try dsimp only at hm0
     obtain ⟨v83, h84, hm0⟩ := bsE hm0
     simp only [kk3_0, e6, e59, e61, xf, ↓EVd, isCall, sevalprocAttr]
     refine qcbs (x1h _ _ h84) rfl (.cons (.agg (.refl _)) .nil) (by simp only [kk3_0, e6, e59, e61, FZ, CLO, xf, ↓EVd, isCall, sevalprocAttr]) ?_
     rcases iteE hm0 with ⟨e86, hm0⟩ | ⟨e86, hm0⟩
     · obtain rfl := Option.some.inj hm0
       simp only [kk3_0, e6, e59, e61, e86, xf, ↓EVd, isCall, sevalprocAttr]
       all_goals first | done | rfl | exact xju 9 (by simp only [kk3_0, e6, e59, e61, e86, FZ, CLO, xf, ↓EVd, isCall, sevalprocAttr]) (Sub.tup (Subs.cons (Sub.agg (Subs.cons (Sub.refl _) (Subs.cons (Sub.refl _) (Subs.cons (Sub.refl _) (Subs.nil))))) (Subs.cons (Sub.refl _) (Subs.nil))))
     obtain rfl := Option.some.inj hm0
     simp only [kk3_0, e6, e59, e61, e86, xf, ↓EVd, isCall, sevalprocAttr]
     all_goals first | done | rfl | exact xg (by simp only [CLO]) | exact xj (by simp only [CLO]) (Sub.tup (Subs.cons (Sub.agg (Subs.cons (Sub.refl _) (Subs.cons (Sub.nilS _) (Subs.cons (Sub.refl _) (Subs.nil))))) (Subs.cons (Sub.refl _) (Subs.nil))))
   refine cwp_lp ho3 (fun (v63, v65) s => ∃ l64 : Nat, s.T 0 = str a0 ∧ s.T 2 = .loc 0 3 0 0 ∧ s.T 5 = str v63 ∧ s.T 10 = .loc 23 3 0 0 ∧ s.H 0 = some (.row 39 3 [.agg [int 0, nilS, bool false]]) ∧ s.H 23 = some (.row 39 3 [.agg [int v51, .msl l64 v65.length, bool false]]) ∧ s.H l64 = some (.row 36 4 (v65.map xc)) ∧ Lq 0 s.nx ∧ Lq 23 s.nx ∧ Lq l64 s.nx ∧ Nq 0 l64 ∧ Nq 23 l64) ?_ ?_
   · refine TI.by (Tn.adoptC 23 1 39 3 36 4 [int v51, nilS, bool false] (by simp only [kk2_0, e6, e59, e61, xf, ↓EVd, isCall, sevalprocAttr]) rfl) ?_
     refine TI.here ⟨(x50 + 6), ?_, ?_, ?_, ?_, ?_, ?_, ?_, ?_, ?_, ?_, ?_, ?_⟩
     all_goals try simp only [kk2_0, e6, e59, e61, xf, ↓EVd, isCall, sevalprocAttr]
     all_goals first | omega | exact lq (by omega) | exact nq (by omega) | rfl | (congr 1; omega)
   rintro I3 ⟨v63, v65⟩ T3 H3 x62 st3 ⟨l64, kk3⟩ hm1 hI3 hO3
   dsimp only [Lq, Nq] at kk3
   simp only [xvi] at hm1
   rcases iteE hm1 with ⟨e70, hm1⟩ | ⟨e70, hm1⟩
   · obtain ⟨v71, h72, hm1⟩ := bsE hm1
     simp only [kk3, e6, e59, e61, e70, xf, ↓EVd, isCall, sevalprocAttr]
     refine qc (xvc _ _ _ h72) rfl ?_
     obtain ⟨v73, h74, hm1⟩ := bsE hm1
     simp only [kk3, e6, e59, e61, e70, xf, ↓EVd, isCall, sevalprocAttr]
     refine qc (x0h _ _ h74) rfl ?_
     rcases itbE hm1 with ⟨e76, hm1⟩ | ⟨e76, hm1⟩
     · obtain rfl := Option.some.inj hm1
       obtain rfl := hO3 _ rfl
       try dsimp only at hm0
       obtain rfl := Option.some.inj hm0
       simp only [kk3, e6, e59, e61, e70, e76, xf, ↓EVd, isCall, sevalprocAttr]
       all_goals first | done | rfl | exact xg (by simp only [CLO]) | exact xj (by simp only [CLO]) (Sub.tup (Subs.cons (Sub.agg (Subs.cons (Sub.refl _) (Subs.cons (Sub.nilS _) (Subs.cons (Sub.refl _) (Subs.nil))))) (Subs.cons (Sub.refl _) (Subs.nil))))
     rcases itbE hm1 with ⟨e78, hm1⟩ | ⟨e78, hm1⟩
     · obtain rfl := Option.some.inj hm1
       obtain rfl := hO3 _ rfl
       try dsimp only at hm0
       obtain rfl := Option.some.inj hm0
       simp only [kk3, e6, e59, e61, e70, e76, e78, xf, ↓EVd, isCall, sevalprocAttr]
       all_goals first | done | rfl | exact xg (by simp only [CLO]) | exact xj (by simp only [CLO]) (Sub.tup (Subs.cons (Sub.agg (Subs.cons (Sub.refl _) (Subs.cons (Sub.nilS _) (Subs.cons (Sub.refl _) (Subs.nil))))) (Subs.cons (Sub.refl _) (Subs.nil))))
     obtain ⟨e81, hm1⟩ := apE hm1
     try simp only [ZL] at e81
     obtain rfl := Option.some.inj hm1
     simp only [kk3, e6, e59, e61, e70, e76, e78, e81, xf, ↓EVd, isCall, sevalprocAttr]
     refine TI.here (hI3 _ rfl _ ⟨(x62 + 30), ?_, ?_, ?_, ?_, ?_, ?_, ?_, ?_, ?_, ?_, ?_, ?_⟩)
     all_goals try simp only [kk3, e6, e59, e61, e70, e76, e78, e81, xf, ↓EVd, isCall, sevalprocAttr]
     all_goals first | omega | exact lq (by omega) | exact nq (by omega) | rfl | (congr 1; omega)
   obtain rfl := Option.some.inj hm1
   simp only [kk3, e6, e59, e61, e70, xf, ↓EVd, isCall, sevalprocAttr]
   refine TI.here (hJ3_0 _ ⟨v65, l64, ⟨?_, ?_, ?_, ?_, ?_, ?_, ?_, ?_, ?_, ?_, ?_⟩, hO3 _ rfl⟩)
   all_goals try simp only [kk3, e6, e59, e61, e70, xf, ↓EVd, isCall, sevalprocAttr]
   all_goals first | omega | exact lq (by omega) | exact nq (by omega) | rfl | (congr 1; omega)
 refine cwp_lp ho2 (fun (v48, v49) s => s.T 0 = str a0 ∧ s.T 2 = .loc 0 3 0 0 ∧ s.T 5 = str v1.2.1 ∧ s.T 6 = bool v1.2.2 ∧ s.T 7 = str v3.1 ∧ s.T 9 = bool v3.2.2 ∧ s.T 10 = .loc 23 3 0 0 ∧ s.T 11 = int v48 ∧ s.H 0 = some (.row 39 3 [.agg [int 0, nilS, bool false]]) ∧ s.H 23 = some (.row 39 3 [.agg [int v49, nilS, bool false]]) ∧ Lq 0 s.nx ∧ Lq 23 s.nx) ?_ ?_
 · refine TI.here ⟨?_, ?_, ?_, ?_, ?_, ?_, ?_, ?_, ?_, ?_, ?_, ?_⟩
   all_goals try simp only [e6, xf, ↓EVd, isCall, sevalprocAttr]
   all_goals first | omega | exact lq (by omega) | exact nq (by omega) | rfl | (congr 1; omega)
 rintro I2 ⟨v48, v49⟩ T2 H2 x47 st2 kk2 hm1 hI2 hO2
 dsimp only [Lq, Nq] at kk2
 simp only [xhg] at hm1
 rcases iteE hm1 with ⟨e53, hm1⟩ | ⟨e53, hm1⟩
 · obtain ⟨v54, h55, hm1⟩ := bsE hm1
   simp only [kk2, e6, e53, xf, ↓EVd, isCall, sevalprocAttr]
   refine qc (xag _ _ h55) rfl ?_
   rcases iteE hm1 with ⟨e57, hm1⟩ | ⟨e57, hm1⟩
   · obtain rfl := Option.some.inj hm1
     simp only [kk2, e6, e53, e57, xf, ↓EVd, isCall, sevalprocAttr]
     refine TI.here (hI2 _ rfl _ ⟨?_, ?_, ?_, ?_, ?_, ?_, ?_, ?_, ?_, ?_, ?_, ?_⟩)
     all_goals try simp only [kk2, e6, e53, e57, xf, ↓EVd, isCall, sevalprocAttr]
     all_goals first | omega | exact lq (by omega) | exact nq (by omega) | rfl | (congr 1; omega)
   obtain rfl := Option.some.inj hm1
   simp only [kk2, e6, e53, e57, xf, ↓EVd, isCall, sevalprocAttr]
   refine TI.here (hI2 _ rfl _ ⟨?_, ?_, ?_, ?_, ?_, ?_, ?_, ?_, ?_, ?_, ?_, ?_⟩)
   all_goals try simp only [kk2, e6, e53, e57, xf, ↓EVd, isCall, sevalprocAttr]
   all_goals first | omega | exact lq (by omega) | exact nq (by omega) | rfl | (congr 1; omega)
 obtain rfl := Option.some.inj hm1
 simp only [kk2, e6, e53, xf, ↓EVd, isCall, sevalprocAttr]
 refine TI.here (hJ2_0 _ ⟨v49, ⟨?_, ?_, ?_, ?_, ?_, ?_, ?_, ?_, ?_, ?_⟩, hO2 _ rfl⟩)
 all_goals try simp only [kk2, e6, e53, xf, ↓EVd, isCall, sevalprocAttr]
 all_goals first | omega | exact lq (by omega) | exact nq (by omega) | rfl | (congr 1; omega)
def xfe (a0 : Script) (a1 : Script) : Int → Option (St (Int) ((Unit) ⊕ (Bool)))
 | v10 => if v10 < (a0.answers.length : Int) then (ix a0.answers v10).bind fun v14 => (ix a1.answers v10).bind fun v17 => if (decide (v14 = v17)) = true then some (.nx (wr (v10 + 1)))
 else some (.out (.inr false))
 else some (.out (.inl ()))
def xtg (a0 : Script) (a1 : Script) : Int → Option (St (Int) ((Unit) ⊕ (Bool)))
 | v27 => if v27 < (a0.answers.length : Int) then (ix a0.answers v27).bind fun v31 => (ix a1.answers v27).bind fun v34 => if (decide (v31 = v34)) = true then some (.nx (wr (v27 + 1)))
 else some (.out (.inr false))
 else some (.out (.inl ()))
def xuc (a0 : Script) (a1 : Script) : Option (Bool) := if a0.mode = a1.mode then if a0.default = true then if a1.default = true then if (a0.answers.length : Int) = (a1.answers.length : Int) then (iter (xfe a0 a1) big 0).bind fun o => (match o with
 | (.inl _) => some true
 | (.inr r) => some r)
 else some false
 else some false
 else if a1.default = true then some false
 else if (a0.answers.length : Int) = (a1.answers.length : Int) then (iter (xtg a0 a1) big 0).bind fun o => (match o with
 | (.inl _) => some true
 | (.inr r) => some r)
 else some false
 else some false
def xv := aI (aI (aI (@EV) (@R3)) (aI (@R4) (aI (@R36) (@R37)))) (aI (aI (@R39) (@DAnswer)) (aI (@DScript) (aI (@eq36) (@mixed))))
set_option maxHeartbeats 2000000 in
theorem x8f (a0 : Script) (a1 : Script) (r : Bool) (hm0 : xuc a0 a1 = some r) : Ok Tryd.prog 27 [xl a0, xl a1] (bool r) := by
 unfold xuc at hm0
 refine okG xbr ?_
 unfold x4m
 rcases iteE hm0 with ⟨e2, hm0⟩ | ⟨e2, hm0⟩
 · rcases itbE hm0 with ⟨e4, hm0⟩ | ⟨e4, hm0⟩
   · rcases itbE hm0 with ⟨e6, hm0⟩ | ⟨e6, hm0⟩
     · rcases iteE hm0 with ⟨e8, hm0⟩ | ⟨e8, hm0⟩
       · obtain ⟨o0, ho0, hm0⟩ := bsE hm0
         simp only [e2, e4, e6, e8, xv, ↓EVd, isCall, sevalprocAttr]
         refine cwp_cx 0 (fun s => (.inl ()) = o0) ?_ fun J0_0 hJ0_0 => ?_
         · rintro T0 H0 x11 rfl
           try dsimp only at hm0
           obtain rfl := Option.some.inj hm0
           simp only [e2, e4, e6, e8, xv, ↓EVd, isCall, sevalprocAttr]
           all_goals first | done | rfl
         refine cwp_lp ho0 (fun v10 s => s.T 2 = .loc 0 3 0 0 ∧ s.T 3 = .loc 1 3 0 0 ∧ s.T 5 = int v10 ∧ s.H 0 = some (.row 39 3 [xl a0]) ∧ s.H 1 = some (.row 39 3 [xl a1]) ∧ Lq 0 s.nx ∧ Lq 1 s.nx) ?_ ?_
         · refine TI.here ⟨?_, ?_, ?_, ?_, ?_, ?_, ?_⟩
           all_goals try simp only [e2, e4, e6, e8, xv, ↓EVd, isCall, sevalprocAttr]
           all_goals first | omega | exact lq (by omega) | exact nq (by omega) | rfl | (congr 1; omega)
         rintro I0 v10 T0 H0 x9 st0 kk0 hm1 hI0 hO0
         dsimp only [Lq, Nq] at kk0
         simp only [xfe] at hm1
         rcases iteE hm1 with ⟨e13, hm1⟩ | ⟨e13, hm1⟩
         · obtain ⟨v14, e16, hm1⟩ := ixE xc hm1
           obtain ⟨v17, e19, hm1⟩ := ixE xc hm1
           rcases itbE hm1 with ⟨e21, hm1⟩ | ⟨e21, hm1⟩
           · obtain rfl := Option.some.inj hm1
             simp only [kk0, e2, e4, e6, e8, e13, e16, e19, e21, xv, ↓EVd, isCall, sevalprocAttr]
             refine TI.here (hI0 _ rfl _ ⟨?_, ?_, ?_, ?_, ?_, ?_, ?_⟩)
             all_goals try simp only [kk0, e2, e4, e6, e8, e13, e16, e19, e21, xv, ↓EVd, isCall, sevalprocAttr]
             all_goals first | omega | exact lq (by omega) | exact nq (by omega) | rfl | (congr 1; omega)
           obtain rfl := Option.some.inj hm1
           obtain rfl := hO0 _ rfl
           try dsimp only at hm0
           obtain rfl := Option.some.inj hm0
           simp only [kk0, e2, e4, e6, e8, e13, e16, e19, e21, xv, ↓EVd, isCall, sevalprocAttr]
           all_goals first | done | rfl
         obtain rfl := Option.some.inj hm1
         simp only [kk0, e2, e4, e6, e8, e13, xv, ↓EVd, isCall, sevalprocAttr]
         refine TI.here (hJ0_0 _ (hO0 _ rfl))
       obtain rfl := Option.some.inj hm0
       simp only [e2, e4, e6, e8, xv, ↓EVd, isCall, sevalprocAttr]
       all_goals first | done | rfl
     obtain rfl := Option.some.inj hm0
     simp only [e2, e4, e6, xv, ↓EVd, isCall, sevalprocAttr]
     all_goals first | done | rfl
   rcases itbE hm0 with ⟨e23, hm0⟩ | ⟨e23, hm0⟩
   · obtain rfl := Option.some.inj hm0
     simp only [e2, e4, e23, xv, ↓EVd, isCall, sevalprocAttr]
     all_goals first | done | rfl
   rcases iteE hm0 with ⟨e25, hm0⟩ | ⟨e25, hm0⟩
   · obtain ⟨o1, ho1, hm0⟩ := bsE hm0
     simp only [e2, e4, e23, e25, xv, ↓EVd, isCall, sevalprocAttr]
     refine cwp_cx 0 (fun s => (.inl ()) = o1) ?_ fun J1_0 hJ1_0 => ?_
     · rintro T1 H1 x28 rfl
       try dsimp only at hm0
       obtain rfl := Option.some.inj hm0
       simp only [e2, e4, e23, e25, xv, ↓EVd, isCall, sevalprocAttr]
       all_goals first | done | rfl
     refine cwp_lp ho1 (fun v27 s => s.T 2 = .loc 0 3 0 0 ∧ s.T 3 = .loc 1 3 0 0 ∧ s.T 5 = int v27 ∧ s.H 0 = some (.row 39 3 [xl a0]) ∧ s.H 1 = some (.row 39 3 [xl a1]) ∧ Lq 0 s.nx ∧ Lq 1 s.nx) ?_ ?_
     · refine TI.here ⟨?_, ?_, ?_, ?_, ?_, ?_, ?_⟩
       all_goals try simp only [e2, e4, e23, e25, xv, ↓EVd, isCall, sevalprocAttr]
       all_goals first | omega | exact lq (by omega) | exact nq (by omega) | rfl | (congr 1; omega)
     rintro I1 v27 T1 H1 x26 st1 kk1 hm1 hI1 hO1
     dsimp only [Lq, Nq] at kk1
     simp only [xtg] at hm1
     rcases iteE hm1 with ⟨e30, hm1⟩ | ⟨e30, hm1⟩
     · obtain ⟨v31, e33, hm1⟩ := ixE xc hm1
       obtain ⟨v34, e36, hm1⟩ := ixE xc hm1
       rcases itbE hm1 with ⟨e38, hm1⟩ | ⟨e38, hm1⟩
       · obtain rfl := Option.some.inj hm1
         simp only [kk1, e2, e4, e23, e25, e30, e33, e36, e38, xv, ↓EVd, isCall, sevalprocAttr]
         refine TI.here (hI1 _ rfl _ ⟨?_, ?_, ?_, ?_, ?_, ?_, ?_⟩)
         all_goals try simp only [kk1, e2, e4, e23, e25, e30, e33, e36, e38, xv, ↓EVd, isCall, sevalprocAttr]
         all_goals first | omega | exact lq (by omega) | exact nq (by omega) | rfl | (congr 1; omega)
       obtain rfl := Option.some.inj hm1
       obtain rfl := hO1 _ rfl
       try dsimp only at hm0
       obtain rfl := Option.some.inj hm0
       simp only [kk1, e2, e4, e23, e25, e30, e33, e36, e38, xv, ↓EVd, isCall, sevalprocAttr]
       all_goals first | done | rfl
     obtain rfl := Option.some.inj hm1
     simp only [kk1, e2, e4, e23, e25, e30, xv, ↓EVd, isCall, sevalprocAttr]
     refine TI.here (hJ1_0 _ (hO1 _ rfl))
   obtain rfl := Option.some.inj hm0
   simp only [e2, e4, e23, e25, xv, ↓EVd, isCall, sevalprocAttr]
   all_goals first | done | rfl
 obtain rfl := Option.some.inj hm0
 simp only [e2, xv, ↓EVd, isCall, sevalprocAttr]
 all_goals first | done | rfl
def xzd (a0 : Script) : Option (Bool) := if (a0.answers.length : Int) ≤ 40 then some true
 else some false
def x9j := aI (aI (@EV) (aI (@R3) (@R36))) (aI (aI (@R37) (@R39)) (aI (@DAnswer) (@DScript)))
set_option maxHeartbeats 2000000 in
theorem x8i (a0 : Script) (r : Bool) (hm0 : xzd a0 = some r) : Ok Tryd.prog 17 [xl a0] (bool r) := by
 unfold xzd at hm0
 refine okG xro ?_
 unfold x4j
 rcases iteE hm0 with ⟨e2, hm0⟩ | ⟨e2, hm0⟩
 · obtain rfl := Option.some.inj hm0
   simp only [e2, x9j, ↓EVd, isCall, sevalprocAttr]
   all_goals first | done | rfl
 obtain rfl := Option.some.inj hm0
 simp only [e2, x9j, ↓EVd, isCall, sevalprocAttr]
 all_goals first | done | rfl
end Go.Proofs.YtjmnoaoeediodaaDoor.AL

/- Plain laws of chapter 43: answers as text. -/
set_option linter.all false
namespace Go.Proofs.YtjmnoaoeediodaaDoor.AL
open Go Go.Proofs Go.Lib
def ynL (b : Bool) : List UInt8 := if b = true then [121, 101, 115] else [110, 111]
def lineL (a : Answer) : List UInt8 := ynL a.yes ++ 32 :: (wordQ a.clause ++ 32 :: placeL a.ino a.slot)
structure A64 (a : Answer) : Prop where
  clause : i64 a.clause
  ino : i64 a.ino
  slot : i64 a.slot
structure FA (a : Answer) : Prop where
  c0 : 1 ≤ a.clause
  c1 : a.clause ≤ 23
  ino : i64 a.ino
  slot : i64 a.slot
theorem FA.a64 {a : Answer} (h : FA a) : A64 a := ⟨⟨by have := h.c0; omega, by have := h.c1; omega⟩, h.ino, h.slot⟩
theorem x7n (b : Bool) : (32 : UInt8) ∉ ynL b ∧ (10 : UInt8) ∉ ynL b := by cases b <;> decide
theorem xn1 (b : Bool) : ynL b = [121, 101, 115] ↔ b = true := by cases b <;> decide
theorem ynL_le (b : Bool) : (ynL b).length ≤ 3 := by cases b <;> decide
theorem x4w {y z : Int} (hy : i64 y) (hz : i64 z) : (placeL y z).length ≤ 43 := by
  have := xdb hy
  have := xdb hz
  unfold placeL
  simp only [List.length_append, List.length_cons]
  omega
theorem xhe {a : Answer} (h : A64 a) : (lineL a).length ≤ 60 := by
  have := x4w h.ino h.slot
  have := xhh a.clause
  have := ynL_le a.yes
  unfold lineL
  simp only [List.length_append, List.length_cons]
  omega
theorem xst (y z : Int) {c : UInt8} (h : c ∈ placeL y z) : c ≠ 32 ∧ c ≠ 10 := by
  unfold placeL at h
  rcases List.mem_append.1 h with h | h
  · exact ⟨(xvd _ h).1, (xvd _ h).2.1⟩
  · rcases List.mem_cons.1 h with rfl | h
    · decide
    · exact ⟨(xvd _ h).1, (xvd _ h).2.1⟩
theorem xhi (a : Answer) : (10 : UInt8) ∉ lineL a := by
  unfold lineL
  intro h
  rcases List.mem_append.1 h with h | h
  · exact (x7n _).2 h
  · rcases List.mem_cons.1 h with h | h
    · exact absurd h (by decide)
    · rcases List.mem_append.1 h with h | h
      · exact (xze _ _ h).2.1 rfl
      · rcases List.mem_cons.1 h with h | h
        · exact absurd h (by decide)
        · exact (xst _ _ h).2 rfl
def fOf (a : Answer) : Finding := ⟨a.clause, 0, a.ino, a.slot⟩
theorem xjs (a : Answer) : findL (fOf a) = wordQ a.clause ++ [32, 48, 58] ++ placeL a.ino a.slot := by
  have : itoa 0 = [48] := xqq
  unfold findL fOf
  simp only
  rw [this]
  simp
def zeroA : Answer := ⟨0, 0, 0, false⟩
def readA (s : List UInt8) : Answer × Bool :=
  let f := readP ((cut (cut s [32]).2.1 [32]).1 ++ [32, 48, 58] ++ (cut (cut s [32]).2.1 [32]).2.1)
  if f.2 = true ∧ lineL ⟨f.1.clause, f.1.ino, f.1.slot, decide ((cut s [32]).1 = [121, 101, 115])⟩ = s then (⟨f.1.clause, f.1.ino, f.1.slot, decide ((cut s [32]).1 = [121, 101, 115])⟩, true) else (zeroA, false)
theorem xmh (s : List UInt8) : readA s = (zeroA, false) ∨ ∃ a, FA a ∧ lineL a = s ∧ readA s = (a, true) := by
  unfold readA
  simp only
  split
  · rename_i h
    rcases x6e ((cut (cut s [32]).2.1 [32]).1 ++ [32, 48, 58] ++ (cut (cut s [32]).2.1 [32]).2.1) with e | ⟨f, hf, _, e⟩
    · rw [e] at h; exact absurd h.1 (by simp)
    · rw [e] at h ⊢
      exact .inr ⟨_, ⟨hf.c0, hf.c1, hf.ino, hf.slot⟩, h.2, rfl⟩
  · exact .inl rfl
theorem xuq (a : Answer) : cut (lineL a) [32] = (ynL a.yes, wordQ a.clause ++ 32 :: placeL a.ino a.slot, true) := xpi _ (x7n _).1
theorem xlq (a : Answer) : cut (wordQ a.clause ++ 32 :: placeL a.ino a.slot) [32] = (wordQ a.clause, placeL a.ino a.slot, true) := xpi _ (fun h => (xze _ _ h).1 rfl)
theorem x0g {a : Answer} (h : FA a) : readA (lineL a) = (a, true) := by
  unfold readA
  rw [xuq]
  simp only
  rw [xlq]
  simp only
  rw [← xjs, x8h (f := fOf a) ⟨h.c0, h.c1, show i64 0 by decide, h.ino, h.slot⟩]
  have e : (⟨(fOf a).clause, (fOf a).ino, (fOf a).slot, decide (ynL a.yes = [121, 101, 115])⟩ : Answer) = a := by
    obtain ⟨c, i, s, y⟩ := a
    simp only [fOf, Answer.mk.injEq, true_and]
    cases y <;> rfl
  simp only
  rw [e, if_pos ⟨trivial, rfl⟩]
theorem xax {a : Answer} (h : a.clause < 1 ∨ 23 < a.clause) : readA (lineL a) = (zeroA, false) := by
  unfold readA
  rw [xuq]
  simp only
  rw [xlq]
  simp only
  rw [← xjs, x0m (f := fOf a) h]
  simp
theorem xak (b : Bool) : xbd b = some (bB (ynL b)) := by cases b <;> rfl
theorem xth {a : Answer} (h : A64 a) : xic a = some (bB (lineL a)) := by
  unfold xic
  have l2 := xdb h.ino
  have l3 := xdb h.slot
  have l0 := xhh a.clause
  have l1 := ynL_le a.yes
  rw [xnh h.clause, itoaM h.ino, itoaM h.slot, xak]
  simp only [Option.bind_some, c0, c32, c58, c63, bB_app, xh, List.length_append, List.length_cons, List.length_nil, bB_iff]
  by_cases hw : wordL a.clause = []
  · have hq : wordQ a.clause = [63] := by unfold wordQ; rw [if_pos hw]
    rw [if_pos hw]
    repeat (rw [ckY (by omega)]; simp only [Option.bind_some])
    unfold lineL placeL
    rw [hq]
    simp
  · have hq : wordQ a.clause = wordL a.clause := by unfold wordQ; rw [if_neg hw]
    rw [hq] at l0
    rw [if_neg hw]
    repeat (rw [ckY (by omega)]; simp only [Option.bind_some])
    unfold lineL placeL
    rw [hq]
    simp
theorem x2k {s : List UInt8} (hs : s.length ≤ 10000) : x6d (bB s) = some (readA s) := by
  unfold x6d
  have h1 := cut_le s [32]
  have h2 := cut_le (cut s [32]).2.1 [32]
  have q1 : x5b (bB s) (ByteArray.mk #[32]) = some (bB (cut s [32]).1, bB (cut s [32]).2.1, (cut s [32]).2.2) := by
    unfold x5b
    rw [ckY (by rw [xh]; omega)]
    rfl
  have q2 : x5b (bB (cut s [32]).2.1) (ByteArray.mk #[32]) = some (bB (cut (cut s [32]).2.1 [32]).1, bB (cut (cut s [32]).2.1 [32]).2.1, (cut (cut s [32]).2.1 [32]).2.2) := by
    unfold x5b
    rw [ckY (by rw [xh]; omega)]
    rfl
  have e3 : ByteArray.mk #[32, 48, 58] = bB [32, 48, 58] := rfl
  have ey : ByteArray.mk #[121, 101, 115] = bB [121, 101, 115] := rfl
  rw [q1]
  simp only [Option.bind_some]
  rw [q2]
  simp only [Option.bind_some, e3, ey, bB_app, xh, List.length_append, List.length_cons, List.length_nil]
  rw [ckY (by omega)]
  simp only [Option.bind_some]
  rw [ckY (by omega)]
  simp only [Option.bind_some]
  rw [xbj (by simp only [List.length_append, List.length_cons, List.length_nil]; omega)]
  simp only [Option.bind_some, bB_iff]
  unfold readA
  simp only
  have hf := x6e ((cut (cut s [32]).2.1 [32]).1 ++ [32, 48, 58] ++ (cut (cut s [32]).2.1 [32]).2.1)
  generalize readP ((cut (cut s [32]).2.1 [32]).1 ++ [32, 48, 58] ++ (cut (cut s [32]).2.1 [32]).2.1) = f at hf ⊢
  rcases hf with rfl | ⟨g, hg, _, rfl⟩
  · simp [zeroA]
  · simp only [Bool.not_true, Bool.false_eq_true, if_false, true_and]
    have hl : ∀ b, xic ⟨g.clause, g.ino, g.slot, b⟩ = some (bB (lineL ⟨g.clause, g.ino, g.slot, b⟩)) := fun b => xth ⟨⟨by have := hg.c0; show _ ≤ g.clause; omega, by have := hg.c1; show g.clause ≤ _; omega⟩, hg.ino, hg.slot⟩
    rw [hl, hl]
    simp only [Option.bind_some, bB_iff]
    by_cases hy : (cut s [32]).1 = [121, 101, 115]
    · rw [if_pos hy]
      simp only [hy, decide_true]
      by_cases he : lineL ⟨g.clause, g.ino, g.slot, true⟩ = s
      · rw [if_pos he, if_pos he]
      · rw [if_neg he, if_neg he]; rfl
    · rw [if_neg hy]
      simp only [hy, decide_false]
      by_cases he : lineL ⟨g.clause, g.ino, g.slot, false⟩ = s
      · rw [if_pos he, if_pos he]
      · rw [if_neg he, if_neg he]; rfl
end Go.Proofs.YtjmnoaoeediodaaDoor.AL

/- Plain laws of chapter 43: a script's first line. -/
set_option linter.all false
namespace Go.Proofs.YtjmnoaoeediodaaDoor.AL
open Go Go.Proofs Go.Lib
def modeL (n : Int) : List UInt8 := if n = 0 then [99, 104, 101, 99, 107] else if n = 1 then [97, 117, 116, 111] else if n = 2 then [115, 99, 114, 105, 112, 116] else [63]
def headL (n : Int) (d : Bool) : List UInt8 := modeL n ++ 32 :: (ynL d ++ [10])
def rowL (a : Answer) : List UInt8 := lineL a ++ [10]
def textS (x : Script) : List UInt8 := headL x.mode x.default ++ (x.answers.map rowL).flatten
def hd (n : Int) (d : Bool) : List UInt8 := modeL n ++ 32 :: ynL d
def firstA (t : List UInt8) : Script × Bool :=
  if t = hd 0 false then (⟨0, [], false⟩, true) else if t = hd 0 true then (⟨0, [], true⟩, true) else
  if t = hd 1 false then (⟨1, [], false⟩, true) else if t = hd 1 true then (⟨1, [], true⟩, true) else
  if t = hd 2 false then (⟨2, [], false⟩, true) else if t = hd 2 true then (⟨2, [], true⟩, true) else (⟨0, [], false⟩, false)
theorem xyz (t m : List UInt8) (i : Int) (hm : m.length ≤ 10) : iter (xyb (bB t) i (bB m)) big 0 =
    some (if t = m ++ 32 :: ynL false then .inr (⟨i, [], false⟩, true) else if t = m ++ 32 :: ynL true then .inr (⟨i, [], true⟩, true) else .inl ()) := by
  have h1 : (bB m).size + (bB [32]).size ≤ 9223372036854775807 := by rw [xh, xh]; simp; omega
  have h2 : ∀ d, (bB m ++ bB [32]).size + (bB (ynL d)).size ≤ 9223372036854775807 := by
    intro d
    have := ynL_le d
    rw [bB_app, xh, xh]
    simp
    omega
  have k0 : xyb (bB t) i (bB m) 0 = some (if t = m ++ 32 :: ynL false then .out (.inr (⟨i, [], false⟩, true)) else .nx 1) := by
    unfold xyb
    rw [if_pos (by omega), if_pos rfl, c32, ckY h1]
    simp only [Option.bind_some, xak]
    rw [ckY (h2 false)]
    simp only [Option.bind_some, bB_app, bB_iff]
    rw [show m ++ [32] ++ ynL false = m ++ 32 :: ynL false by simp]
    split <;> rfl
  have k1 : xyb (bB t) i (bB m) 1 = some (if t = m ++ 32 :: ynL true then .out (.inr (⟨i, [], true⟩, true)) else .nx 2) := by
    unfold xyb
    rw [if_pos (by omega), if_neg (by omega), c32, ckY rfl]
    simp only [Option.bind_some]
    rw [ckY h1]
    simp only [Option.bind_some, xak]
    rw [ckY (h2 true)]
    simp only [Option.bind_some, bB_app, bB_iff]
    rw [show m ++ [32] ++ ynL true = m ++ 32 :: ynL true by simp]
    split <;> rfl
  have k2 : xyb (bB t) i (bB m) 2 = some (.out (.inl ())) := by
    unfold xyb
    rw [if_neg (by omega)]
  obtain ⟨K, hK⟩ : ∃ K, big = K + 1 + 1 + 1 := ⟨999999999999999997, by unfold big; omega⟩
  rw [hK, xt, k0]
  by_cases e0 : t = m ++ 32 :: ynL false
  · rw [if_pos e0, if_pos e0]; rfl
  · rw [if_neg e0, if_neg e0]
    simp only [Option.bind_some]
    rw [xt, k1]
    by_cases e1 : t = m ++ 32 :: ynL true
    · rw [if_pos e1, if_pos e1]; rfl
    · rw [if_neg e1, if_neg e1]
      simp only [Option.bind_some]
      rw [xt, k2]
      rfl
theorem xcy : xpf = some [bB (modeL 0), bB (modeL 1), bB (modeL 2)] := rfl
theorem xyu (t : List UInt8) : xwf (bB t) = some (firstA t) := by
  have kk : ∀ (i : Int) (n : Nat) (m : List UInt8), i = (n : Int) → n < 3 → [bB (modeL 0), bB (modeL 1), bB (modeL 2)][n]? = some (bB m) → m.length ≤ 10 → x7c (bB t) [bB (modeL 0), bB (modeL 1), bB (modeL 2)] i =
      some (if t = m ++ 32 :: ynL false then .out (.inr (⟨i, [], false⟩, true)) else if t = m ++ 32 :: ynL true then .out (.inr (⟨i, [], true⟩, true)) else .nx (wr (i + 1))) := by
    intro i n m hi hn hx hm
    unfold x7c
    have hix : ix [bB (modeL 0), bB (modeL 1), bB (modeL 2)] i = some (bB m) := by
      subst hi
      have : n = 0 ∨ n = 1 ∨ n = 2 := by omega
      rcases this with rfl | rfl | rfl <;> exact hx
    simp only
    rw [if_pos (by subst hi; show (n : Int) < 3; omega), hix]
    simp only [Option.bind_some]
    rw [xyz t m i hm]
    simp only [Option.bind_some]
    by_cases e0 : t = m ++ 32 :: ynL false
    · rw [if_pos e0, if_pos e0]
    · rw [if_neg e0, if_neg e0]
      by_cases e1 : t = m ++ 32 :: ynL true
      · rw [if_pos e1, if_pos e1]
      · rw [if_neg e1, if_neg e1]
  have k0 := kk 0 0 (modeL 0) rfl (by omega) rfl (by decide)
  have k1 := kk 1 1 (modeL 1) rfl (by omega) rfl (by decide)
  have k2 := kk 2 2 (modeL 2) rfl (by omega) rfl (by decide)
  have k3 : x7c (bB t) [bB (modeL 0), bB (modeL 1), bB (modeL 2)] 3 = some (.out (.inl ())) := by
    unfold x7c
    rw [if_neg (by decide)]
  unfold xwf firstA hd
  rw [xcy]
  simp only [Option.bind_some]
  obtain ⟨K, hK⟩ : ∃ K, big = K + 1 + 1 + 1 + 1 := ⟨999999999999999996, by unfold big; omega⟩
  rw [hK, xt, k0]
  by_cases e0 : t = modeL 0 ++ 32 :: ynL false
  · rw [if_pos e0, if_pos e0]; rfl
  rw [if_neg e0, if_neg e0]
  by_cases e1 : t = modeL 0 ++ 32 :: ynL true
  · rw [if_pos e1, if_pos e1]; rfl
  rw [if_neg e1, if_neg e1]
  simp only [Option.bind_some]
  rw [show wr (0 + 1) = 1 from rfl, xt, k1]
  by_cases e2 : t = modeL 1 ++ 32 :: ynL false
  · rw [if_pos e2, if_pos e2]; rfl
  rw [if_neg e2, if_neg e2]
  by_cases e3 : t = modeL 1 ++ 32 :: ynL true
  · rw [if_pos e3, if_pos e3]; rfl
  rw [if_neg e3, if_neg e3]
  simp only [Option.bind_some]
  rw [show wr (1 + 1) = 2 from rfl, xt, k2]
  by_cases e4 : t = modeL 2 ++ 32 :: ynL false
  · rw [if_pos e4, if_pos e4]; rfl
  rw [if_neg e4, if_neg e4]
  by_cases e5 : t = modeL 2 ++ 32 :: ynL true
  · rw [if_pos e5, if_pos e5]; rfl
  rw [if_neg e5, if_neg e5]
  simp only [Option.bind_some]
  rw [show wr (2 + 1) = 3 from rfl, xt, k3]
  rfl
end Go.Proofs.YtjmnoaoeediodaaDoor.AL

/- script.Text, in the world. -/
set_option linter.all false
namespace Go.Proofs.YtjmnoaoeediodaaDoor.AL
open Go Go.Proofs Go.RowKit
def AAt (w : World) (B : Nat) (l : List Answer) (v : Value) : Prop := ∃ A cap, v = .slice A l.length cap ∧ ∀ (i : Nat) (f : Answer), l[i]? = some f → ∃ blk o, A = some ⟨blk, o, none⟩ ∧ blk < B ∧ w.cell? ⟨blk, o + i * 4, none⟩ = some (.int .i64 f.clause) ∧ w.cell? ⟨blk, o + i * 4 + 1, none⟩ = some (.int .i64 f.ino) ∧ w.cell? ⟨blk, o + i * 4 + 2, none⟩ = some (.int .i64 f.slot) ∧ w.cell? ⟨blk, o + i * 4 + 3, none⟩ = some (.bool f.yes)
theorem line_w {a : Answer} (ha : A64 a) (w : World) (hg : GW w) : Calls Tryd.prog 19 #[.agg #[.int .i64 a.clause, .int .i64 a.ino, .int .i64 a.slot, .bool a.yes]] w fun e w' => e = .returned (.string (bB (lineL a))) ∧ Below w.heap.size w w' := by
  refine ((xyd a _ (xth ha)).2 (fun _ => False) w [.agg #[.int .i64 a.clause, .int .i64 a.ino, .int .i64 a.slot, .bool a.yes]] ⟨fun _ h => h.elim, hg⟩ ?_).mono ?_
  · simp only [VReps]
    refine ⟨_, _, ?_, rfl, rfl⟩
    unfold xc
    simp only [VRep, VReps]
    exact ⟨_, ⟨_, _, rfl, ⟨_, _, rfl, ⟨_, _, rfl, ⟨_, _, rfl, rfl, rfl⟩, rfl⟩, rfl⟩, rfl⟩, rfl⟩
  · rintro e w' ⟨v, rfl, hb, hv⟩
    simp only [VRep] at hv
    subst hv
    exact ⟨rfl, hb⟩
theorem x0j (b : Bool) (w : World) (hg : GW w) : Calls Tryd.prog 43 #[.bool b] w fun e w' => e = .returned (.string (bB (ynL b))) ∧ Below w.heap.size w w' := by
  refine ((xee b _ (xak b)).2 (fun _ => False) w [.bool b] ⟨fun _ h => h.elim, hg⟩ ?_).mono ?_
  · simp only [VReps]
    exact ⟨_, _, by simp only [VRep], rfl, rfl⟩
  · rintro e w' ⟨v, rfl, hb, hv⟩
    simp only [VRep] at hv
    subst hv
    exact ⟨rfl, hb⟩
theorem xrj (w : World) (hg : GW w) : Calls Tryd.prog 44 #[] w fun e w' => ∃ blk o cap, e = .returned (.slice (some ⟨blk, o, none⟩) 3 cap) ∧ 3 ≤ cap ∧ Below w.heap.size w w' ∧ w'.cell? ⟨blk, o, none⟩ = some (.string (bB [99, 104, 101, 99, 107])) ∧ w'.cell? ⟨blk, o + 1, none⟩ = some (.string (bB [97, 117, 116, 111])) ∧ w'.cell? ⟨blk, o + 2, none⟩ = some (.string (bB [115, 99, 114, 105, 112, 116])) := by
  refine ((x2i _ rfl).2 (fun _ => False) w [] ⟨fun _ h => h.elim, hg⟩ (by simp only [VReps])).mono ?_
  rintro e w' ⟨v, rfl, hb, hv⟩
  simp only [VRep, List.map_cons, List.map_nil, VReps] at hv
  obtain ⟨us, A, cap, ⟨_, _, rfl, ⟨_, _, rfl, ⟨_, _, rfl, rfl, rfl⟩, rfl⟩, rfl⟩, rfl, h2, h3⟩ := hv
  rcases h3 with h3 | ⟨blk, o, rfl, _, g3⟩
  · cases h3
  · have k0 := (g3 0 _ rfl).2.2 0 _ rfl
    have k1 := (g3 1 _ rfl).2.2 0 _ rfl
    have k2 := (g3 2 _ rfl).2.2 0 _ rfl
    exact ⟨blk, o, cap, rfl, h2, hb, k0, k1, k2⟩
theorem ST.start1 {T : Nat} {w : World} (hg : GW w) : ST T w.heap.size w.heap.size w [] (w.alloc (.cells #[.pointer none, .slice none 0 0] T (0, 0))) := by
  have b1 : Below w.heap.size w (w.alloc (.cells #[.pointer none, .slice none 0 0] T (0, 0))) := (Below.refl _ w).alloc (Nat.le_refl _) _
  refine ⟨hg.mono b1 hg.size, .inl ⟨Nat.le_refl _, .slice none 0 0, ?_, ⟨rfl, .inl ⟨rfl, rfl⟩⟩, by simp [Value.ownBlock]⟩, b1, by simp⟩
  show (w.heap.push _)[w.heap.size]? = _
  rw [Array.getElem?_push_size]
def hideP (p : Prop) : Prop := p
theorem xdf (n : Int) : (modeL n).length ≤ 6 := by
  unfold modeL
  split
  · decide
  · split
    · decide
    · split <;> decide
theorem xqi (n : Int) (d : Bool) : (headL n d).length ≤ 20 := by
  have := xdf n
  have := ynL_le d
  unfold headL
  simp only [List.length_append, List.length_cons, List.length_nil]
  omega
theorem x1j {l : List Answer} (h : ∀ a ∈ l, A64 a) : ∀ k, ((l.take k).map rowL).flatten.length ≤ k * 70 := by
  intro k
  have key : ∀ l : List Answer, (∀ a ∈ l, A64 a) → (l.map rowL).flatten.length ≤ l.length * 70 := by
    intro l
    induction l with
    | nil => intro _; simp
    | cons f l ih =>
      intro h
      have h1 := xhe (h f (by simp))
      have h2 := ih fun g hg => h g (by simp [hg])
      have hlo : (rowL f).length ≤ 70 := by
        unfold rowL
        simp only [List.length_append, List.length_cons, List.length_nil]
        omega
      simp only [List.map_cons, List.flatten_cons, List.length_append, List.length_cons]
      omega
  have := key (l.take k) (fun f hf => h f (List.mem_of_mem_take hf))
  have h2 : (l.take k).length ≤ k := by simp; omega
  exact Nat.le_trans this (Nat.mul_le_mul_right _ h2)
end Go.Proofs.YtjmnoaoeediodaaDoor.AL

/- script.Text in the world, the mode's case 0. -/
set_option linter.all false
namespace Go.Proofs.YtjmnoaoeediodaaDoor.AL
open Go Go.Proofs Go.RowKit
set_option maxHeartbeats 4000000 in
set_option maxRecDepth 100000 in
theorem x6y {x : Script} (hm : hideP (x.mode = 0)) (hl : x.answers.length ≤ 1000) (h64 : ∀ a ∈ x.answers, A64 a) (av : Value) (w : World) (hg : GW w) (hA : AAt w w.heap.size x.answers av) :
    Calls Tryd.prog 21 #[.agg #[.int .i64 x.mode, av, .bool x.default]] w fun e w' => e = .returned (.string (bB (textS x))) ∧ Below w.heap.size w w' := by
  have hgA : ∀ o, GW (w.alloc o) := fun o => hg.mono ((Below.refl _ w).alloc (Nat.le_refl _) o) hg.size
  obtain ⟨A, cap, rfl, hcells⟩ := hA
  have hbox : ∀ (j : Nat) (v : Value), (#[.int .i64 x.mode, .slice A x.answers.length cap, .bool x.default] : Array Value)[j]? = some v → (w.alloc (.cells #[.int .i64 x.mode, .slice A x.answers.length cap, .bool x.default] 39)).cell? ⟨w.heap.size, j, none⟩ = some v := by
    intro j v hv
    have : (w.alloc (.cells #[.int .i64 x.mode, .slice A x.answers.length cap, .bool x.default] 39)).heap[w.heap.size]? = some (.cells #[.int .i64 x.mode, .slice A x.answers.length cap, .bool x.default] 39 (0, 0)) := by
      show (w.heap.push _)[w.heap.size]? = _
      rw [Array.getElem?_push_size]
    rw [Lib.cell_of_heap this]
    exact hv
  have b0 := hbox 0 _ rfl
  have b1 := hbox 1 _ rfl
  have b2 := hbox 2 _ rfl
  clear hbox
  have hwA : Below w.heap.size w (w.alloc (.cells #[.int .i64 x.mode, .slice A x.answers.length cap, .bool x.default] 39)) := (Below.refl _ w).alloc (Nat.le_refl _) _
  have hszA : w.heap.size < (w.alloc (.cells #[.int .i64 x.mode, .slice A x.answers.length cap, .bool x.default] 39)).heap.size := by simp
  go_enter Tryd.func21, Tryd.ntmps21
  go_wp2_with (go_at_call 44; refine (xrj _ (hgA _)).mono ?_)
  rintro e w1 ⟨blk, o, mcap, rfl, hcap, hb1, k0, k1, k2⟩
  have hg1 : GW w1 := (hgA _).mono hb1 (hgA _).size
  have hbw : Below w.heap.size w w1 := hwA.trans (hb1.mono (Nat.le_of_lt hszA))
  have hs1 : w.heap.size < w1.heap.size := Nat.lt_of_lt_of_le hszA hb1.size
  have c0 : w1.cell? ⟨w.heap.size, 0, none⟩ = some (.int .i64 x.mode) := (hb1.cell (p := ⟨_, 0, none⟩) hszA).trans b0
  have c1 : w1.cell? ⟨w.heap.size, 1, none⟩ = some (.slice A x.answers.length cap) := (hb1.cell (p := ⟨_, 1, none⟩) hszA).trans b1
  have c2 : w1.cell? ⟨w.heap.size, 2, none⟩ = some (.bool x.default) := (hb1.cell (p := ⟨_, 2, none⟩) hszA).trans b2
  clear b0 b1 b2 hb1 hwA hszA hgA
  have hgB : ∀ o, GW (w1.alloc o) := fun o => hg1.mono ((Below.refl _ w1).alloc (Nat.le_refl _) o) hg1.size
  have hgN : gN ≤ w1.heap.size := hg1.size
  have hy := ynL_le x.default
  obtain ⟨M, hMe, hMl⟩ : ∃ M, modeL x.mode = M ∧ M.length ≤ 6 := ⟨_, rfl, xdf _⟩
  have hhead := xqi x.mode x.default
  unfold hideP at hm
  have hM : [99, 104, 101, 99, 107] = M := by rw [← hMe, hm]; rfl
  rw [hM] at k0
  rw [hm] at c0
  have f1 : ¬ 9223372036854775807 < (bB M).size + 1 := by rw [xh]; omega
  have f2 : ¬ 9223372036854775807 < (bB M).size + 1 + (bB (ynL x.default)).size := by rw [xh, xh]; omega
  have f3 : ¬ 9223372036854775807 < (bB M).size + 1 + (bB (ynL x.default)).size + 1 := by rw [xh, xh]; omega
  go_wp2_with (go_at_call 43; refine (x0j x.default _ (hgB _)).mono ?_)
  rintro e w2 ⟨rfl, hb2⟩
  have h2 := (ST.start1 (T := 70) hg1).call hb2
  obtain ⟨H, hHe, hHl, hH0⟩ : ∃ H, headL x.mode x.default = H ∧ H.length ≤ 20 ∧ H ≠ [] := ⟨_, rfl, hhead, by unfold headL; simp⟩
  have e1 : bB M ++ ByteArray.mk #[32] ++ bB (ynL x.default) ++ ByteArray.mk #[10] = bB H := by
    rw [← hHe]
    rw [c32, c10, bB_app, bB_app, bB_app]
    unfold headL
    rw [hMe]
    simp
  have hsz : (Lib.byteCells []).length + (bB H).size ≤ 140737488355328 := by
    rw [xh]
    simp only [Lib.byteCells, List.map_nil, List.length_nil]
    omega
  go_wp2_with (go_at_call 39; refine (xmb lies70 (by decide) w1.heap.size w1.heap.size _ _ _ h2.bld hsz h2.sz).mono ?_)
  rintro e w3 ⟨rfl, hw3, hb3⟩
  have h3 := h2.write hgN hw3 hb3
  have q1 := h3.cell hs1 c1
  clear f1 f2 f3 e1 hsz hw3 hb3 h2 hb2 k0 k1 k2 c0 c2
  go_wp2
  go_loopw [35] (fun i wr => ∃ k : Nat, i = .int .i64 k ∧ k ≤ x.answers.length ∧ ST 70 w1.heap.size w1.heap.size w1 ([] ++ H ++ ((x.answers.take k).map rowL).flatten) wr) (fun i _ => x.answers.length - (intOf i).toNat)
  case atStart => exact ⟨0, rfl, by omega, by simpa using h3⟩
  case round =>
    obtain ⟨k, rfl, hk, hST⟩ := hrel
    by_cases hlt : k < x.answers.length
    · obtain ⟨ab, ao, rfl, hab, a0, a1, a2, a3⟩ := hcells k x.answers[k] (List.getElem?_eq_getElem hlt)
      have hba : ∀ {j v}, w.cell? ⟨ab, j, none⟩ = some v → wr.cell? ⟨ab, j, none⟩ = some v := fun {j v} h => hST.cell (Nat.lt_trans hab hs1) ((hbw.cell (p := ⟨ab, j, none⟩) hab).trans h)
      have d0 := hba a0
      have d1 := hba a1
      have d2 := hba a2
      have d3 := hba a3
      clear hba a0 a1 a2 a3
      have ha64 := h64 _ (List.getElem_mem hlt)
      have hln := xhe ha64
      have g1 : ¬ 9223372036854775807 < (bB (lineL x.answers[k])).size + 1 := by rw [xh]; omega
      have hgR : ∀ o, GW (wr.alloc o) := fun o => hST.gw.mono ((Below.refl _ wr).alloc (Nat.le_refl _) o) hST.gw.size
      have hrows := x1j h64 k
      have hsz2 : (Lib.byteCells ([] ++ H ++ ((x.answers.take k).map rowL).flatten)).length + (bB (lineL x.answers[k]) ++ ByteArray.mk #[10]).size ≤ 140737488355328 := by
        rw [Lib.byteCells_length, c10, bB_app, xh]
        simp only [List.length_append, List.length_cons, List.length_nil]
        omega
      go_wp2_with (go_at_call 19; refine (line_w ha64 _ (hgR _)).mono ?_)
      rintro e w4 ⟨rfl, hb4⟩
      have h4 := (hST.call ((Below.refl _ wr).alloc (Nat.le_refl _) _)).call hb4
      go_wp2_with (go_at_call 39; refine (xmb lies70 (by decide) w1.heap.size w1.heap.size _ _ _ h4.bld hsz2 h4.sz).mono ?_)
      rintro e w5 ⟨rfl, hw5, hb5⟩
      rw [c10, bB_app] at hw5
      have h5 := h4.write hgN hw5 hb5
      clear g1 hsz2 hw5 hb5 h4 hb4
      go_wp2
      go_roundw
      case rel =>
        refine ⟨k + 1, by simp, by omega, ?_⟩
        have e3 : [] ++ H ++ ((x.answers.take (k + 1)).map rowL).flatten = [] ++ H ++ ((x.answers.take k).map rowL).flatten ++ (lineL x.answers[k] ++ [10]) := by
          rw [List.take_succ, List.getElem?_eq_getElem hlt, List.map_append, List.flatten_append]
          simp [rowL]
        rw [e3]
        exact h5
      case measure => simp [intOf]; omega
    · have hkl : k = x.answers.length := by omega
      subst hkl
      rw [List.take_length] at hST
      go_wp2_with (go_at_call 41; refine (xeg (T := 70) w1.heap.size w1.heap.size _ _ hST.bld (by simp [hH0])).mono ?_)
      rintro e wz ⟨rfl, hbz⟩
      go_wp2
      go_ret
      refine ⟨?_, (hbw.trans (hST.bel.mono (Nat.le_of_lt hs1))).trans (hbz.mono (Nat.le_of_lt hs1))⟩
      congr 2
      unfold textS
      rw [hHe]
      simp [bB]
end Go.Proofs.YtjmnoaoeediodaaDoor.AL

/- script.Text in the world, the mode's case 1. -/
set_option linter.all false
namespace Go.Proofs.YtjmnoaoeediodaaDoor.AL
open Go Go.Proofs Go.RowKit
set_option maxHeartbeats 4000000 in
set_option maxRecDepth 100000 in
theorem xc0 {x : Script} (hm : hideP (x.mode = 1)) (hl : x.answers.length ≤ 1000) (h64 : ∀ a ∈ x.answers, A64 a) (av : Value) (w : World) (hg : GW w) (hA : AAt w w.heap.size x.answers av) :
    Calls Tryd.prog 21 #[.agg #[.int .i64 x.mode, av, .bool x.default]] w fun e w' => e = .returned (.string (bB (textS x))) ∧ Below w.heap.size w w' := by
  have hgA : ∀ o, GW (w.alloc o) := fun o => hg.mono ((Below.refl _ w).alloc (Nat.le_refl _) o) hg.size
  obtain ⟨A, cap, rfl, hcells⟩ := hA
  have hbox : ∀ (j : Nat) (v : Value), (#[.int .i64 x.mode, .slice A x.answers.length cap, .bool x.default] : Array Value)[j]? = some v → (w.alloc (.cells #[.int .i64 x.mode, .slice A x.answers.length cap, .bool x.default] 39)).cell? ⟨w.heap.size, j, none⟩ = some v := by
    intro j v hv
    have : (w.alloc (.cells #[.int .i64 x.mode, .slice A x.answers.length cap, .bool x.default] 39)).heap[w.heap.size]? = some (.cells #[.int .i64 x.mode, .slice A x.answers.length cap, .bool x.default] 39 (0, 0)) := by
      show (w.heap.push _)[w.heap.size]? = _
      rw [Array.getElem?_push_size]
    rw [Lib.cell_of_heap this]
    exact hv
  have b0 := hbox 0 _ rfl
  have b1 := hbox 1 _ rfl
  have b2 := hbox 2 _ rfl
  clear hbox
  have hwA : Below w.heap.size w (w.alloc (.cells #[.int .i64 x.mode, .slice A x.answers.length cap, .bool x.default] 39)) := (Below.refl _ w).alloc (Nat.le_refl _) _
  have hszA : w.heap.size < (w.alloc (.cells #[.int .i64 x.mode, .slice A x.answers.length cap, .bool x.default] 39)).heap.size := by simp
  go_enter Tryd.func21, Tryd.ntmps21
  go_wp2_with (go_at_call 44; refine (xrj _ (hgA _)).mono ?_)
  rintro e w1 ⟨blk, o, mcap, rfl, hcap, hb1, k0, k1, k2⟩
  have hg1 : GW w1 := (hgA _).mono hb1 (hgA _).size
  have hbw : Below w.heap.size w w1 := hwA.trans (hb1.mono (Nat.le_of_lt hszA))
  have hs1 : w.heap.size < w1.heap.size := Nat.lt_of_lt_of_le hszA hb1.size
  have c0 : w1.cell? ⟨w.heap.size, 0, none⟩ = some (.int .i64 x.mode) := (hb1.cell (p := ⟨_, 0, none⟩) hszA).trans b0
  have c1 : w1.cell? ⟨w.heap.size, 1, none⟩ = some (.slice A x.answers.length cap) := (hb1.cell (p := ⟨_, 1, none⟩) hszA).trans b1
  have c2 : w1.cell? ⟨w.heap.size, 2, none⟩ = some (.bool x.default) := (hb1.cell (p := ⟨_, 2, none⟩) hszA).trans b2
  clear b0 b1 b2 hb1 hwA hszA hgA
  have hgB : ∀ o, GW (w1.alloc o) := fun o => hg1.mono ((Below.refl _ w1).alloc (Nat.le_refl _) o) hg1.size
  have hgN : gN ≤ w1.heap.size := hg1.size
  have hy := ynL_le x.default
  obtain ⟨M, hMe, hMl⟩ : ∃ M, modeL x.mode = M ∧ M.length ≤ 6 := ⟨_, rfl, xdf _⟩
  have hhead := xqi x.mode x.default
  unfold hideP at hm
  have hM : [97, 117, 116, 111] = M := by rw [← hMe, hm]; rfl
  rw [hM] at k1
  rw [hm] at c0
  have f1 : ¬ 9223372036854775807 < (bB M).size + 1 := by rw [xh]; omega
  have f2 : ¬ 9223372036854775807 < (bB M).size + 1 + (bB (ynL x.default)).size := by rw [xh, xh]; omega
  have f3 : ¬ 9223372036854775807 < (bB M).size + 1 + (bB (ynL x.default)).size + 1 := by rw [xh, xh]; omega
  go_wp2_with (go_at_call 43; refine (x0j x.default _ (hgB _)).mono ?_)
  rintro e w2 ⟨rfl, hb2⟩
  have h2 := (ST.start1 (T := 70) hg1).call hb2
  obtain ⟨H, hHe, hHl, hH0⟩ : ∃ H, headL x.mode x.default = H ∧ H.length ≤ 20 ∧ H ≠ [] := ⟨_, rfl, hhead, by unfold headL; simp⟩
  have e1 : bB M ++ ByteArray.mk #[32] ++ bB (ynL x.default) ++ ByteArray.mk #[10] = bB H := by
    rw [← hHe]
    rw [c32, c10, bB_app, bB_app, bB_app]
    unfold headL
    rw [hMe]
    simp
  have hsz : (Lib.byteCells []).length + (bB H).size ≤ 140737488355328 := by
    rw [xh]
    simp only [Lib.byteCells, List.map_nil, List.length_nil]
    omega
  go_wp2_with (go_at_call 39; refine (xmb lies70 (by decide) w1.heap.size w1.heap.size _ _ _ h2.bld hsz h2.sz).mono ?_)
  rintro e w3 ⟨rfl, hw3, hb3⟩
  have h3 := h2.write hgN hw3 hb3
  have q1 := h3.cell hs1 c1
  clear f1 f2 f3 e1 hsz hw3 hb3 h2 hb2 k0 k1 k2 c0 c2
  go_wp2
  go_loopw [35] (fun i wr => ∃ k : Nat, i = .int .i64 k ∧ k ≤ x.answers.length ∧ ST 70 w1.heap.size w1.heap.size w1 ([] ++ H ++ ((x.answers.take k).map rowL).flatten) wr) (fun i _ => x.answers.length - (intOf i).toNat)
  case atStart => exact ⟨0, rfl, by omega, by simpa using h3⟩
  case round =>
    obtain ⟨k, rfl, hk, hST⟩ := hrel
    by_cases hlt : k < x.answers.length
    · obtain ⟨ab, ao, rfl, hab, a0, a1, a2, a3⟩ := hcells k x.answers[k] (List.getElem?_eq_getElem hlt)
      have hba : ∀ {j v}, w.cell? ⟨ab, j, none⟩ = some v → wr.cell? ⟨ab, j, none⟩ = some v := fun {j v} h => hST.cell (Nat.lt_trans hab hs1) ((hbw.cell (p := ⟨ab, j, none⟩) hab).trans h)
      have d0 := hba a0
      have d1 := hba a1
      have d2 := hba a2
      have d3 := hba a3
      clear hba a0 a1 a2 a3
      have ha64 := h64 _ (List.getElem_mem hlt)
      have hln := xhe ha64
      have g1 : ¬ 9223372036854775807 < (bB (lineL x.answers[k])).size + 1 := by rw [xh]; omega
      have hgR : ∀ o, GW (wr.alloc o) := fun o => hST.gw.mono ((Below.refl _ wr).alloc (Nat.le_refl _) o) hST.gw.size
      have hrows := x1j h64 k
      have hsz2 : (Lib.byteCells ([] ++ H ++ ((x.answers.take k).map rowL).flatten)).length + (bB (lineL x.answers[k]) ++ ByteArray.mk #[10]).size ≤ 140737488355328 := by
        rw [Lib.byteCells_length, c10, bB_app, xh]
        simp only [List.length_append, List.length_cons, List.length_nil]
        omega
      go_wp2_with (go_at_call 19; refine (line_w ha64 _ (hgR _)).mono ?_)
      rintro e w4 ⟨rfl, hb4⟩
      have h4 := (hST.call ((Below.refl _ wr).alloc (Nat.le_refl _) _)).call hb4
      go_wp2_with (go_at_call 39; refine (xmb lies70 (by decide) w1.heap.size w1.heap.size _ _ _ h4.bld hsz2 h4.sz).mono ?_)
      rintro e w5 ⟨rfl, hw5, hb5⟩
      rw [c10, bB_app] at hw5
      have h5 := h4.write hgN hw5 hb5
      clear g1 hsz2 hw5 hb5 h4 hb4
      go_wp2
      go_roundw
      case rel =>
        refine ⟨k + 1, by simp, by omega, ?_⟩
        have e3 : [] ++ H ++ ((x.answers.take (k + 1)).map rowL).flatten = [] ++ H ++ ((x.answers.take k).map rowL).flatten ++ (lineL x.answers[k] ++ [10]) := by
          rw [List.take_succ, List.getElem?_eq_getElem hlt, List.map_append, List.flatten_append]
          simp [rowL]
        rw [e3]
        exact h5
      case measure => simp [intOf]; omega
    · have hkl : k = x.answers.length := by omega
      subst hkl
      rw [List.take_length] at hST
      go_wp2_with (go_at_call 41; refine (xeg (T := 70) w1.heap.size w1.heap.size _ _ hST.bld (by simp [hH0])).mono ?_)
      rintro e wz ⟨rfl, hbz⟩
      go_wp2
      go_ret
      refine ⟨?_, (hbw.trans (hST.bel.mono (Nat.le_of_lt hs1))).trans (hbz.mono (Nat.le_of_lt hs1))⟩
      congr 2
      unfold textS
      rw [hHe]
      simp [bB]
end Go.Proofs.YtjmnoaoeediodaaDoor.AL

/- script.Text in the world, the mode's case 2. -/
set_option linter.all false
namespace Go.Proofs.YtjmnoaoeediodaaDoor.AL
open Go Go.Proofs Go.RowKit
set_option maxHeartbeats 4000000 in
set_option maxRecDepth 100000 in
theorem xey {x : Script} (hm : hideP (x.mode = 2)) (hl : x.answers.length ≤ 1000) (h64 : ∀ a ∈ x.answers, A64 a) (av : Value) (w : World) (hg : GW w) (hA : AAt w w.heap.size x.answers av) :
    Calls Tryd.prog 21 #[.agg #[.int .i64 x.mode, av, .bool x.default]] w fun e w' => e = .returned (.string (bB (textS x))) ∧ Below w.heap.size w w' := by
  have hgA : ∀ o, GW (w.alloc o) := fun o => hg.mono ((Below.refl _ w).alloc (Nat.le_refl _) o) hg.size
  obtain ⟨A, cap, rfl, hcells⟩ := hA
  have hbox : ∀ (j : Nat) (v : Value), (#[.int .i64 x.mode, .slice A x.answers.length cap, .bool x.default] : Array Value)[j]? = some v → (w.alloc (.cells #[.int .i64 x.mode, .slice A x.answers.length cap, .bool x.default] 39)).cell? ⟨w.heap.size, j, none⟩ = some v := by
    intro j v hv
    have : (w.alloc (.cells #[.int .i64 x.mode, .slice A x.answers.length cap, .bool x.default] 39)).heap[w.heap.size]? = some (.cells #[.int .i64 x.mode, .slice A x.answers.length cap, .bool x.default] 39 (0, 0)) := by
      show (w.heap.push _)[w.heap.size]? = _
      rw [Array.getElem?_push_size]
    rw [Lib.cell_of_heap this]
    exact hv
  have b0 := hbox 0 _ rfl
  have b1 := hbox 1 _ rfl
  have b2 := hbox 2 _ rfl
  clear hbox
  have hwA : Below w.heap.size w (w.alloc (.cells #[.int .i64 x.mode, .slice A x.answers.length cap, .bool x.default] 39)) := (Below.refl _ w).alloc (Nat.le_refl _) _
  have hszA : w.heap.size < (w.alloc (.cells #[.int .i64 x.mode, .slice A x.answers.length cap, .bool x.default] 39)).heap.size := by simp
  go_enter Tryd.func21, Tryd.ntmps21
  go_wp2_with (go_at_call 44; refine (xrj _ (hgA _)).mono ?_)
  rintro e w1 ⟨blk, o, mcap, rfl, hcap, hb1, k0, k1, k2⟩
  have hg1 : GW w1 := (hgA _).mono hb1 (hgA _).size
  have hbw : Below w.heap.size w w1 := hwA.trans (hb1.mono (Nat.le_of_lt hszA))
  have hs1 : w.heap.size < w1.heap.size := Nat.lt_of_lt_of_le hszA hb1.size
  have c0 : w1.cell? ⟨w.heap.size, 0, none⟩ = some (.int .i64 x.mode) := (hb1.cell (p := ⟨_, 0, none⟩) hszA).trans b0
  have c1 : w1.cell? ⟨w.heap.size, 1, none⟩ = some (.slice A x.answers.length cap) := (hb1.cell (p := ⟨_, 1, none⟩) hszA).trans b1
  have c2 : w1.cell? ⟨w.heap.size, 2, none⟩ = some (.bool x.default) := (hb1.cell (p := ⟨_, 2, none⟩) hszA).trans b2
  clear b0 b1 b2 hb1 hwA hszA hgA
  have hgB : ∀ o, GW (w1.alloc o) := fun o => hg1.mono ((Below.refl _ w1).alloc (Nat.le_refl _) o) hg1.size
  have hgN : gN ≤ w1.heap.size := hg1.size
  have hy := ynL_le x.default
  obtain ⟨M, hMe, hMl⟩ : ∃ M, modeL x.mode = M ∧ M.length ≤ 6 := ⟨_, rfl, xdf _⟩
  have hhead := xqi x.mode x.default
  unfold hideP at hm
  have hM : [115, 99, 114, 105, 112, 116] = M := by rw [← hMe, hm]; rfl
  rw [hM] at k2
  rw [hm] at c0
  have f1 : ¬ 9223372036854775807 < (bB M).size + 1 := by rw [xh]; omega
  have f2 : ¬ 9223372036854775807 < (bB M).size + 1 + (bB (ynL x.default)).size := by rw [xh, xh]; omega
  have f3 : ¬ 9223372036854775807 < (bB M).size + 1 + (bB (ynL x.default)).size + 1 := by rw [xh, xh]; omega
  go_wp2_with (go_at_call 43; refine (x0j x.default _ (hgB _)).mono ?_)
  rintro e w2 ⟨rfl, hb2⟩
  have h2 := (ST.start1 (T := 70) hg1).call hb2
  obtain ⟨H, hHe, hHl, hH0⟩ : ∃ H, headL x.mode x.default = H ∧ H.length ≤ 20 ∧ H ≠ [] := ⟨_, rfl, hhead, by unfold headL; simp⟩
  have e1 : bB M ++ ByteArray.mk #[32] ++ bB (ynL x.default) ++ ByteArray.mk #[10] = bB H := by
    rw [← hHe]
    rw [c32, c10, bB_app, bB_app, bB_app]
    unfold headL
    rw [hMe]
    simp
  have hsz : (Lib.byteCells []).length + (bB H).size ≤ 140737488355328 := by
    rw [xh]
    simp only [Lib.byteCells, List.map_nil, List.length_nil]
    omega
  go_wp2_with (go_at_call 39; refine (xmb lies70 (by decide) w1.heap.size w1.heap.size _ _ _ h2.bld hsz h2.sz).mono ?_)
  rintro e w3 ⟨rfl, hw3, hb3⟩
  have h3 := h2.write hgN hw3 hb3
  have q1 := h3.cell hs1 c1
  clear f1 f2 f3 e1 hsz hw3 hb3 h2 hb2 k0 k1 k2 c0 c2
  go_wp2
  go_loopw [35] (fun i wr => ∃ k : Nat, i = .int .i64 k ∧ k ≤ x.answers.length ∧ ST 70 w1.heap.size w1.heap.size w1 ([] ++ H ++ ((x.answers.take k).map rowL).flatten) wr) (fun i _ => x.answers.length - (intOf i).toNat)
  case atStart => exact ⟨0, rfl, by omega, by simpa using h3⟩
  case round =>
    obtain ⟨k, rfl, hk, hST⟩ := hrel
    by_cases hlt : k < x.answers.length
    · obtain ⟨ab, ao, rfl, hab, a0, a1, a2, a3⟩ := hcells k x.answers[k] (List.getElem?_eq_getElem hlt)
      have hba : ∀ {j v}, w.cell? ⟨ab, j, none⟩ = some v → wr.cell? ⟨ab, j, none⟩ = some v := fun {j v} h => hST.cell (Nat.lt_trans hab hs1) ((hbw.cell (p := ⟨ab, j, none⟩) hab).trans h)
      have d0 := hba a0
      have d1 := hba a1
      have d2 := hba a2
      have d3 := hba a3
      clear hba a0 a1 a2 a3
      have ha64 := h64 _ (List.getElem_mem hlt)
      have hln := xhe ha64
      have g1 : ¬ 9223372036854775807 < (bB (lineL x.answers[k])).size + 1 := by rw [xh]; omega
      have hgR : ∀ o, GW (wr.alloc o) := fun o => hST.gw.mono ((Below.refl _ wr).alloc (Nat.le_refl _) o) hST.gw.size
      have hrows := x1j h64 k
      have hsz2 : (Lib.byteCells ([] ++ H ++ ((x.answers.take k).map rowL).flatten)).length + (bB (lineL x.answers[k]) ++ ByteArray.mk #[10]).size ≤ 140737488355328 := by
        rw [Lib.byteCells_length, c10, bB_app, xh]
        simp only [List.length_append, List.length_cons, List.length_nil]
        omega
      go_wp2_with (go_at_call 19; refine (line_w ha64 _ (hgR _)).mono ?_)
      rintro e w4 ⟨rfl, hb4⟩
      have h4 := (hST.call ((Below.refl _ wr).alloc (Nat.le_refl _) _)).call hb4
      go_wp2_with (go_at_call 39; refine (xmb lies70 (by decide) w1.heap.size w1.heap.size _ _ _ h4.bld hsz2 h4.sz).mono ?_)
      rintro e w5 ⟨rfl, hw5, hb5⟩
      rw [c10, bB_app] at hw5
      have h5 := h4.write hgN hw5 hb5
      clear g1 hsz2 hw5 hb5 h4 hb4
      go_wp2
      go_roundw
      case rel =>
        refine ⟨k + 1, by simp, by omega, ?_⟩
        have e3 : [] ++ H ++ ((x.answers.take (k + 1)).map rowL).flatten = [] ++ H ++ ((x.answers.take k).map rowL).flatten ++ (lineL x.answers[k] ++ [10]) := by
          rw [List.take_succ, List.getElem?_eq_getElem hlt, List.map_append, List.flatten_append]
          simp [rowL]
        rw [e3]
        exact h5
      case measure => simp [intOf]; omega
    · have hkl : k = x.answers.length := by omega
      subst hkl
      rw [List.take_length] at hST
      go_wp2_with (go_at_call 41; refine (xeg (T := 70) w1.heap.size w1.heap.size _ _ hST.bld (by simp [hH0])).mono ?_)
      rintro e wz ⟨rfl, hbz⟩
      go_wp2
      go_ret
      refine ⟨?_, (hbw.trans (hST.bel.mono (Nat.le_of_lt hs1))).trans (hbz.mono (Nat.le_of_lt hs1))⟩
      congr 2
      unfold textS
      rw [hHe]
      simp [bB]
end Go.Proofs.YtjmnoaoeediodaaDoor.AL

/- script.Text in the world, the mode's case 3. -/
set_option linter.all false
namespace Go.Proofs.YtjmnoaoeediodaaDoor.AL
open Go Go.Proofs Go.RowKit
set_option maxHeartbeats 4000000 in
set_option maxRecDepth 100000 in
theorem xbz {x : Script} (hm : hideP (x.mode < 0)) (hl : x.answers.length ≤ 1000) (h64 : ∀ a ∈ x.answers, A64 a) (av : Value) (w : World) (hg : GW w) (hA : AAt w w.heap.size x.answers av) :
    Calls Tryd.prog 21 #[.agg #[.int .i64 x.mode, av, .bool x.default]] w fun e w' => e = .returned (.string (bB (textS x))) ∧ Below w.heap.size w w' := by
  have hgA : ∀ o, GW (w.alloc o) := fun o => hg.mono ((Below.refl _ w).alloc (Nat.le_refl _) o) hg.size
  obtain ⟨A, cap, rfl, hcells⟩ := hA
  have hbox : ∀ (j : Nat) (v : Value), (#[.int .i64 x.mode, .slice A x.answers.length cap, .bool x.default] : Array Value)[j]? = some v → (w.alloc (.cells #[.int .i64 x.mode, .slice A x.answers.length cap, .bool x.default] 39)).cell? ⟨w.heap.size, j, none⟩ = some v := by
    intro j v hv
    have : (w.alloc (.cells #[.int .i64 x.mode, .slice A x.answers.length cap, .bool x.default] 39)).heap[w.heap.size]? = some (.cells #[.int .i64 x.mode, .slice A x.answers.length cap, .bool x.default] 39 (0, 0)) := by
      show (w.heap.push _)[w.heap.size]? = _
      rw [Array.getElem?_push_size]
    rw [Lib.cell_of_heap this]
    exact hv
  have b0 := hbox 0 _ rfl
  have b1 := hbox 1 _ rfl
  have b2 := hbox 2 _ rfl
  clear hbox
  have hwA : Below w.heap.size w (w.alloc (.cells #[.int .i64 x.mode, .slice A x.answers.length cap, .bool x.default] 39)) := (Below.refl _ w).alloc (Nat.le_refl _) _
  have hszA : w.heap.size < (w.alloc (.cells #[.int .i64 x.mode, .slice A x.answers.length cap, .bool x.default] 39)).heap.size := by simp
  go_enter Tryd.func21, Tryd.ntmps21
  go_wp2_with (go_at_call 44; refine (xrj _ (hgA _)).mono ?_)
  rintro e w1 ⟨blk, o, mcap, rfl, hcap, hb1, k0, k1, k2⟩
  have hg1 : GW w1 := (hgA _).mono hb1 (hgA _).size
  have hbw : Below w.heap.size w w1 := hwA.trans (hb1.mono (Nat.le_of_lt hszA))
  have hs1 : w.heap.size < w1.heap.size := Nat.lt_of_lt_of_le hszA hb1.size
  have c0 : w1.cell? ⟨w.heap.size, 0, none⟩ = some (.int .i64 x.mode) := (hb1.cell (p := ⟨_, 0, none⟩) hszA).trans b0
  have c1 : w1.cell? ⟨w.heap.size, 1, none⟩ = some (.slice A x.answers.length cap) := (hb1.cell (p := ⟨_, 1, none⟩) hszA).trans b1
  have c2 : w1.cell? ⟨w.heap.size, 2, none⟩ = some (.bool x.default) := (hb1.cell (p := ⟨_, 2, none⟩) hszA).trans b2
  clear b0 b1 b2 hb1 hwA hszA hgA
  have hgB : ∀ o, GW (w1.alloc o) := fun o => hg1.mono ((Below.refl _ w1).alloc (Nat.le_refl _) o) hg1.size
  have hgN : gN ≤ w1.heap.size := hg1.size
  have hy := ynL_le x.default
  obtain ⟨M, hMe, hMl⟩ : ∃ M, modeL x.mode = M ∧ M.length ≤ 6 := ⟨_, rfl, xdf _⟩
  have hhead := xqi x.mode x.default
  unfold hideP at hm
  have hM : M = [63] := by
    rw [← hMe]
    unfold modeL
    rw [if_neg (by omega), if_neg (by omega), if_neg (by omega)]
  have hx : ¬ (0 : Int) ≤ x.mode := by omega
  have f1 : True := trivial
  have f2 : ¬ 9223372036854775807 < 2 + (bB (ynL x.default)).size := by rw [xh]; omega
  have f3 : ¬ 9223372036854775807 < 2 + (bB (ynL x.default)).size + 1 := by rw [xh]; omega
  go_wp2_with (go_at_call 43; refine (x0j x.default _ (hgB _)).mono ?_)
  rintro e w2 rfl hb2
  have h2 := (ST.start1 (T := 70) hg1).call (by simpa using hb2)
  obtain ⟨H, hHe, hHl, hH0⟩ : ∃ H, headL x.mode x.default = H ∧ H.length ≤ 20 ∧ H ≠ [] := ⟨_, rfl, hhead, by unfold headL; simp⟩
  have e1 : ByteArray.mk #[63] ++ ByteArray.mk #[32] ++ bB (ynL x.default) ++ ByteArray.mk #[10] = bB H := by
    rw [← hHe]
    rw [c63, ← hM]
    rw [c32, c10, bB_app, bB_app, bB_app]
    unfold headL
    rw [hMe]
    simp
  have hsz : (Lib.byteCells []).length + (bB H).size ≤ 140737488355328 := by
    rw [xh]
    simp only [Lib.byteCells, List.map_nil, List.length_nil]
    omega
  go_wp2_with (go_at_call 39; refine (xmb lies70 (by decide) w1.heap.size w1.heap.size _ _ _ h2.bld hsz h2.sz).mono ?_)
  rintro e w3 ⟨rfl, hw3, hb3⟩
  have h3 := h2.write hgN hw3 hb3
  have q1 := h3.cell hs1 c1
  clear f1 f2 f3 e1 hsz hw3 hb3 h2 hb2 k0 k1 k2 c0 c2
  go_wp2
  go_loopw [35] (fun i wr => ∃ k : Nat, i = .int .i64 k ∧ k ≤ x.answers.length ∧ ST 70 w1.heap.size w1.heap.size w1 ([] ++ H ++ ((x.answers.take k).map rowL).flatten) wr) (fun i _ => x.answers.length - (intOf i).toNat)
  case atStart => exact ⟨0, rfl, by omega, by simpa using h3⟩
  case round =>
    obtain ⟨k, rfl, hk, hST⟩ := hrel
    by_cases hlt : k < x.answers.length
    · obtain ⟨ab, ao, rfl, hab, a0, a1, a2, a3⟩ := hcells k x.answers[k] (List.getElem?_eq_getElem hlt)
      have hba : ∀ {j v}, w.cell? ⟨ab, j, none⟩ = some v → wr.cell? ⟨ab, j, none⟩ = some v := fun {j v} h => hST.cell (Nat.lt_trans hab hs1) ((hbw.cell (p := ⟨ab, j, none⟩) hab).trans h)
      have d0 := hba a0
      have d1 := hba a1
      have d2 := hba a2
      have d3 := hba a3
      clear hba a0 a1 a2 a3
      have ha64 := h64 _ (List.getElem_mem hlt)
      have hln := xhe ha64
      have g1 : ¬ 9223372036854775807 < (bB (lineL x.answers[k])).size + 1 := by rw [xh]; omega
      have hgR : ∀ o, GW (wr.alloc o) := fun o => hST.gw.mono ((Below.refl _ wr).alloc (Nat.le_refl _) o) hST.gw.size
      have hrows := x1j h64 k
      have hsz2 : (Lib.byteCells ([] ++ H ++ ((x.answers.take k).map rowL).flatten)).length + (bB (lineL x.answers[k]) ++ ByteArray.mk #[10]).size ≤ 140737488355328 := by
        rw [Lib.byteCells_length, c10, bB_app, xh]
        simp only [List.length_append, List.length_cons, List.length_nil]
        omega
      go_wp2_with (go_at_call 19; refine (line_w ha64 _ (hgR _)).mono ?_)
      rintro e w4 ⟨rfl, hb4⟩
      have h4 := (hST.call ((Below.refl _ wr).alloc (Nat.le_refl _) _)).call hb4
      go_wp2_with (go_at_call 39; refine (xmb lies70 (by decide) w1.heap.size w1.heap.size _ _ _ h4.bld hsz2 h4.sz).mono ?_)
      rintro e w5 ⟨rfl, hw5, hb5⟩
      rw [c10, bB_app] at hw5
      have h5 := h4.write hgN hw5 hb5
      clear g1 hsz2 hw5 hb5 h4 hb4
      go_wp2
      go_roundw
      case rel =>
        refine ⟨k + 1, by simp, by omega, ?_⟩
        have e3 : [] ++ H ++ ((x.answers.take (k + 1)).map rowL).flatten = [] ++ H ++ ((x.answers.take k).map rowL).flatten ++ (lineL x.answers[k] ++ [10]) := by
          rw [List.take_succ, List.getElem?_eq_getElem hlt, List.map_append, List.flatten_append]
          simp [rowL]
        rw [e3]
        exact h5
      case measure => simp [intOf]; omega
    · have hkl : k = x.answers.length := by omega
      subst hkl
      rw [List.take_length] at hST
      go_wp2_with (go_at_call 41; refine (xeg (T := 70) w1.heap.size w1.heap.size _ _ hST.bld (by simp [hH0])).mono ?_)
      rintro e wz ⟨rfl, hbz⟩
      go_wp2
      go_ret
      refine ⟨?_, (hbw.trans (hST.bel.mono (Nat.le_of_lt hs1))).trans (hbz.mono (Nat.le_of_lt hs1))⟩
      congr 2
      unfold textS
      rw [hHe]
      simp [bB]
end Go.Proofs.YtjmnoaoeediodaaDoor.AL

/- script.Text in the world, the mode's case 4. -/
set_option linter.all false
namespace Go.Proofs.YtjmnoaoeediodaaDoor.AL
open Go Go.Proofs Go.RowKit
set_option maxHeartbeats 4000000 in
set_option maxRecDepth 100000 in
theorem x4z {x : Script} (hm : hideP (3 ≤ x.mode)) (hl : x.answers.length ≤ 1000) (h64 : ∀ a ∈ x.answers, A64 a) (av : Value) (w : World) (hg : GW w) (hA : AAt w w.heap.size x.answers av) :
    Calls Tryd.prog 21 #[.agg #[.int .i64 x.mode, av, .bool x.default]] w fun e w' => e = .returned (.string (bB (textS x))) ∧ Below w.heap.size w w' := by
  have hgA : ∀ o, GW (w.alloc o) := fun o => hg.mono ((Below.refl _ w).alloc (Nat.le_refl _) o) hg.size
  obtain ⟨A, cap, rfl, hcells⟩ := hA
  have hbox : ∀ (j : Nat) (v : Value), (#[.int .i64 x.mode, .slice A x.answers.length cap, .bool x.default] : Array Value)[j]? = some v → (w.alloc (.cells #[.int .i64 x.mode, .slice A x.answers.length cap, .bool x.default] 39)).cell? ⟨w.heap.size, j, none⟩ = some v := by
    intro j v hv
    have : (w.alloc (.cells #[.int .i64 x.mode, .slice A x.answers.length cap, .bool x.default] 39)).heap[w.heap.size]? = some (.cells #[.int .i64 x.mode, .slice A x.answers.length cap, .bool x.default] 39 (0, 0)) := by
      show (w.heap.push _)[w.heap.size]? = _
      rw [Array.getElem?_push_size]
    rw [Lib.cell_of_heap this]
    exact hv
  have b0 := hbox 0 _ rfl
  have b1 := hbox 1 _ rfl
  have b2 := hbox 2 _ rfl
  clear hbox
  have hwA : Below w.heap.size w (w.alloc (.cells #[.int .i64 x.mode, .slice A x.answers.length cap, .bool x.default] 39)) := (Below.refl _ w).alloc (Nat.le_refl _) _
  have hszA : w.heap.size < (w.alloc (.cells #[.int .i64 x.mode, .slice A x.answers.length cap, .bool x.default] 39)).heap.size := by simp
  go_enter Tryd.func21, Tryd.ntmps21
  go_wp2_with (go_at_call 44; refine (xrj _ (hgA _)).mono ?_)
  rintro e w1 ⟨blk, o, mcap, rfl, hcap, hb1, k0, k1, k2⟩
  have hg1 : GW w1 := (hgA _).mono hb1 (hgA _).size
  have hbw : Below w.heap.size w w1 := hwA.trans (hb1.mono (Nat.le_of_lt hszA))
  have hs1 : w.heap.size < w1.heap.size := Nat.lt_of_lt_of_le hszA hb1.size
  have c0 : w1.cell? ⟨w.heap.size, 0, none⟩ = some (.int .i64 x.mode) := (hb1.cell (p := ⟨_, 0, none⟩) hszA).trans b0
  have c1 : w1.cell? ⟨w.heap.size, 1, none⟩ = some (.slice A x.answers.length cap) := (hb1.cell (p := ⟨_, 1, none⟩) hszA).trans b1
  have c2 : w1.cell? ⟨w.heap.size, 2, none⟩ = some (.bool x.default) := (hb1.cell (p := ⟨_, 2, none⟩) hszA).trans b2
  clear b0 b1 b2 hb1 hwA hszA hgA
  have hgB : ∀ o, GW (w1.alloc o) := fun o => hg1.mono ((Below.refl _ w1).alloc (Nat.le_refl _) o) hg1.size
  have hgN : gN ≤ w1.heap.size := hg1.size
  have hy := ynL_le x.default
  obtain ⟨M, hMe, hMl⟩ : ∃ M, modeL x.mode = M ∧ M.length ≤ 6 := ⟨_, rfl, xdf _⟩
  have hhead := xqi x.mode x.default
  unfold hideP at hm
  have hM : M = [63] := by
    rw [← hMe]
    unfold modeL
    rw [if_neg (by omega), if_neg (by omega), if_neg (by omega)]
  have hx : ¬ x.mode < 3 := by omega
  have hx0 : (0 : Int) ≤ x.mode := by omega
  have f1 : True := trivial
  have f2 : ¬ 9223372036854775807 < 2 + (bB (ynL x.default)).size := by rw [xh]; omega
  have f3 : ¬ 9223372036854775807 < 2 + (bB (ynL x.default)).size + 1 := by rw [xh]; omega
  go_wp2_with (go_at_call 43; refine (x0j x.default _ (hgB _)).mono ?_)
  rintro e w2 ⟨rfl, hb2⟩
  have h2 := (ST.start1 (T := 70) hg1).call hb2
  obtain ⟨H, hHe, hHl, hH0⟩ : ∃ H, headL x.mode x.default = H ∧ H.length ≤ 20 ∧ H ≠ [] := ⟨_, rfl, hhead, by unfold headL; simp⟩
  have e1 : ByteArray.mk #[63] ++ ByteArray.mk #[32] ++ bB (ynL x.default) ++ ByteArray.mk #[10] = bB H := by
    rw [← hHe]
    rw [c63, ← hM]
    rw [c32, c10, bB_app, bB_app, bB_app]
    unfold headL
    rw [hMe]
    simp
  have hsz : (Lib.byteCells []).length + (bB H).size ≤ 140737488355328 := by
    rw [xh]
    simp only [Lib.byteCells, List.map_nil, List.length_nil]
    omega
  go_wp2_with (go_at_call 39; refine (xmb lies70 (by decide) w1.heap.size w1.heap.size _ _ _ h2.bld hsz h2.sz).mono ?_)
  rintro e w3 ⟨rfl, hw3, hb3⟩
  have h3 := h2.write hgN hw3 hb3
  have q1 := h3.cell hs1 c1
  clear f1 f2 f3 e1 hsz hw3 hb3 h2 hb2 k0 k1 k2 c0 c2
  go_wp2
  go_loopw [35] (fun i wr => ∃ k : Nat, i = .int .i64 k ∧ k ≤ x.answers.length ∧ ST 70 w1.heap.size w1.heap.size w1 ([] ++ H ++ ((x.answers.take k).map rowL).flatten) wr) (fun i _ => x.answers.length - (intOf i).toNat)
  case atStart => exact ⟨0, rfl, by omega, by simpa using h3⟩
  case round =>
    obtain ⟨k, rfl, hk, hST⟩ := hrel
    by_cases hlt : k < x.answers.length
    · obtain ⟨ab, ao, rfl, hab, a0, a1, a2, a3⟩ := hcells k x.answers[k] (List.getElem?_eq_getElem hlt)
      have hba : ∀ {j v}, w.cell? ⟨ab, j, none⟩ = some v → wr.cell? ⟨ab, j, none⟩ = some v := fun {j v} h => hST.cell (Nat.lt_trans hab hs1) ((hbw.cell (p := ⟨ab, j, none⟩) hab).trans h)
      have d0 := hba a0
      have d1 := hba a1
      have d2 := hba a2
      have d3 := hba a3
      clear hba a0 a1 a2 a3
      have ha64 := h64 _ (List.getElem_mem hlt)
      have hln := xhe ha64
      have g1 : ¬ 9223372036854775807 < (bB (lineL x.answers[k])).size + 1 := by rw [xh]; omega
      have hgR : ∀ o, GW (wr.alloc o) := fun o => hST.gw.mono ((Below.refl _ wr).alloc (Nat.le_refl _) o) hST.gw.size
      have hrows := x1j h64 k
      have hsz2 : (Lib.byteCells ([] ++ H ++ ((x.answers.take k).map rowL).flatten)).length + (bB (lineL x.answers[k]) ++ ByteArray.mk #[10]).size ≤ 140737488355328 := by
        rw [Lib.byteCells_length, c10, bB_app, xh]
        simp only [List.length_append, List.length_cons, List.length_nil]
        omega
      go_wp2_with (go_at_call 19; refine (line_w ha64 _ (hgR _)).mono ?_)
      rintro e w4 ⟨rfl, hb4⟩
      have h4 := (hST.call ((Below.refl _ wr).alloc (Nat.le_refl _) _)).call hb4
      go_wp2_with (go_at_call 39; refine (xmb lies70 (by decide) w1.heap.size w1.heap.size _ _ _ h4.bld hsz2 h4.sz).mono ?_)
      rintro e w5 ⟨rfl, hw5, hb5⟩
      rw [c10, bB_app] at hw5
      have h5 := h4.write hgN hw5 hb5
      clear g1 hsz2 hw5 hb5 h4 hb4
      go_wp2
      go_roundw
      case rel =>
        refine ⟨k + 1, by simp, by omega, ?_⟩
        have e3 : [] ++ H ++ ((x.answers.take (k + 1)).map rowL).flatten = [] ++ H ++ ((x.answers.take k).map rowL).flatten ++ (lineL x.answers[k] ++ [10]) := by
          rw [List.take_succ, List.getElem?_eq_getElem hlt, List.map_append, List.flatten_append]
          simp [rowL]
        rw [e3]
        exact h5
      case measure => simp [intOf]; omega
    · have hkl : k = x.answers.length := by omega
      subst hkl
      rw [List.take_length] at hST
      go_wp2_with (go_at_call 41; refine (xeg (T := 70) w1.heap.size w1.heap.size _ _ hST.bld (by simp [hH0])).mono ?_)
      rintro e wz ⟨rfl, hbz⟩
      go_wp2
      go_ret
      refine ⟨?_, (hbw.trans (hST.bel.mono (Nat.le_of_lt hs1))).trans (hbz.mono (Nat.le_of_lt hs1))⟩
      congr 2
      unfold textS
      rw [hHe]
      simp [bB]
end Go.Proofs.YtjmnoaoeediodaaDoor.AL

/- script.Text, in the world: every mode. -/
set_option linter.all false
namespace Go.Proofs.YtjmnoaoeediodaaDoor.AL
open Go Go.Proofs Go.RowKit
theorem xz0 {x : Script} (hl : x.answers.length ≤ 1000) (h64 : ∀ a ∈ x.answers, A64 a) (av : Value) (w : World) (hg : GW w) (hA : AAt w w.heap.size x.answers av) :
    Calls Tryd.prog 21 #[.agg #[.int .i64 x.mode, av, .bool x.default]] w fun e w' => e = .returned (.string (bB (textS x))) ∧ Below w.heap.size w w' := by
  have hmc : x.mode = 0 ∨ x.mode = 1 ∨ x.mode = 2 ∨ x.mode < 0 ∨ 3 ≤ x.mode := by omega
  rcases hmc with hm | hm | hm | hm | hm
  · exact x6y hm hl h64 av w hg hA
  · exact xc0 hm hl h64 av w hg hA
  · exact xey hm hl h64 av w hg hA
  · exact xbz hm hl h64 av w hg hA
  · exact x4z hm hl h64 av w hg hA
end Go.Proofs.YtjmnoaoeediodaaDoor.AL

/- A range over a function whose iterator keeps its state in one captured cell. -/
set_option linter.all false
namespace Go.Proofs.YtjmnoaoeediodaaDoor.AL
open Go Go.Proofs Go.RowKit
def Sm (c : Addr) (A B : World) : Prop := B.cell? c = A.cell? c ∧ B.frozen? c = A.frozen? c
theorem Sm.refl (c : Addr) (A : World) : Sm c A A := ⟨rfl, rfl⟩
theorem Sm.trans {c : Addr} {A B C : World} (h : Sm c A B) (k : Sm c B C) : Sm c A C := ⟨k.1.trans h.1, k.2.trans h.2⟩
theorem Sm.block {c : Addr} {A B : World} (h : B.heap[c.block]? = A.heap[c.block]?) : Sm c A B := by
  constructor
  · unfold World.cell?; rw [h]
  · unfold World.frozen?; rw [h]
theorem Sm.put {c : Addr} {A : World} {l : Nat} (o : Obj) (h : c.block ≠ l) : Sm c A (A.putObj l o) := Sm.block (World.putObj_heap_other h)
theorem Sm.below {c : Addr} {A B : World} {n : Nat} (h : Below n A B) (hc : c.block < n) : Sm c A B := Sm.block (h.block _ hc)
variable {F : Fence} {n : Nat} {P : Program}
def postJ (c : Addr) (J Jx : World → Prop) (W : World) : Exit → Act → World → Prop
  | .normal, _, W' => KeepsOthers W W' ∧ Sm c W W' ∧ J W'
  | .ret, _, W' => KeepsOthers W W' ∧ Jx W'
  | _, _, _ => False
def IterJ {σ : Type} (F : Fence) (n : Nat) (P : Program) (g : Nat) (lb : Array Value) (c : Addr) (step : σ → Array Value → σ → Prop) (fin : σ → Prop) (val : σ → Value) (s0 : σ) : Prop :=
  ∀ (l : Nat) (J : σ → World → Prop) (Jx : World → Prop) (W : World),
    (∀ s W v, J s W → J s (W.setCell c v)) → (∀ s W, J s W → J s W.drew) →
    (∀ s x s' W1, step s x s' → J s W1 → W1.cell? c = some (val s') → YieldAt F (n - 1) P l x W1 fun e W' =>
      (e = .returned (.bool true) ∧ J s' W' ∧ Sm c W1 W') ∨ (e = .returned (.bool false) ∧ Jx W')) →
    J s0 W → W.cell? c = some (val s0) → W.frozen? c = false →
    CallsIn F n P g (#[.func (.yield l) #[] #[]] ++ lb) W fun e W' => (∃ v, e = .returned v) ∧ ((∃ s, fin s ∧ J s W') ∨ Jx W')
theorem xzt {σ : Type} {g : Operand} {ps : Array Tmp} {assign body : Code} {Q : Exit → Act → World → Prop} {a : Act} {w : World}
    (hro : F.round = none) (h1 : 1 ≤ n) {gf : Nat} {lb : Array Value} (hg : a.eval g = .func (.func gf) #[] lb) (hFg : F.fn gf) (eg : ∀ args w, (callFunc gf args).run P w = .ok (.enter gf args) w)
    {c : Addr} {step : σ → Array Value → σ → Prop} {fin : σ → Prop} {val : σ → Value} {s0 : σ} (hit : IterJ F (n - 1) P gf lb c step fin val s0)
    (hcb : c.block < w.heap.size) (hc0 : w.cell? c = some (val s0)) (hf0 : w.frozen? c = false) (hps : ∀ s x s', step s x s' → x.size = ps.size)
    (J : σ → World → Prop) (Jx : World → Prop) (hJ : OwnFrom w.heap.size J) (hJx : OwnFrom w.heap.size (fun (_ : Unit) => Jx)) (hJs : ∀ s W v, J s W → J s (W.setCell c v)) (hJd : ∀ s W, J s W → J s W.drew) (h0 : J s0 w) (a₁ : Array Value → Act)
    (hassign : ∀ (l : Nat) (s s' : σ) (x : Array Value) (W : World) (K : Act → World → Prop), step s x s' → K (a₁ x) W →
      assign.wpIn (F.inRound l) (n - 1 - 1) P (Exit.then K (fun _ _ _ => False)) { tmps := (ps.zip x).foldl (fun t (p, v) => t.setIfInBounds p v) a.tmps, defers := [] } W)
    (hbody : ∀ (l : Nat) (s : σ) (x : Array Value) (s' : σ) (W : World), step s x s' → J s W → W.cell? c = some (val s') → body.wpIn (F.inRound l) (n - 1 - 1) P (postJ c (J s') Jx W) (a₁ x) W)
    (hdone : ∀ (D : Nat) (s : σ) (W : World), w.heap.size ≤ D → fin s → J s W → W.heap[D]? = some (.deferred (some [])) → Q .normal { a with defers := { target := .collected D, args := #[] } :: a.defers } W)
    (hstop : ∀ (D : Nat) (W : World), w.heap.size ≤ D → Jx W → W.heap[D]? = some (.deferred (some [])) → Code.ret.wpIn F n P Q { a with defers := { target := .collected D, args := #[] } :: a.defers } W) :
    (Code.rangeFunc g ps assign body).wpIn F n P Q a w := by
  refine wpIn_rangeFunc fun fn hfn => ?_
  rw [hro]
  let L : LoopState → Option Code → Obj := fun st pe => .loop { state := st, pending := pe, fn, tmps := a.tmps, params := ps, assign, body, defers := w.heap.size }
  generalize hW1 : (w.alloc (.deferred (some []))).alloc (L .ready none) = W1
  have hb1 : Below w.heap.size w W1 := by
    rw [← hW1]; exact ((Below.refl _ w).alloc (Nat.le_refl _) _).alloc (by simp) _
  have hD1 : W1.heap[w.heap.size]? = some (.deferred (some [])) := by
    rw [← hW1]; exact (Below.heap_alloc _ _ _ (by simp)).trans (World.alloc_heap_new w _)
  have hl1 : W1.heap[w.heap.size + 1]? = some (L .ready none) := by
    rw [← hW1]
    have := World.alloc_heap_new (w.alloc (.deferred (some []))) (L .ready none)
    rwa [World.size_alloc] at this
  refine ⟨w.heap.size + 1, [{ target := .collected w.heap.size, args := #[] }], W1, { target := .fn (.func gf) lb, args := #[.func (.yield (w.heap.size + 1)) #[] #[]] }, W1, gf,
    #[.func (.yield (w.heap.size + 1)) #[] #[]] ++ lb, W1, ?_, ?_, ?_, ?_, fun _ => h1, ?_⟩
  · rw [← hW1]; exact run_enterLoop_outer _ _ _ _ _
  · simp only [resolve, hg]
    simp [go_sem]
  · intro f' hf'
    simp [Target.leads] at hf'
    subst hf'
    exact hFg
  · simp [invoke, go_sem, eg]
  have hne1 : c.block ≠ w.heap.size + 1 := by omega
  have hset : ∀ (W : World) (v : Value) (k : Nat), w.heap.size ≤ k → (W.setCell c v).heap[k]? = W.heap[k]? := fun W v k hk => Below.heap_setCell W c v k (by omega)
  refine (hit (w.heap.size + 1) (fun s W => J s W ∧ W.heap[w.heap.size + 1]? = some (L .ready none) ∧ W.heap[w.heap.size]? = some (.deferred (some [])))
    (fun W => Jx W ∧ W.heap[w.heap.size + 1]? = some (L .done (some .ret)) ∧ W.heap[w.heap.size]? = some (.deferred (some []))) W1
    (fun s W v h => ⟨hJs s W v h.1, (hset W v _ (by omega)).trans h.2.1, (hset W v _ (by omega)).trans h.2.2⟩) (fun s W h => ⟨hJd s W h.1, h.2.1, h.2.2⟩) ?_ ⟨by rw [← hW1]; exact hJ.alloc _ (hJ.alloc _ h0), hl1, hD1⟩
    ((Sm.below hb1 hcb).1.trans hc0) ((Sm.below hb1 hcb).2.trans hf0)).mono ?_
  · rintro s x s' W hst ⟨hj, hl, hD⟩ hcv
    have hy := run_yield (P := P) (args := x) hl (hps s x s' hst)
    have hlt : w.heap.size + 1 < W.heap.size := (Array.getElem?_eq_some_iff.1 hl).1
    refine ⟨fn, _, assign, body, hy, roundIn_of_wpIn hfn (hassign _ s s' x W _ hst ⟨_, run_beginRound hl rfl, ?_⟩)⟩
    generalize hV : W.putObj (w.heap.size + 1) (L .busy none) = V
    have hlV : V.heap[w.heap.size + 1]? = some (L .busy none) := by rw [← hV]; exact World.putObj_heap_same hlt
    have hDV : V.heap[w.heap.size]? = some (.deferred (some [])) := by rw [← hV]; exact (World.putObj_heap_other (by omega)).trans hD
    have hjV : J s V := by rw [← hV]; exact hJ.putObj _ hj (by omega) hl rfl
    have hsV : Sm c W V := by rw [← hV]; exact Sm.put _ hne1
    refine wpIn_mono (hbody _ s x s' V hst hjV (hsV.1.trans hcv)) ?_
    have key : ∀ (jump : Option Code) (U : World), KeepsOthers V U →
        (Instr.endRound (w.heap.size + 1) jump).run P U = .ok (.bool jump.isNone) (U.putObj (w.heap.size + 1) (L (if jump.isNone then .ready else .done) jump)) ∧ U.heap[w.heap.size + 1]? = some (L .busy none) ∧
        (U.putObj (w.heap.size + 1) (L (if jump.isNone then .ready else .done) jump)).heap[w.heap.size + 1]? = some (L (if jump.isNone then .ready else .done) jump) ∧
        (U.putObj (w.heap.size + 1) (L (if jump.isNone then .ready else .done) jump)).heap[w.heap.size]? = some (.deferred (some [])) := fun jump U hk => by
      have hlU := hk.same _ _ hlV rfl
      exact ⟨run_endRound (P := P) jump hlU, hlU, World.putObj_heap_same (Array.getElem?_eq_some_iff.1 hlU).1, (World.putObj_heap_other (by omega)).trans (hk.same _ _ hDV rfl)⟩
    rintro e a3 U hp
    cases e with
    | normal =>
      obtain ⟨hk, hs, hj'⟩ := hp
      obtain ⟨r1, r2, r3, r4⟩ := key none U hk
      exact ⟨_, _, r1, .inl ⟨rfl, ⟨hJ.putObj _ hj' (by omega) r2 rfl, r3, r4⟩, (hsV.trans hs).trans (Sm.put _ hne1)⟩⟩
    | ret =>
      obtain ⟨hk, hj'⟩ := hp
      obtain ⟨r1, r2, r3, r4⟩ := key (some .ret) U hk
      exact ⟨_, _, r1, .inr ⟨rfl, hJx.putObj (s := ()) _ hj' (by omega) r2 rfl, r3, r4⟩⟩
    | exit id => exact hp.elim
    | goto t => exact hp.elim
    | panic ch => exact hp.elim
    | outgrown => exact hp.elim
  · rintro e U ⟨⟨v, rfl⟩, ⟨s, hfin, hj, hl, hD⟩ | ⟨hj, hl, hD⟩⟩
    · exact ⟨none, _, run_endLoop (P := P) hl (by simp), hdone _ s _ (Nat.le_refl _) hfin (hJ.putObj _ hj (by omega) hl rfl) ((World.putObj_heap_other (by omega)).trans hD)⟩
    · exact ⟨some .ret, _, run_endLoop (P := P) hl (by simp), hstop _ _ (Nat.le_refl _) (hJx.putObj (s := ()) _ hj (by omega) hl rfl) ((World.putObj_heap_other (by omega)).trans hD)⟩
end Go.Proofs.YtjmnoaoeediodaaDoor.AL

