/- A law of the given program is proved: part 37 of 50. -/
import Derived.Test.YtefdlpandfhcgaaGreatDoorChecked
import Derived.Lib.Repeat
import Derived.Test.YtefdlpandfhcgaaGreatDoorA36
set_option linter.all false
/- AL: the functions of this seat's translation in AL's short form, written by gencode.py out of Lean's own print of them; each with the fact that it is so. -/
set_option maxRecDepth 100000
namespace Go.Proofs.YtefdlpandfhcgaaGreatDoor.AL
open Go Go.Proofs
def xfn : AC := (.seq (.region [zo (.assign (zi (0))) 4]) (.seq (.seq (.region [zo (.assign (zi (0))) 5]) (.block 0 (.loop (.seq (.seq (.region [zo (.move (zt 5)) 6, zo (.move (zt 0)) 7, zo (.call (zc (.builtin .len) #[zt 7] #[82])) 8, zo (.binOp .lss 3 (zt 6) (zt 8) 3) 9]) (.cond (zt 9) .skip (.exit 0))) (.seq (.block 1 (.seq (.region [zo (.move (zt 0)) 12, zo (.move (zt 5)) 13, zo (.indexAddr 82 (zt 12) (zt 13)) 14, zo (.fieldAddr 85 (zt 14) 0) 15, zo (.load 3 (zt 15)) 16, zo (.move (zt 1)) 17, zo (.binOp .eql 3 (zt 16) (zt 17) 3) 18]) (.cond (zt 18) (.seq (.region [zo (.move (zt 5)) 19, zo (.assign (zt 19)) 4]) .ret) .skip))) (.region [zo (.move (zt 5)) 10, zo (.binOp .add 3 (zt 10) (zi (1)) 3) 11, zo (.assign (zt 11)) 5])))))) (.seq (.region [zo (.assign (zi ((-1)))) 4]) .ret)))
theorem xzt : FnC Tryz.prog 63 20 [.tmp 4] xfn := ⟨by kernel_rfl, Tryz.f63, _, Tryz.func63, rfl, rfl, rfl, by kernel_rfl⟩
def x4l : AC := (.seq (.region [zo (.assign (.const (Value.bool false))) 2]) (.seq (.region [zo (.move (zt 0)) 3, zo (.binOp .geq 5 (zt 3) (.const (Value.int .u8 97)) 5) 4, zo (.move (zt 4)) 5, ⟨.move (zt 0), some 6, (some (5, true))⟩, ⟨.binOp .leq 5 (zt 6) (.const (Value.int .u8 122)) 5, some 7, (some (5, true))⟩, zo (.pick (zt 5) (zt 7) (.const (Value.bool false))) 8, zo (.move (zt 8)) 9, ⟨.move (zt 0), some 10, (some (9, false))⟩, ⟨.binOp .geq 5 (zt 10) (.const (Value.int .u8 48)) 5, some 11, (some (9, false))⟩, ⟨.move (zt 11), some 12, (some (9, false))⟩, ⟨.move (zt 0), some 13, (some (12, true))⟩, ⟨.binOp .leq 5 (zt 13) (.const (Value.int .u8 57)) 5, some 14, (some (12, true))⟩, ⟨.pick (zt 12) (zt 14) (.const (Value.bool false)), some 15, (some (9, false))⟩, zo (.pick (zt 9) (.const (Value.bool true)) (zt 15)) 16, zo (.move (zt 16)) 17, ⟨.move (zt 0), some 18, (some (17, false))⟩, ⟨.binOp .eql 5 (zt 18) (.const (Value.int .u8 46)) 5, some 19, (some (17, false))⟩, zo (.pick (zt 17) (.const (Value.bool true)) (zt 19)) 20, zo (.move (zt 20)) 21, ⟨.move (zt 0), some 22, (some (21, false))⟩, ⟨.binOp .eql 5 (zt 22) (.const (Value.int .u8 95)) 5, some 23, (some (21, false))⟩, zo (.pick (zt 21) (.const (Value.bool true)) (zt 23)) 24, zo (.move (zt 24)) 25, ⟨.move (zt 0), some 26, (some (25, false))⟩, ⟨.binOp .eql 5 (zt 26) (.const (Value.int .u8 45)) 5, some 27, (some (25, false))⟩, zo (.pick (zt 25) (.const (Value.bool true)) (zt 27)) 28, zo (.assign (zt 28)) 2]) .ret))
theorem xns : FnC Tryz.prog 64 29 [.tmp 2] x4l := ⟨by kernel_rfl, Tryz.f64, _, Tryz.func64, rfl, rfl, rfl, by kernel_rfl⟩
def x3f : AC := (.scope (.seq (.label 0) (.seq (.region [zo (.load 89 (zt 1)) 7, zo (.nilCheck (zt 7)) 8, zo (.fieldAddr 110 (zt 8) 1) 9, zo (.load 82 (zt 9)) 10, zo (.call (zc (.builtin .len) #[zt 10] #[82])) 11, zo (.move (zi (0))) 12]) (.block 0 (.loop (.seq (.region [zo (.binOp .lss 3 (zt 12) (zt 11) 3) 13]) (.seq (.cond (zt 13) .skip (.exit 0)) (.seq (.block 1 (.seq (.region [zo (.indexAddr 82 (zt 10) (zt 12)) 14, zo (.load 85 (zt 14)) 15, zo (.alloc 85) 4, ⟨.store 85 (zt 4) (zt 15), none, none⟩]) (.seq (.region [zo (.load 89 (zt 1)) 16, zo (.fieldAddr 85 (zt 4) 0) 17, zo (.load 3 (zt 17)) 18, zo (.call (zc (.value (.func 55)) #[zt 16, zt 18] #[89, 3])) 19, zo (.field 52 (zt 19) 5) 20, zo (.call (zc (.builtin .len) #[zt 20] #[45])) 21, zo (.move (zi (0))) 22]) (.block 2 (.loop (.seq (.region [zo (.binOp .lss 3 (zt 22) (zt 21) 3) 23]) (.seq (.cond (zt 23) .skip (.exit 2)) (.seq (.block 3 (.seq (.region [zo (.indexAddr 45 (zt 20) (zt 22)) 24, zo (.load 31 (zt 24)) 25, zo (.alloc 31) 6, ⟨.store 31 (zt 6) (zt 25), none, none⟩]) (.seq (.region [zo (.move (zt 0)) 26, zo (.load 31 (zt 6)) 27, zo (.call (zc (.value (zt 26)) #[zt 27] #[31])) 28, zo (.unOp .not 4 (zt 28)) 29]) (.cond (zt 29) (.exit 0) .skip)))) (.region [zo (.binOp .add 3 (zt 22) (zi (1)) 3) 30, zo (.move (zt 30)) 22]))))))))) (.region [zo (.binOp .add 3 (zt 12) (zi (1)) 3) 31, zo (.move (zt 31)) 12])))))))))
theorem x6l : FnC Tryz.prog 65 32 [] x3f := ⟨by kernel_rfl, Tryz.f65, _, Tryz.func65, rfl, rfl, rfl, by kernel_rfl⟩
end Go.Proofs.YtefdlpandfhcgaaGreatDoor.AL

/- Models of functions, and that the functions are as their models: written by gen.py. -/
set_option linter.all false
set_option maxRecDepth 100000
namespace Go.Proofs.YtefdlpandfhcgaaGreatDoor.AL
open Go Go.Proofs
def xmb (a0 : Origin) : (ByteArray × Int) → Option (St (ByteArray × Int) ((ByteArray) ⊕ (ByteArray × Bool)))
 | (v6, v7) => if v7 < 3 then if v7 = 0 then if a0.layer < 1 then some (.out (.inr (xq, false)))
 else if 15 < a0.layer then some (.out (.inr (xq, false)))
 else (xac a0.layer 16).bind fun v22 => (xqc (ByteArray.mk #[48]) (wr (1 - (v22.size : Int)))).bind fun v24 => (ck (v24.size + v22.size ≤ 9223372036854775807)).bind fun _ => (ck (v6.size + (v24 ++ v22).size ≤ 9223372036854775807)).bind fun _ => some (.nx ((v6 ++ (v24 ++ v22)), (wr (v7 + 1))))
 else if v7 = 1 then if a0.ino < 0 then some (.out (.inr (xq, false)))
 else if 65535 < a0.ino then some (.out (.inr (xq, false)))
 else (xac a0.ino 16).bind fun v40 => (xqc (ByteArray.mk #[48]) (wr (4 - (v40.size : Int)))).bind fun v42 => (ck (v42.size + v40.size ≤ 9223372036854775807)).bind fun _ => (ck (v6.size + (v42 ++ v40).size ≤ 9223372036854775807)).bind fun _ => some (.nx ((v6 ++ (v42 ++ v40)), (wr (v7 + 1))))
 else (ck (v7 = 2)).bind fun _ => if a0.gen < 0 then some (.out (.inr (xq, false)))
 else if 268435455 < a0.gen then some (.out (.inr (xq, false)))
 else (xac a0.gen 16).bind fun v58 => (xqc (ByteArray.mk #[48]) (wr (7 - (v58.size : Int)))).bind fun v60 => (ck (v60.size + v58.size ≤ 9223372036854775807)).bind fun _ => (ck (v6.size + (v60 ++ v58).size ≤ 9223372036854775807)).bind fun _ => some (.nx ((v6 ++ (v60 ++ v58)), (wr (v7 + 1))))
 else some (.out (.inl v6))
def xdg (a0 : Origin) : Option (ByteArray × Bool) := (iter (xmb a0) big (xq, 0)).bind fun o => (match o with
 | (.inl v9) => some (v9, true)
 | (.inr r) => some r)
def xab := aI (aI (aI (@EV) (@R3)) (aI (@R9) (@R48))) (aI (aI (@R93) (@R94)) (aI (@DOrigin) (aI (@x0x) (@xwo))))
set_option maxHeartbeats 2000000 in
theorem xvs (a0 : Origin) (r : ByteArray × Bool) (hm0 : xdg a0 = some r) : Ok Tryz.prog 49 [xm a0] (.tup [str r.1, bool r.2]) := by
 unfold xdg at hm0
 refine okG x5t ?_
 unfold x2m
 simp only [xab, ↓EVd, isCall, sevalprocAttr]
 refine xpg (acallF xgk (by simp) ?_) rfl
 unfold xvi
 have e1 : (.agg [int a0.layer, int 1, int 1, int 15] : AV) = x2b (⟨a0.layer, 1, 1, 15⟩ : Ar4_Int) := _root_.id rfl
 have e2 : (.agg [int a0.ino, int 4, int 0, int 65535] : AV) = x2b (⟨a0.ino, 4, 0, 65535⟩ : Ar4_Int) := _root_.id rfl
 have e3 : (.agg [int a0.gen, int 7, int 0, int 268435455] : AV) = x2b (⟨a0.gen, 7, 0, 268435455⟩ : Ar4_Int) := _root_.id rfl
 have e4 : (.agg [int a0.layer, int 1, int 1, int 15, int a0.ino, int 4, int 0, int 65535, int a0.gen, int 7, int 0, int 268435455] : AV) = xg (⟨(⟨a0.layer, 1, 1, 15⟩ : Ar4_Int), (⟨a0.ino, 4, 0, 65535⟩ : Ar4_Int), (⟨a0.gen, 7, 0, 268435455⟩ : Ar4_Int)⟩ : Ar3_Ar4_Int) := _root_.id rfl
 obtain ⟨o0, ho0, hm0⟩ := bsE hm0
 simp only [e1, e2, e3, e4, xab, ↓EVd, isCall, sevalprocAttr]
 refine cwp_cx 0 (fun s => ∃ v9 : ByteArray, (s.T 4 = str v9) ∧ (.inl v9) = o0) ?_ fun J0_0 hJ0_0 => ?_
 · rintro T0 H0 x8 ⟨v9, kk0_0, rfl⟩
   dsimp only [Lq, Nq] at kk0_0
   try dsimp only at hm0
   obtain rfl := Option.some.inj hm0
   simp only [kk0_0, e1, e2, e3, e4, xab, ↓EVd, isCall, sevalprocAttr]
   all_goals first | done | rfl | exact xc (by simp only [CLO]) | exact xn (by simp only [CLO]) (Sub.tup (Subs.cons (Sub.refl _) (Subs.cons (Sub.refl _) (Subs.nil))))
 refine cwp_lp ho0 (fun (v6, v7) s => s.T 4 = str v6 ∧ s.T 9 = xg (⟨(⟨a0.layer, 1, 1, 15⟩ : Ar4_Int), (⟨a0.ino, 4, 0, 65535⟩ : Ar4_Int), (⟨a0.gen, 7, 0, 268435455⟩ : Ar4_Int)⟩ : Ar3_Ar4_Int) ∧ s.T 10 = int v7) ?_ ?_
 · refine TI.here ⟨?_, ?_, ?_⟩
   all_goals try simp only [e1, e2, e3, e4, xab, ↓EVd, isCall, sevalprocAttr]
   all_goals first | omega | exact lq (by omega) | exact nq (by omega) | rfl | (congr 1; omega)
 rintro I0 ⟨v6, v7⟩ T0 H0 x5 st0 kk0 hm1 hI0 hO0
 dsimp only [Lq, Nq] at kk0
 simp only [xmb] at hm1
 rcases iteE hm1 with ⟨e11, hm1⟩ | ⟨e11, hm1⟩
 · rcases iteE hm1 with ⟨e13, hm1⟩ | ⟨e13, hm1⟩
   · have e14 : xh Tryz.prog 94 (xg (⟨(⟨a0.layer, 1, 1, 15⟩ : Ar4_Int), (⟨a0.ino, 4, 0, 65535⟩ : Ar4_Int), (⟨a0.gen, 7, 0, 268435455⟩ : Ar4_Int)⟩ : Ar3_Ar4_Int)) (int v7) = some (.agg [int a0.layer, int 1, int 1, int 15]) := (show xh Tryz.prog 94 (xg (⟨(⟨a0.layer, 1, 1, 15⟩ : Ar4_Int), (⟨a0.ino, 4, 0, 65535⟩ : Ar4_Int), (⟨a0.gen, 7, 0, 268435455⟩ : Ar4_Int)⟩ : Ar3_Ar4_Int)) (int v7) = some (.agg [int a0.layer, int 1, int 1, int 15]) from idxE xtb x5b 0 (by first | rfl | (have h := of_eq_true e13; omega) | (have h := e13; omega)) (by decide) rfl)
     have e15 : xh Tryz.prog 94 (.agg [int a0.layer, int 1, int 1, int 15, int a0.ino, int 4, int 0, int 65535, int a0.gen, int 7, int 0, int 268435455]) (int v7) = some (.agg [int a0.layer, int 1, int 1, int 15]) := (show xh Tryz.prog 94 (.agg [int a0.layer, int 1, int 1, int 15, int a0.ino, int 4, int 0, int 65535, int a0.gen, int 7, int 0, int 268435455]) (int v7) = some (.agg [int a0.layer, int 1, int 1, int 15]) from idxE xtb x5b 0 (by first | rfl | (have h := of_eq_true e13; omega) | (have h := e13; omega)) (by decide) rfl)
     have e16 : xh Tryz.prog 94 (xg (⟨(⟨a0.layer, 1, 1, 15⟩ : Ar4_Int), (⟨a0.ino, 4, 0, 65535⟩ : Ar4_Int), (⟨a0.gen, 7, 0, 268435455⟩ : Ar4_Int)⟩ : Ar3_Ar4_Int)) (int 0) = some (.agg [int a0.layer, int 1, int 1, int 15]) := (show xh Tryz.prog 94 (xg (⟨(⟨a0.layer, 1, 1, 15⟩ : Ar4_Int), (⟨a0.ino, 4, 0, 65535⟩ : Ar4_Int), (⟨a0.gen, 7, 0, 268435455⟩ : Ar4_Int)⟩ : Ar3_Ar4_Int)) (int 0) = some (.agg [int a0.layer, int 1, int 1, int 15]) from idxE xtb x5b 0 (by first | rfl | (have h := of_eq_true e13; omega) | (have h := e13; omega)) (by decide) rfl)
     have e17 : xh Tryz.prog 94 (.agg [int a0.layer, int 1, int 1, int 15, int a0.ino, int 4, int 0, int 65535, int a0.gen, int 7, int 0, int 268435455]) (int 0) = some (.agg [int a0.layer, int 1, int 1, int 15]) := (show xh Tryz.prog 94 (.agg [int a0.layer, int 1, int 1, int 15, int a0.ino, int 4, int 0, int 65535, int a0.gen, int 7, int 0, int 268435455]) (int 0) = some (.agg [int a0.layer, int 1, int 1, int 15]) from idxE xtb x5b 0 (by first | rfl | (have h := of_eq_true e13; omega) | (have h := e13; omega)) (by decide) rfl)
     have g66 := And.intro (And.intro (And.intro ((e1)) ((e2))) (And.intro ((e3)) (And.intro ((e4)) ((e11))))) (And.intro (And.intro ((e13)) ((e14))) (And.intro ((e15)) (And.intro ((e16)) ((e17)))))
     rcases iteE hm1 with ⟨e19, hm1⟩ | ⟨e19, hm1⟩
     · obtain rfl := Option.some.inj hm1
       obtain rfl := hO0 _ rfl
       try dsimp only at hm0
       obtain rfl := Option.some.inj hm0
       simp only [kk0, g66, e19, xab, ↓EVd, isCall, sevalprocAttr]
       all_goals first | done | rfl | exact xc (by simp only [CLO]) | exact xn (by simp only [CLO]) (Sub.tup (Subs.cons (Sub.refl _) (Subs.cons (Sub.refl _) (Subs.nil))))
     rcases iteE hm1 with ⟨e21, hm1⟩ | ⟨e21, hm1⟩
     · obtain rfl := Option.some.inj hm1
       obtain rfl := hO0 _ rfl
       try dsimp only at hm0
       obtain rfl := Option.some.inj hm0
       simp only [kk0, g66, e19, e21, xab, ↓EVd, isCall, sevalprocAttr]
       all_goals first | done | rfl | exact xc (by simp only [CLO]) | exact xn (by simp only [CLO]) (Sub.tup (Subs.cons (Sub.refl _) (Subs.cons (Sub.refl _) (Subs.nil))))
     obtain ⟨v22, h23, hm1⟩ := bsE hm1
     simp only [kk0, g66, e19, e21, xab, ↓EVd, isCall, sevalprocAttr]
     refine qc (x5f _ _ _ h23) rfl ?_
     obtain ⟨v24, h25, hm1⟩ := bsE hm1
     simp only [kk0, g66, e19, e21, xab, ↓EVd, isCall, sevalprocAttr]
     refine qc (xrh _ _ _ h25) rfl ?_
     obtain ⟨e27, hm1⟩ := ckE hm1
     obtain ⟨e29, hm1⟩ := ckE hm1
     obtain rfl := Option.some.inj hm1
     simp only [kk0, g66, e19, e21, e27, e29, xab, ↓EVd, isCall, sevalprocAttr]
     refine TI.here (hI0 _ rfl _ ⟨?_, ?_, ?_⟩)
     all_goals try simp only [kk0, g66, e19, e21, e27, e29, xab, ↓EVd, isCall, sevalprocAttr]
     all_goals first | omega | exact lq (by omega) | exact nq (by omega) | rfl | (congr 1; omega)
   rcases iteE hm1 with ⟨e31, hm1⟩ | ⟨e31, hm1⟩
   · have e32 : xh Tryz.prog 94 (xg (⟨(⟨a0.layer, 1, 1, 15⟩ : Ar4_Int), (⟨a0.ino, 4, 0, 65535⟩ : Ar4_Int), (⟨a0.gen, 7, 0, 268435455⟩ : Ar4_Int)⟩ : Ar3_Ar4_Int)) (int v7) = some (.agg [int a0.ino, int 4, int 0, int 65535]) := (show xh Tryz.prog 94 (xg (⟨(⟨a0.layer, 1, 1, 15⟩ : Ar4_Int), (⟨a0.ino, 4, 0, 65535⟩ : Ar4_Int), (⟨a0.gen, 7, 0, 268435455⟩ : Ar4_Int)⟩ : Ar3_Ar4_Int)) (int v7) = some (.agg [int a0.ino, int 4, int 0, int 65535]) from idxE xtb x5b 1 (by first | rfl | (have h := of_eq_true e31; omega) | (have h := e31; omega)) (by decide) rfl)
     have e33 : xh Tryz.prog 94 (.agg [int a0.layer, int 1, int 1, int 15, int a0.ino, int 4, int 0, int 65535, int a0.gen, int 7, int 0, int 268435455]) (int v7) = some (.agg [int a0.ino, int 4, int 0, int 65535]) := (show xh Tryz.prog 94 (.agg [int a0.layer, int 1, int 1, int 15, int a0.ino, int 4, int 0, int 65535, int a0.gen, int 7, int 0, int 268435455]) (int v7) = some (.agg [int a0.ino, int 4, int 0, int 65535]) from idxE xtb x5b 1 (by first | rfl | (have h := of_eq_true e31; omega) | (have h := e31; omega)) (by decide) rfl)
     have e34 : xh Tryz.prog 94 (xg (⟨(⟨a0.layer, 1, 1, 15⟩ : Ar4_Int), (⟨a0.ino, 4, 0, 65535⟩ : Ar4_Int), (⟨a0.gen, 7, 0, 268435455⟩ : Ar4_Int)⟩ : Ar3_Ar4_Int)) (int 1) = some (.agg [int a0.ino, int 4, int 0, int 65535]) := (show xh Tryz.prog 94 (xg (⟨(⟨a0.layer, 1, 1, 15⟩ : Ar4_Int), (⟨a0.ino, 4, 0, 65535⟩ : Ar4_Int), (⟨a0.gen, 7, 0, 268435455⟩ : Ar4_Int)⟩ : Ar3_Ar4_Int)) (int 1) = some (.agg [int a0.ino, int 4, int 0, int 65535]) from idxE xtb x5b 1 (by first | rfl | (have h := of_eq_true e31; omega) | (have h := e31; omega)) (by decide) rfl)
     have e35 : xh Tryz.prog 94 (.agg [int a0.layer, int 1, int 1, int 15, int a0.ino, int 4, int 0, int 65535, int a0.gen, int 7, int 0, int 268435455]) (int 1) = some (.agg [int a0.ino, int 4, int 0, int 65535]) := (show xh Tryz.prog 94 (.agg [int a0.layer, int 1, int 1, int 15, int a0.ino, int 4, int 0, int 65535, int a0.gen, int 7, int 0, int 268435455]) (int 1) = some (.agg [int a0.ino, int 4, int 0, int 65535]) from idxE xtb x5b 1 (by first | rfl | (have h := of_eq_true e31; omega) | (have h := e31; omega)) (by decide) rfl)
     have g67 := And.intro (And.intro (And.intro ((e1)) ((e2))) (And.intro ((e3)) (And.intro ((e4)) ((e11))))) (And.intro (And.intro ((e13)) (And.intro ((e31)) ((e32)))) (And.intro ((e33)) (And.intro ((e34)) ((e35)))))
     rcases iteE hm1 with ⟨e37, hm1⟩ | ⟨e37, hm1⟩
     · obtain rfl := Option.some.inj hm1
       obtain rfl := hO0 _ rfl
       try dsimp only at hm0
       obtain rfl := Option.some.inj hm0
       simp only [kk0, g67, e37, xab, ↓EVd, isCall, sevalprocAttr]
       all_goals first | done | rfl | exact xc (by simp only [CLO]) | exact xn (by simp only [CLO]) (Sub.tup (Subs.cons (Sub.refl _) (Subs.cons (Sub.refl _) (Subs.nil))))
     rcases iteE hm1 with ⟨e39, hm1⟩ | ⟨e39, hm1⟩
     · obtain rfl := Option.some.inj hm1
       obtain rfl := hO0 _ rfl
       try dsimp only at hm0
       obtain rfl := Option.some.inj hm0
       simp only [kk0, g67, e37, e39, xab, ↓EVd, isCall, sevalprocAttr]
       all_goals first | done | rfl | exact xc (by simp only [CLO]) | exact xn (by simp only [CLO]) (Sub.tup (Subs.cons (Sub.refl _) (Subs.cons (Sub.refl _) (Subs.nil))))
     obtain ⟨v40, h41, hm1⟩ := bsE hm1
     simp only [kk0, g67, e37, e39, xab, ↓EVd, isCall, sevalprocAttr]
     refine qc (x5f _ _ _ h41) rfl ?_
     obtain ⟨v42, h43, hm1⟩ := bsE hm1
     simp only [kk0, g67, e37, e39, xab, ↓EVd, isCall, sevalprocAttr]
     refine qc (xrh _ _ _ h43) rfl ?_
     obtain ⟨e45, hm1⟩ := ckE hm1
     obtain ⟨e47, hm1⟩ := ckE hm1
     obtain rfl := Option.some.inj hm1
     simp only [kk0, g67, e37, e39, e45, e47, xab, ↓EVd, isCall, sevalprocAttr]
     refine TI.here (hI0 _ rfl _ ⟨?_, ?_, ?_⟩)
     all_goals try simp only [kk0, g67, e37, e39, e45, e47, xab, ↓EVd, isCall, sevalprocAttr]
     all_goals first | omega | exact lq (by omega) | exact nq (by omega) | rfl | (congr 1; omega)
   obtain ⟨e49, hm1⟩ := ckE hm1
   have e50 : xh Tryz.prog 94 (xg (⟨(⟨a0.layer, 1, 1, 15⟩ : Ar4_Int), (⟨a0.ino, 4, 0, 65535⟩ : Ar4_Int), (⟨a0.gen, 7, 0, 268435455⟩ : Ar4_Int)⟩ : Ar3_Ar4_Int)) (int v7) = some (.agg [int a0.gen, int 7, int 0, int 268435455]) := (show xh Tryz.prog 94 (xg (⟨(⟨a0.layer, 1, 1, 15⟩ : Ar4_Int), (⟨a0.ino, 4, 0, 65535⟩ : Ar4_Int), (⟨a0.gen, 7, 0, 268435455⟩ : Ar4_Int)⟩ : Ar3_Ar4_Int)) (int v7) = some (.agg [int a0.gen, int 7, int 0, int 268435455]) from idxE xtb x5b 2 (by first | rfl | (have h := of_eq_true e49; omega) | (have h := e49; omega)) (by decide) rfl)
   have e51 : xh Tryz.prog 94 (.agg [int a0.layer, int 1, int 1, int 15, int a0.ino, int 4, int 0, int 65535, int a0.gen, int 7, int 0, int 268435455]) (int v7) = some (.agg [int a0.gen, int 7, int 0, int 268435455]) := (show xh Tryz.prog 94 (.agg [int a0.layer, int 1, int 1, int 15, int a0.ino, int 4, int 0, int 65535, int a0.gen, int 7, int 0, int 268435455]) (int v7) = some (.agg [int a0.gen, int 7, int 0, int 268435455]) from idxE xtb x5b 2 (by first | rfl | (have h := of_eq_true e49; omega) | (have h := e49; omega)) (by decide) rfl)
   have e52 : xh Tryz.prog 94 (xg (⟨(⟨a0.layer, 1, 1, 15⟩ : Ar4_Int), (⟨a0.ino, 4, 0, 65535⟩ : Ar4_Int), (⟨a0.gen, 7, 0, 268435455⟩ : Ar4_Int)⟩ : Ar3_Ar4_Int)) (int 2) = some (.agg [int a0.gen, int 7, int 0, int 268435455]) := (show xh Tryz.prog 94 (xg (⟨(⟨a0.layer, 1, 1, 15⟩ : Ar4_Int), (⟨a0.ino, 4, 0, 65535⟩ : Ar4_Int), (⟨a0.gen, 7, 0, 268435455⟩ : Ar4_Int)⟩ : Ar3_Ar4_Int)) (int 2) = some (.agg [int a0.gen, int 7, int 0, int 268435455]) from idxE xtb x5b 2 (by first | rfl | (have h := of_eq_true e49; omega) | (have h := e49; omega)) (by decide) rfl)
   have e53 : xh Tryz.prog 94 (.agg [int a0.layer, int 1, int 1, int 15, int a0.ino, int 4, int 0, int 65535, int a0.gen, int 7, int 0, int 268435455]) (int 2) = some (.agg [int a0.gen, int 7, int 0, int 268435455]) := (show xh Tryz.prog 94 (.agg [int a0.layer, int 1, int 1, int 15, int a0.ino, int 4, int 0, int 65535, int a0.gen, int 7, int 0, int 268435455]) (int 2) = some (.agg [int a0.gen, int 7, int 0, int 268435455]) from idxE xtb x5b 2 (by first | rfl | (have h := of_eq_true e49; omega) | (have h := e49; omega)) (by decide) rfl)
   have g68 := And.intro (And.intro (And.intro ((e1)) (And.intro ((e2)) ((e3)))) (And.intro ((e4)) (And.intro ((e11)) ((e13))))) (And.intro (And.intro ((e31)) (And.intro ((e49)) ((e50)))) (And.intro ((e51)) (And.intro ((e52)) ((e53)))))
   rcases iteE hm1 with ⟨e55, hm1⟩ | ⟨e55, hm1⟩
   · obtain rfl := Option.some.inj hm1
     obtain rfl := hO0 _ rfl
     try dsimp only at hm0
     obtain rfl := Option.some.inj hm0
     simp only [kk0, g68, e55, xab, ↓EVd, isCall, sevalprocAttr]
     all_goals first | done | rfl | exact xc (by simp only [CLO]) | exact xn (by simp only [CLO]) (Sub.tup (Subs.cons (Sub.refl _) (Subs.cons (Sub.refl _) (Subs.nil))))
   rcases iteE hm1 with ⟨e57, hm1⟩ | ⟨e57, hm1⟩
   · obtain rfl := Option.some.inj hm1
     obtain rfl := hO0 _ rfl
     try dsimp only at hm0
     obtain rfl := Option.some.inj hm0
     simp only [kk0, g68, e55, e57, xab, ↓EVd, isCall, sevalprocAttr]
     all_goals first | done | rfl | exact xc (by simp only [CLO]) | exact xn (by simp only [CLO]) (Sub.tup (Subs.cons (Sub.refl _) (Subs.cons (Sub.refl _) (Subs.nil))))
   obtain ⟨v58, h59, hm1⟩ := bsE hm1
   simp only [kk0, g68, e55, e57, xab, ↓EVd, isCall, sevalprocAttr]
   refine qc (x5f _ _ _ h59) rfl ?_
   obtain ⟨v60, h61, hm1⟩ := bsE hm1
   simp only [kk0, g68, e55, e57, xab, ↓EVd, isCall, sevalprocAttr]
   refine qc (xrh _ _ _ h61) rfl ?_
   obtain ⟨e63, hm1⟩ := ckE hm1
   obtain ⟨e65, hm1⟩ := ckE hm1
   obtain rfl := Option.some.inj hm1
   simp only [kk0, g68, e55, e57, e63, e65, xab, ↓EVd, isCall, sevalprocAttr]
   refine TI.here (hI0 _ rfl _ ⟨?_, ?_, ?_⟩)
   all_goals try simp only [kk0, g68, e55, e57, e63, e65, xab, ↓EVd, isCall, sevalprocAttr]
   all_goals first | omega | exact lq (by omega) | exact nq (by omega) | rfl | (congr 1; omega)
 obtain rfl := Option.some.inj hm1
 simp only [kk0, e1, e2, e3, e4, e11, xab, ↓EVd, isCall, sevalprocAttr]
 refine TI.here (hJ0_0 _ ⟨v6, ?_, hO0 _ rfl⟩)
 all_goals try simp only [kk0, e1, e2, e3, e4, e11, xab, ↓EVd, isCall, sevalprocAttr]
 all_goals first | omega | exact lq (by omega) | exact nq (by omega) | rfl | (congr 1; omega)
def xed  : (ByteArray × Int × Ar3_Int) → Option (St (ByteArray × Int × Ar3_Int) ((Ar3_Int) ⊕ (Origin × Bool)))
 | (v7, v8, v9) => if v8 < 3 then if v8 = 0 then if (v7.size : Int) < 1 then some (.out (.inr ((⟨0, 0, 0⟩ : Origin), false)))
 else (strM v7 none (some 1)).bind fun v23 => (xjc v23 16 32).bind fun v26 => if v26.2 = true then some (.out (.inr ((⟨0, 0, 0⟩ : Origin), false)))
 else (strM v7 (some 1) none).bind fun v32 => some (.nx (v32, (wr (v8 + 1)), ({ v9 with c0 := IntKind.i64.wrap v26.1 } : Ar3_Int)))
 else if v8 = 1 then if (v7.size : Int) < 4 then some (.out (.inr ((⟨0, 0, 0⟩ : Origin), false)))
 else (strM v7 none (some 4)).bind fun v48 => (xjc v48 16 32).bind fun v51 => if v51.2 = true then some (.out (.inr ((⟨0, 0, 0⟩ : Origin), false)))
 else (strM v7 (some 4) none).bind fun v57 => some (.nx (v57, (wr (v8 + 1)), ({ v9 with c1 := IntKind.i64.wrap v51.1 } : Ar3_Int)))
 else (ck (v8 = 2)).bind fun _ => if (v7.size : Int) < 7 then some (.out (.inr ((⟨0, 0, 0⟩ : Origin), false)))
 else (strM v7 none (some 7)).bind fun v73 => (xjc v73 16 32).bind fun v76 => if v76.2 = true then some (.out (.inr ((⟨0, 0, 0⟩ : Origin), false)))
 else (strM v7 (some 7) none).bind fun v82 => (ck (v8 = 2)).bind fun _ => some (.nx (v82, (wr (v8 + 1)), ({ v9 with c2 := IntKind.i64.wrap v76.1 } : Ar3_Int)))
 else some (.out (.inl v9))
def xtd (a0 : ByteArray) : Option (Origin × Bool) := (iter (xed) big (a0, 0, (⟨0, 0, 0⟩ : Ar3_Int))).bind fun o => (match o with
 | (.inl v11) => (xdg (⟨v11.c0, v11.c1, v11.c2⟩ : Origin)).bind fun v92 => if (!v92.2) = true then some ((⟨0, 0, 0⟩ : Origin), false)
 else if v92.1 = a0 then some ((⟨v11.c0, v11.c1, v11.c2⟩ : Origin), true)
 else some ((⟨0, 0, 0⟩ : Origin), false)
 | (.inr r) => some r)
def xr := aI (aI (aI (@EV) (aI (@R3) (@R9))) (aI (@R48) (aI (@R92) (@R93)))) (aI (aI (@R94) (aI (@DOrigin) (@xr5))) (aI (aI (@x0x) (@xwo)) (aI (@DErr) (@mixed))))
set_option maxHeartbeats 2000000 in
theorem x3k (a0 : ByteArray) (r : Origin × Bool) (hm0 : xtd a0 = some r) : Ok Tryz.prog 33 [str a0] (.tup [xm r.1, bool r.2]) := by
 unfold xtd at hm0
 refine okG x5r ?_
 unfold x1l
 have e1 : (.agg [int 0, int 0, int 0] : AV) = xm (⟨0, 0, 0⟩ : Origin) := _root_.id rfl
 simp only [e1, xr, ↓EVd, isCall, sevalprocAttr]
 refine xpg (acallF xgk (by simp) ?_) rfl
 unfold xvi
 have e2 : (.agg [int 0, int 1, int 1, int 15] : AV) = x2b (⟨0, 1, 1, 15⟩ : Ar4_Int) := _root_.id rfl
 have e3 : (.agg [int 0, int 4, int 0, int 65535] : AV) = x2b (⟨0, 4, 0, 65535⟩ : Ar4_Int) := _root_.id rfl
 have e4 : (.agg [int 0, int 7, int 0, int 268435455] : AV) = x2b (⟨0, 7, 0, 268435455⟩ : Ar4_Int) := _root_.id rfl
 have e5 : (.agg [int 0, int 1, int 1, int 15, int 0, int 4, int 0, int 65535, int 0, int 7, int 0, int 268435455] : AV) = xg (⟨(⟨0, 1, 1, 15⟩ : Ar4_Int), (⟨0, 4, 0, 65535⟩ : Ar4_Int), (⟨0, 7, 0, 268435455⟩ : Ar4_Int)⟩ : Ar3_Ar4_Int) := _root_.id rfl
 obtain ⟨o0, ho0, hm0⟩ := bsE hm0
 simp only [e1, e2, e3, e4, e5, xr, ↓EVd, isCall, sevalprocAttr]
 refine cwp_cx 0 (fun s => ∃ v11 : Ar3_Int, (s.T 0 = str a0 ∧ s.T 2 = .loc 0 3 0 0 ∧ s.T 4 = .loc 2 3 0 0 ∧ s.H 0 = some (.row 48 3 [.agg [int 0, int 0, int 0]]) ∧ s.H 2 = some (.row 92 3 [xgc v11]) ∧ Lq 0 s.nx ∧ Lq 2 s.nx) ∧ (.inl v11) = o0) ?_ fun J0_0 hJ0_0 => ?_
 · rintro T0 H0 x10 ⟨v11, kk0_0, rfl⟩
   dsimp only [Lq, Nq] at kk0_0
   try dsimp only at hm0
   have e91 : (.agg [int v11.c0, int v11.c1, int v11.c2] : AV) = xm (⟨v11.c0, v11.c1, v11.c2⟩ : Origin) := _root_.id rfl
   obtain ⟨v92, h93, hm0⟩ := bsE hm0
   simp only [kk0_0, e1, e2, e3, e4, e5, e91, xr, ↓EVd, isCall, sevalprocAttr]
   refine qc (xvs _ _ h93) rfl ?_
   rcases itbE hm0 with ⟨e95, hm0⟩ | ⟨e95, hm0⟩
   · have e96 : (.agg [int 0, int 0, int 0] : AV) = xm (⟨0, 0, 0⟩ : Origin) := _root_.id rfl
     obtain rfl := Option.some.inj hm0
     simp only [kk0_0, e1, e2, e3, e4, e5, e91, e95, e96, xr, ↓EVd, isCall, sevalprocAttr]
     all_goals first | done | rfl | exact xc (by simp only [CLO]) | exact xn (by simp only [CLO]) (Sub.tup (Subs.cons (Sub.refl _) (Subs.cons (Sub.refl _) (Subs.nil))))
   rcases iteE hm0 with ⟨e98, hm0⟩ | ⟨e98, hm0⟩
   · obtain rfl := Option.some.inj hm0
     simp only [kk0_0, e1, e2, e3, e4, e5, e91, e95, e98, xr, ↓EVd, isCall, sevalprocAttr]
     all_goals first | done | rfl | exact xc (by simp only [CLO]) | exact xn (by simp only [CLO]) (Sub.tup (Subs.cons (Sub.refl _) (Subs.cons (Sub.refl _) (Subs.nil))))
   have e99 : (.agg [int 0, int 0, int 0] : AV) = xm (⟨0, 0, 0⟩ : Origin) := _root_.id rfl
   obtain rfl := Option.some.inj hm0
   simp only [kk0_0, e1, e2, e3, e4, e5, e91, e95, e98, e99, xr, ↓EVd, isCall, sevalprocAttr]
   all_goals first | done | rfl | exact xc (by simp only [CLO]) | exact xn (by simp only [CLO]) (Sub.tup (Subs.cons (Sub.refl _) (Subs.cons (Sub.refl _) (Subs.nil))))
 refine cwp_lp ho0 (fun (v7, v8, v9) s => s.T 0 = str a0 ∧ s.T 2 = .loc 0 3 0 0 ∧ s.T 4 = .loc 2 3 0 0 ∧ s.T 5 = str v7 ∧ s.T 15 = xg (⟨(⟨0, 1, 1, 15⟩ : Ar4_Int), (⟨0, 4, 0, 65535⟩ : Ar4_Int), (⟨0, 7, 0, 268435455⟩ : Ar4_Int)⟩ : Ar3_Ar4_Int) ∧ s.T 16 = int v8 ∧ s.H 0 = some (.row 48 3 [.agg [int 0, int 0, int 0]]) ∧ s.H 2 = some (.row 92 3 [xgc v9]) ∧ Lq 0 s.nx ∧ Lq 2 s.nx) ?_ ?_
 · refine TI.here ⟨?_, ?_, ?_, ?_, ?_, ?_, ?_, ?_, ?_, ?_⟩
   all_goals try simp only [e1, e2, e3, e4, e5, xr, ↓EVd, isCall, sevalprocAttr]
   all_goals first | omega | exact lq (by omega) | exact nq (by omega) | rfl | (congr 1; omega)
 rintro I0 ⟨v7, v8, v9⟩ T0 H0 x6 st0 kk0 hm1 hI0 hO0
 dsimp only [Lq, Nq] at kk0
 simp only [xed] at hm1
 rcases iteE hm1 with ⟨e13, hm1⟩ | ⟨e13, hm1⟩
 · rcases iteE hm1 with ⟨e15, hm1⟩ | ⟨e15, hm1⟩
   · have e16 : xh Tryz.prog 94 (xg (⟨(⟨0, 1, 1, 15⟩ : Ar4_Int), (⟨0, 4, 0, 65535⟩ : Ar4_Int), (⟨0, 7, 0, 268435455⟩ : Ar4_Int)⟩ : Ar3_Ar4_Int)) (int v8) = some (.agg [int 0, int 1, int 1, int 15]) := (show xh Tryz.prog 94 (xg (⟨(⟨0, 1, 1, 15⟩ : Ar4_Int), (⟨0, 4, 0, 65535⟩ : Ar4_Int), (⟨0, 7, 0, 268435455⟩ : Ar4_Int)⟩ : Ar3_Ar4_Int)) (int v8) = some (.agg [int 0, int 1, int 1, int 15]) from idxE xtb x5b 0 (by first | rfl | (have h := of_eq_true e15; omega) | (have h := e15; omega)) (by decide) rfl)
     have e17 : xh Tryz.prog 94 (.agg [int 0, int 1, int 1, int 15, int 0, int 4, int 0, int 65535, int 0, int 7, int 0, int 268435455]) (int v8) = some (.agg [int 0, int 1, int 1, int 15]) := (show xh Tryz.prog 94 (.agg [int 0, int 1, int 1, int 15, int 0, int 4, int 0, int 65535, int 0, int 7, int 0, int 268435455]) (int v8) = some (.agg [int 0, int 1, int 1, int 15]) from idxE xtb x5b 0 (by first | rfl | (have h := of_eq_true e15; omega) | (have h := e15; omega)) (by decide) rfl)
     have e18 : xh Tryz.prog 94 (xg (⟨(⟨0, 1, 1, 15⟩ : Ar4_Int), (⟨0, 4, 0, 65535⟩ : Ar4_Int), (⟨0, 7, 0, 268435455⟩ : Ar4_Int)⟩ : Ar3_Ar4_Int)) (int 0) = some (.agg [int 0, int 1, int 1, int 15]) := (show xh Tryz.prog 94 (xg (⟨(⟨0, 1, 1, 15⟩ : Ar4_Int), (⟨0, 4, 0, 65535⟩ : Ar4_Int), (⟨0, 7, 0, 268435455⟩ : Ar4_Int)⟩ : Ar3_Ar4_Int)) (int 0) = some (.agg [int 0, int 1, int 1, int 15]) from idxE xtb x5b 0 (by first | rfl | (have h := of_eq_true e15; omega) | (have h := e15; omega)) (by decide) rfl)
     have e19 : xh Tryz.prog 94 (.agg [int 0, int 1, int 1, int 15, int 0, int 4, int 0, int 65535, int 0, int 7, int 0, int 268435455]) (int 0) = some (.agg [int 0, int 1, int 1, int 15]) := (show xh Tryz.prog 94 (.agg [int 0, int 1, int 1, int 15, int 0, int 4, int 0, int 65535, int 0, int 7, int 0, int 268435455]) (int 0) = some (.agg [int 0, int 1, int 1, int 15]) from idxE xtb x5b 0 (by first | rfl | (have h := of_eq_true e15; omega) | (have h := e15; omega)) (by decide) rfl)
     have g100 := And.intro (And.intro (And.intro ((e1)) ((e2))) (And.intro ((e3)) (And.intro ((e4)) ((e5))))) (And.intro (And.intro ((e13)) (And.intro ((e15)) ((e16)))) (And.intro ((e17)) (And.intro ((e18)) ((e19)))))
     rcases iteE hm1 with ⟨e21, hm1⟩ | ⟨e21, hm1⟩
     · have e22 : (.agg [int 0, int 0, int 0] : AV) = xm (⟨0, 0, 0⟩ : Origin) := _root_.id rfl
       obtain rfl := Option.some.inj hm1
       obtain rfl := hO0 _ rfl
       try dsimp only at hm0
       obtain rfl := Option.some.inj hm0
       simp only [kk0, g100, e21, e22, xr, ↓EVd, isCall, sevalprocAttr]
       all_goals first | done | rfl | exact xc (by simp only [CLO]) | exact xn (by simp only [CLO]) (Sub.tup (Subs.cons (Sub.refl _) (Subs.cons (Sub.refl _) (Subs.nil))))
     obtain ⟨v23, h24, hm1⟩ := bsE hm1
     have e25 := show x9b Tryz.prog 9 (str v7) none (some (int 1)) none = some (str v23) from xte (by kernel_rfl) h24
     obtain ⟨v26, h27, hm1⟩ := bsE hm1
     simp only [kk0, g100, e21, e25, xr, ↓EVd, isCall, sevalprocAttr]
     refine qc (x6f _ _ _ _ h27) rfl ?_
     rcases itbE hm1 with ⟨e29, hm1⟩ | ⟨e29, hm1⟩
     · have e30 : (.agg [int 0, int 0, int 0] : AV) = xm (⟨0, 0, 0⟩ : Origin) := _root_.id rfl
       obtain rfl := Option.some.inj hm1
       obtain rfl := hO0 _ rfl
       try dsimp only at hm0
       obtain rfl := Option.some.inj hm0
       simp only [kk0, g100, e21, e25, e29, e30, xr, ↓EVd, isCall, sevalprocAttr]
       all_goals first | done | rfl | exact xc (by simp only [CLO]) | exact xn (by simp only [CLO]) (Sub.tup (Subs.cons (Sub.refl _) (Subs.cons (Sub.refl _) (Subs.nil))))
     simp only [kk0, g100, e21, e25, e29, xr, ↓EVd, isCall, sevalprocAttr]
     refine fineI [([], []), ([], []), ([], []), ([], []), ([], []), ([(x6 + 3)], []), ([], []), ([], []), ([], [2]), ([], [])] rfl (by simp only [MT, sevalprocAttr]; first | done | omega) ?_
     have e31 : convE Tryz.prog 96 3 (ik .u64 v26.1) = some (int (IntKind.i64.wrap v26.1), []) := x4q _ (by kernel_rfl) (by kernel_rfl)
     obtain ⟨v32, h33, hm1⟩ := bsE hm1
     have e34 := show x9b Tryz.prog 9 (str v7) (some (int 1)) none none = some (str v32) from xte (by kernel_rfl) h33
     have e35 : (0 ≤ v8) = True := eq_true (by first | (have h := of_eq_true e15; omega) | (have h := e15; omega))
     have e36 : (v8 < ((3 : Nat) : Int)) = True := eq_true (by first | (have h := of_eq_true e15; omega) | (have h := e15; omega))
     have e37 : (v8 < (3 : Int)) = True := eq_true (by first | (have h := of_eq_true e15; omega) | (have h := e15; omega))
     have e38 : (v8).toNat = 0 := (by first | (have h := of_eq_true e15; omega) | (have h := e15; omega))
     obtain rfl := Option.some.inj hm1
     simp only [kk0, g100, e21, e25, e29, e31, e34, e35, e36, e37, e38, xr, ↓EVd, isCall, sevalprocAttr]
     refine TI.here (hI0 _ rfl _ ⟨?_, ?_, ?_, ?_, ?_, ?_, ?_, ?_, ?_, ?_⟩)
     all_goals try simp only [kk0, g100, e21, e25, e29, e31, e34, e35, e36, e37, e38, xr, ↓EVd, isCall, sevalprocAttr]
     all_goals first | omega | exact lq (by omega) | exact nq (by omega) | rfl | (congr 1; omega)
   rcases iteE hm1 with ⟨e40, hm1⟩ | ⟨e40, hm1⟩
   · have e41 : xh Tryz.prog 94 (xg (⟨(⟨0, 1, 1, 15⟩ : Ar4_Int), (⟨0, 4, 0, 65535⟩ : Ar4_Int), (⟨0, 7, 0, 268435455⟩ : Ar4_Int)⟩ : Ar3_Ar4_Int)) (int v8) = some (.agg [int 0, int 4, int 0, int 65535]) := (show xh Tryz.prog 94 (xg (⟨(⟨0, 1, 1, 15⟩ : Ar4_Int), (⟨0, 4, 0, 65535⟩ : Ar4_Int), (⟨0, 7, 0, 268435455⟩ : Ar4_Int)⟩ : Ar3_Ar4_Int)) (int v8) = some (.agg [int 0, int 4, int 0, int 65535]) from idxE xtb x5b 1 (by first | rfl | (have h := of_eq_true e40; omega) | (have h := e40; omega)) (by decide) rfl)
     have e42 : xh Tryz.prog 94 (.agg [int 0, int 1, int 1, int 15, int 0, int 4, int 0, int 65535, int 0, int 7, int 0, int 268435455]) (int v8) = some (.agg [int 0, int 4, int 0, int 65535]) := (show xh Tryz.prog 94 (.agg [int 0, int 1, int 1, int 15, int 0, int 4, int 0, int 65535, int 0, int 7, int 0, int 268435455]) (int v8) = some (.agg [int 0, int 4, int 0, int 65535]) from idxE xtb x5b 1 (by first | rfl | (have h := of_eq_true e40; omega) | (have h := e40; omega)) (by decide) rfl)
     have e43 : xh Tryz.prog 94 (xg (⟨(⟨0, 1, 1, 15⟩ : Ar4_Int), (⟨0, 4, 0, 65535⟩ : Ar4_Int), (⟨0, 7, 0, 268435455⟩ : Ar4_Int)⟩ : Ar3_Ar4_Int)) (int 1) = some (.agg [int 0, int 4, int 0, int 65535]) := (show xh Tryz.prog 94 (xg (⟨(⟨0, 1, 1, 15⟩ : Ar4_Int), (⟨0, 4, 0, 65535⟩ : Ar4_Int), (⟨0, 7, 0, 268435455⟩ : Ar4_Int)⟩ : Ar3_Ar4_Int)) (int 1) = some (.agg [int 0, int 4, int 0, int 65535]) from idxE xtb x5b 1 (by first | rfl | (have h := of_eq_true e40; omega) | (have h := e40; omega)) (by decide) rfl)
     have e44 : xh Tryz.prog 94 (.agg [int 0, int 1, int 1, int 15, int 0, int 4, int 0, int 65535, int 0, int 7, int 0, int 268435455]) (int 1) = some (.agg [int 0, int 4, int 0, int 65535]) := (show xh Tryz.prog 94 (.agg [int 0, int 1, int 1, int 15, int 0, int 4, int 0, int 65535, int 0, int 7, int 0, int 268435455]) (int 1) = some (.agg [int 0, int 4, int 0, int 65535]) from idxE xtb x5b 1 (by first | rfl | (have h := of_eq_true e40; omega) | (have h := e40; omega)) (by decide) rfl)
     have g101 := And.intro (And.intro (And.intro ((e1)) (And.intro ((e2)) ((e3)))) (And.intro ((e4)) (And.intro ((e5)) ((e13))))) (And.intro (And.intro ((e15)) (And.intro ((e40)) ((e41)))) (And.intro ((e42)) (And.intro ((e43)) ((e44)))))
     rcases iteE hm1 with ⟨e46, hm1⟩ | ⟨e46, hm1⟩
     · have e47 : (.agg [int 0, int 0, int 0] : AV) = xm (⟨0, 0, 0⟩ : Origin) := _root_.id rfl
       obtain rfl := Option.some.inj hm1
       obtain rfl := hO0 _ rfl
       try dsimp only at hm0
       obtain rfl := Option.some.inj hm0
       simp only [kk0, g101, e46, e47, xr, ↓EVd, isCall, sevalprocAttr]
       all_goals first | done | rfl | exact xc (by simp only [CLO]) | exact xn (by simp only [CLO]) (Sub.tup (Subs.cons (Sub.refl _) (Subs.cons (Sub.refl _) (Subs.nil))))
     obtain ⟨v48, h49, hm1⟩ := bsE hm1
     have e50 := show x9b Tryz.prog 9 (str v7) none (some (int 4)) none = some (str v48) from xte (by kernel_rfl) h49
     obtain ⟨v51, h52, hm1⟩ := bsE hm1
     simp only [kk0, g101, e46, e50, xr, ↓EVd, isCall, sevalprocAttr]
     refine qc (x6f _ _ _ _ h52) rfl ?_
     rcases itbE hm1 with ⟨e54, hm1⟩ | ⟨e54, hm1⟩
     · have e55 : (.agg [int 0, int 0, int 0] : AV) = xm (⟨0, 0, 0⟩ : Origin) := _root_.id rfl
       obtain rfl := Option.some.inj hm1
       obtain rfl := hO0 _ rfl
       try dsimp only at hm0
       obtain rfl := Option.some.inj hm0
       simp only [kk0, g101, e46, e50, e54, e55, xr, ↓EVd, isCall, sevalprocAttr]
       all_goals first | done | rfl | exact xc (by simp only [CLO]) | exact xn (by simp only [CLO]) (Sub.tup (Subs.cons (Sub.refl _) (Subs.cons (Sub.refl _) (Subs.nil))))
     simp only [kk0, g101, e46, e50, e54, xr, ↓EVd, isCall, sevalprocAttr]
     refine fineI [([], []), ([], []), ([], []), ([], []), ([], []), ([(x6 + 3)], []), ([], []), ([], []), ([], [2]), ([], [])] rfl (by simp only [MT, sevalprocAttr]; first | done | omega) ?_
     have e56 : convE Tryz.prog 96 3 (ik .u64 v51.1) = some (int (IntKind.i64.wrap v51.1), []) := x4q _ (by kernel_rfl) (by kernel_rfl)
     obtain ⟨v57, h58, hm1⟩ := bsE hm1
     have e59 := show x9b Tryz.prog 9 (str v7) (some (int 4)) none none = some (str v57) from xte (by kernel_rfl) h58
     have e60 : (0 ≤ v8) = True := eq_true (by first | (have h := of_eq_true e40; omega) | (have h := e40; omega))
     have e61 : (v8 < ((3 : Nat) : Int)) = True := eq_true (by first | (have h := of_eq_true e40; omega) | (have h := e40; omega))
     have e62 : (v8 < (3 : Int)) = True := eq_true (by first | (have h := of_eq_true e40; omega) | (have h := e40; omega))
     have e63 : (v8).toNat = 1 := (by first | (have h := of_eq_true e40; omega) | (have h := e40; omega))
     obtain rfl := Option.some.inj hm1
     simp only [kk0, g101, e46, e50, e54, e56, e59, e60, e61, e62, e63, xr, ↓EVd, isCall, sevalprocAttr]
     refine TI.here (hI0 _ rfl _ ⟨?_, ?_, ?_, ?_, ?_, ?_, ?_, ?_, ?_, ?_⟩)
     all_goals try simp only [kk0, g101, e46, e50, e54, e56, e59, e60, e61, e62, e63, xr, ↓EVd, isCall, sevalprocAttr]
     all_goals first | omega | exact lq (by omega) | exact nq (by omega) | rfl | (congr 1; omega)
   obtain ⟨e65, hm1⟩ := ckE hm1
   have e66 : xh Tryz.prog 94 (xg (⟨(⟨0, 1, 1, 15⟩ : Ar4_Int), (⟨0, 4, 0, 65535⟩ : Ar4_Int), (⟨0, 7, 0, 268435455⟩ : Ar4_Int)⟩ : Ar3_Ar4_Int)) (int v8) = some (.agg [int 0, int 7, int 0, int 268435455]) := (show xh Tryz.prog 94 (xg (⟨(⟨0, 1, 1, 15⟩ : Ar4_Int), (⟨0, 4, 0, 65535⟩ : Ar4_Int), (⟨0, 7, 0, 268435455⟩ : Ar4_Int)⟩ : Ar3_Ar4_Int)) (int v8) = some (.agg [int 0, int 7, int 0, int 268435455]) from idxE xtb x5b 2 (by first | rfl | (have h := of_eq_true e65; omega) | (have h := e65; omega)) (by decide) rfl)
   have e67 : xh Tryz.prog 94 (.agg [int 0, int 1, int 1, int 15, int 0, int 4, int 0, int 65535, int 0, int 7, int 0, int 268435455]) (int v8) = some (.agg [int 0, int 7, int 0, int 268435455]) := (show xh Tryz.prog 94 (.agg [int 0, int 1, int 1, int 15, int 0, int 4, int 0, int 65535, int 0, int 7, int 0, int 268435455]) (int v8) = some (.agg [int 0, int 7, int 0, int 268435455]) from idxE xtb x5b 2 (by first | rfl | (have h := of_eq_true e65; omega) | (have h := e65; omega)) (by decide) rfl)
   have e68 : xh Tryz.prog 94 (xg (⟨(⟨0, 1, 1, 15⟩ : Ar4_Int), (⟨0, 4, 0, 65535⟩ : Ar4_Int), (⟨0, 7, 0, 268435455⟩ : Ar4_Int)⟩ : Ar3_Ar4_Int)) (int 2) = some (.agg [int 0, int 7, int 0, int 268435455]) := (show xh Tryz.prog 94 (xg (⟨(⟨0, 1, 1, 15⟩ : Ar4_Int), (⟨0, 4, 0, 65535⟩ : Ar4_Int), (⟨0, 7, 0, 268435455⟩ : Ar4_Int)⟩ : Ar3_Ar4_Int)) (int 2) = some (.agg [int 0, int 7, int 0, int 268435455]) from idxE xtb x5b 2 (by first | rfl | (have h := of_eq_true e65; omega) | (have h := e65; omega)) (by decide) rfl)
   have e69 : xh Tryz.prog 94 (.agg [int 0, int 1, int 1, int 15, int 0, int 4, int 0, int 65535, int 0, int 7, int 0, int 268435455]) (int 2) = some (.agg [int 0, int 7, int 0, int 268435455]) := (show xh Tryz.prog 94 (.agg [int 0, int 1, int 1, int 15, int 0, int 4, int 0, int 65535, int 0, int 7, int 0, int 268435455]) (int 2) = some (.agg [int 0, int 7, int 0, int 268435455]) from idxE xtb x5b 2 (by first | rfl | (have h := of_eq_true e65; omega) | (have h := e65; omega)) (by decide) rfl)
   have g102 := And.intro (And.intro (And.intro ((e1)) (And.intro ((e2)) ((e3)))) (And.intro ((e4)) (And.intro ((e5)) ((e13))))) (And.intro (And.intro ((e15)) (And.intro ((e40)) ((e65)))) (And.intro (And.intro ((e66)) ((e67))) (And.intro ((e68)) ((e69)))))
   rcases iteE hm1 with ⟨e71, hm1⟩ | ⟨e71, hm1⟩
   · have e72 : (.agg [int 0, int 0, int 0] : AV) = xm (⟨0, 0, 0⟩ : Origin) := _root_.id rfl
     obtain rfl := Option.some.inj hm1
     obtain rfl := hO0 _ rfl
     try dsimp only at hm0
     obtain rfl := Option.some.inj hm0
     simp only [kk0, g102, e71, e72, xr, ↓EVd, isCall, sevalprocAttr]
     all_goals first | done | rfl | exact xc (by simp only [CLO]) | exact xn (by simp only [CLO]) (Sub.tup (Subs.cons (Sub.refl _) (Subs.cons (Sub.refl _) (Subs.nil))))
   obtain ⟨v73, h74, hm1⟩ := bsE hm1
   have e75 := show x9b Tryz.prog 9 (str v7) none (some (int 7)) none = some (str v73) from xte (by kernel_rfl) h74
   obtain ⟨v76, h77, hm1⟩ := bsE hm1
   simp only [kk0, g102, e71, e75, xr, ↓EVd, isCall, sevalprocAttr]
   refine qc (x6f _ _ _ _ h77) rfl ?_
   rcases itbE hm1 with ⟨e79, hm1⟩ | ⟨e79, hm1⟩
   · have e80 : (.agg [int 0, int 0, int 0] : AV) = xm (⟨0, 0, 0⟩ : Origin) := _root_.id rfl
     obtain rfl := Option.some.inj hm1
     obtain rfl := hO0 _ rfl
     try dsimp only at hm0
     obtain rfl := Option.some.inj hm0
     simp only [kk0, g102, e71, e75, e79, e80, xr, ↓EVd, isCall, sevalprocAttr]
     all_goals first | done | rfl | exact xc (by simp only [CLO]) | exact xn (by simp only [CLO]) (Sub.tup (Subs.cons (Sub.refl _) (Subs.cons (Sub.refl _) (Subs.nil))))
   simp only [kk0, g102, e71, e75, e79, xr, ↓EVd, isCall, sevalprocAttr]
   refine fineI [([], []), ([], []), ([], []), ([], []), ([], []), ([(x6 + 3)], []), ([], []), ([], []), ([], [2]), ([], [])] rfl (by simp only [MT, sevalprocAttr]; first | done | omega) ?_
   have e81 : convE Tryz.prog 96 3 (ik .u64 v76.1) = some (int (IntKind.i64.wrap v76.1), []) := x4q _ (by kernel_rfl) (by kernel_rfl)
   obtain ⟨v82, h83, hm1⟩ := bsE hm1
   have e84 := show x9b Tryz.prog 9 (str v7) (some (int 7)) none none = some (str v82) from xte (by kernel_rfl) h83
   obtain ⟨e86, hm1⟩ := ckE hm1
   have e87 : (0 ≤ v8) = True := eq_true (by first | (have h := of_eq_true e86; omega) | (have h := e86; omega))
   have e88 : (v8 < ((3 : Nat) : Int)) = True := eq_true (by first | (have h := of_eq_true e86; omega) | (have h := e86; omega))
   have e89 : (v8 < (3 : Int)) = True := eq_true (by first | (have h := of_eq_true e86; omega) | (have h := e86; omega))
   have e90 : (v8).toNat = 2 := (by first | (have h := of_eq_true e86; omega) | (have h := e86; omega))
   obtain rfl := Option.some.inj hm1
   simp only [kk0, g102, e71, e75, e79, e81, e84, e86, e87, e88, e89, e90, xr, ↓EVd, isCall, sevalprocAttr]
   refine TI.here (hI0 _ rfl _ ⟨?_, ?_, ?_, ?_, ?_, ?_, ?_, ?_, ?_, ?_⟩)
   all_goals try simp only [kk0, g102, e71, e75, e79, e81, e84, e86, e87, e88, e89, e90, xr, ↓EVd, isCall, sevalprocAttr]
   all_goals first | omega | exact lq (by omega) | exact nq (by omega) | rfl | (congr 1; omega)
 obtain rfl := Option.some.inj hm1
 simp only [kk0, e1, e2, e3, e4, e5, e13, xr, ↓EVd, isCall, sevalprocAttr]
 refine TI.here (hJ0_0 _ ⟨v9, ⟨?_, ?_, ?_, ?_, ?_, ?_, ?_⟩, hO0 _ rfl⟩)
 all_goals try simp only [kk0, e1, e2, e3, e4, e5, e13, xr, ↓EVd, isCall, sevalprocAttr]
 all_goals first | omega | exact lq (by omega) | exact nq (by omega) | rfl | (congr 1; omega)
end Go.Proofs.YtefdlpandfhcgaaGreatDoor.AL

/- Models of functions, and that the functions are as their models: written by gen.py. -/
set_option linter.all false
set_option maxRecDepth 100000
namespace Go.Proofs.YtefdlpandfhcgaaGreatDoor.AL
open Go Go.Proofs
def xbe (a0 : Int) : Option (ByteArray) := (strM (ByteArray.mk #[48, 49, 50, 51, 52, 53, 54, 55, 56, 57, 97, 98, 99, 100, 101, 102]) (some a0) (some (wr (a0 + 1)))).bind fun v1 => some v1
def xqv := aI (@EV) (aI (@R3) (@R9))
set_option maxHeartbeats 2000000 in
theorem xxl (a0 : Int) (r : ByteArray) (hm0 : xbe a0 = some r) : Ok Tryz.prog 50 [int a0] (str r) := by
 unfold xbe at hm0
 refine okG xrt ?_
 unfold xin
 obtain ⟨v1, h2, hm0⟩ := bsE hm0
 have e3 := show x9b Tryz.prog 9 (str (ByteArray.mk #[48, 49, 50, 51, 52, 53, 54, 55, 56, 57, 97, 98, 99, 100, 101, 102])) (some (int a0)) (some (int (wr (a0 + 1)))) none = some (str v1) from xte (by kernel_rfl) h2
 obtain rfl := Option.some.inj hm0
 simp only [e3, xqv, ↓EVd, isCall, sevalprocAttr]
 all_goals first | done | rfl
def xih (a1 : Int) : (Int × ByteArray × Int) → Option (St (Int × ByteArray × Int) (ByteArray))
 | (v2, v3, v4) => if v4 < a1 then (xbe (v2.tmod 16)).bind fun v10 => (ck (v10.size + v3.size ≤ 9223372036854775807)).bind fun _ => some (.nx ((wr (v2.tdiv 16)), (v10 ++ v3), (wr (v4 + 1))))
 else some (.out v3)
def xef (a0 : Int) (a1 : Int) : Option (ByteArray) := (iter (xih a1) big (a0, xq, 0)).bind fun o => (match o with
 | v6 => some v6)
def xje := aI (@EV) (aI (@R3) (@R9))
set_option maxHeartbeats 2000000 in
theorem x8j (a0 : Int) (a1 : Int) (r : ByteArray) (hm0 : xef a0 a1 = some r) : Ok Tryz.prog 51 [int a0, int a1] (str r) := by
 unfold xef at hm0
 refine okG x2v ?_
 unfold xtq
 obtain ⟨o0, ho0, hm0⟩ := bsE hm0
 simp only [xje, ↓EVd, isCall, sevalprocAttr]
 refine cwp_cx 0 (fun s => ∃ v6 : ByteArray, (s.T 5 = str v6) ∧ v6 = o0) ?_ fun J0_0 hJ0_0 => ?_
 · rintro T0 H0 x5 ⟨v6, kk0_0, rfl⟩
   dsimp only [Lq, Nq] at kk0_0
   try dsimp only at hm0
   obtain rfl := Option.some.inj hm0
   simp only [kk0_0, xje, ↓EVd, isCall, sevalprocAttr]
   all_goals first | done | rfl
 refine cwp_lp ho0 (fun (v2, v3, v4) s => s.T 0 = int v2 ∧ s.T 1 = int a1 ∧ s.T 5 = str v3 ∧ s.T 6 = int v4) ?_ ?_
 · refine TI.here ⟨?_, ?_, ?_, ?_⟩
   all_goals try simp only [xje, ↓EVd, isCall, sevalprocAttr]
   all_goals first | omega | exact lq (by omega) | exact nq (by omega) | rfl | (congr 1; omega)
 rintro I0 ⟨v2, v3, v4⟩ T0 H0 x1 st0 kk0 hm1 hI0 hO0
 dsimp only [Lq, Nq] at kk0
 simp only [xih] at hm1
 rcases iteE hm1 with ⟨e8, hm1⟩ | ⟨e8, hm1⟩
 · have e9 : ((16 : Int) = 0) = False := by decide
   obtain ⟨v10, h11, hm1⟩ := bsE hm1
   simp only [kk0, e8, e9, xje, ↓EVd, isCall, sevalprocAttr]
   refine qc (xxl _ _ h11) rfl ?_
   obtain ⟨e13, hm1⟩ := ckE hm1
   obtain rfl := Option.some.inj hm1
   simp only [kk0, e8, e9, e13, xje, ↓EVd, isCall, sevalprocAttr]
   refine TI.here (hI0 _ rfl _ ⟨?_, ?_, ?_, ?_⟩)
   all_goals try simp only [kk0, e8, e9, e13, xje, ↓EVd, isCall, sevalprocAttr]
   all_goals first | omega | exact lq (by omega) | exact nq (by omega) | rfl | (congr 1; omega)
 obtain rfl := Option.some.inj hm1
 simp only [kk0, e8, xje, ↓EVd, isCall, sevalprocAttr]
 refine TI.here (hJ0_0 _ ⟨v3, ?_, hO0 _ rfl⟩)
 all_goals try simp only [kk0, e8, xje, ↓EVd, isCall, sevalprocAttr]
 all_goals first | omega | exact lq (by omega) | exact nq (by omega) | rfl | (congr 1; omega)
def xah (a0 : Origin) : Option (ByteArray × Bool) := if a0.layer < 1 then some (xq, false)
 else if 15 < a0.layer then some (xq, false)
 else if a0.ino < 0 then some (xq, false)
 else if 65535 < a0.ino then some (xq, false)
 else if a0.gen < 0 then some (xq, false)
 else if 268435455 < a0.gen then some (xq, false)
 else (xef a0.layer 1).bind fun v13 => (xef a0.ino 4).bind fun v15 => (ck (v13.size + v15.size ≤ 9223372036854775807)).bind fun _ => (xef a0.gen 7).bind fun v19 => (ck ((v13 ++ v15).size + v19.size ≤ 9223372036854775807)).bind fun _ => some (((v13 ++ v15) ++ v19), true)
def xyc := aI (aI (@EV) (aI (@R3) (@R9))) (aI (@R48) (aI (@DOrigin) (@mixed)))
set_option maxHeartbeats 2000000 in
theorem xav (a0 : Origin) (r : ByteArray × Bool) (hm0 : xah a0 = some r) : Ok Tryz.prog 37 [xm a0] (.tup [str r.1, bool r.2]) := by
 unfold xah at hm0
 refine okG xdv ?_
 unfold x4o
 rcases iteE hm0 with ⟨e2, hm0⟩ | ⟨e2, hm0⟩
 · obtain rfl := Option.some.inj hm0
   simp only [e2, xyc, ↓EVd, isCall, sevalprocAttr]
   all_goals first | done | rfl | exact xc (by simp only [CLO]) | exact xn (by simp only [CLO]) (Sub.tup (Subs.cons (Sub.refl _) (Subs.cons (Sub.refl _) (Subs.nil))))
 rcases iteE hm0 with ⟨e4, hm0⟩ | ⟨e4, hm0⟩
 · obtain rfl := Option.some.inj hm0
   simp only [e2, e4, xyc, ↓EVd, isCall, sevalprocAttr]
   all_goals first | done | rfl | exact xc (by simp only [CLO]) | exact xn (by simp only [CLO]) (Sub.tup (Subs.cons (Sub.refl _) (Subs.cons (Sub.refl _) (Subs.nil))))
 rcases iteE hm0 with ⟨e6, hm0⟩ | ⟨e6, hm0⟩
 · obtain rfl := Option.some.inj hm0
   simp only [e2, e4, e6, xyc, ↓EVd, isCall, sevalprocAttr]
   all_goals first | done | rfl | exact xc (by simp only [CLO]) | exact xn (by simp only [CLO]) (Sub.tup (Subs.cons (Sub.refl _) (Subs.cons (Sub.refl _) (Subs.nil))))
 rcases iteE hm0 with ⟨e8, hm0⟩ | ⟨e8, hm0⟩
 · obtain rfl := Option.some.inj hm0
   simp only [e2, e4, e6, e8, xyc, ↓EVd, isCall, sevalprocAttr]
   all_goals first | done | rfl | exact xc (by simp only [CLO]) | exact xn (by simp only [CLO]) (Sub.tup (Subs.cons (Sub.refl _) (Subs.cons (Sub.refl _) (Subs.nil))))
 rcases iteE hm0 with ⟨e10, hm0⟩ | ⟨e10, hm0⟩
 · obtain rfl := Option.some.inj hm0
   simp only [e2, e4, e6, e8, e10, xyc, ↓EVd, isCall, sevalprocAttr]
   all_goals first | done | rfl | exact xc (by simp only [CLO]) | exact xn (by simp only [CLO]) (Sub.tup (Subs.cons (Sub.refl _) (Subs.cons (Sub.refl _) (Subs.nil))))
 rcases iteE hm0 with ⟨e12, hm0⟩ | ⟨e12, hm0⟩
 · obtain rfl := Option.some.inj hm0
   simp only [e2, e4, e6, e8, e10, e12, xyc, ↓EVd, isCall, sevalprocAttr]
   all_goals first | done | rfl | exact xc (by simp only [CLO]) | exact xn (by simp only [CLO]) (Sub.tup (Subs.cons (Sub.refl _) (Subs.cons (Sub.refl _) (Subs.nil))))
 obtain ⟨v13, h14, hm0⟩ := bsE hm0
 simp only [e2, e4, e6, e8, e10, e12, xyc, ↓EVd, isCall, sevalprocAttr]
 refine qd (x8j _ _ _ h14) rfl ?_
 obtain ⟨v15, h16, hm0⟩ := bsE hm0
 simp only [e2, e4, e6, e8, e10, e12, xyc, ↓EVd, isCall, sevalprocAttr]
 refine qd (x8j _ _ _ h16) rfl ?_
 obtain ⟨e18, hm0⟩ := ckE hm0
 obtain ⟨v19, h20, hm0⟩ := bsE hm0
 simp only [e2, e4, e6, e8, e10, e12, e18, xyc, ↓EVd, isCall, sevalprocAttr]
 refine qd (x8j _ _ _ h20) rfl ?_
 obtain ⟨e22, hm0⟩ := ckE hm0
 obtain rfl := Option.some.inj hm0
 simp only [e2, e4, e6, e8, e10, e12, e18, e22, xyc, ↓EVd, isCall, sevalprocAttr]
 all_goals first | done | rfl | exact xc (by simp only [CLO]) | exact xn (by simp only [CLO]) (Sub.tup (Subs.cons (Sub.refl _) (Subs.cons (Sub.refl _) (Subs.nil))))
def xcd (a0 : ByteArray) (v3 : Int) : (Int × Int) → Option (St (Int × Int) (Int))
 | (v9, v10) => if v10 < 16 then (strM a0 (some v3) (some (wr (v3 + 1)))).bind fun v15 => (xbe v10).bind fun v18 => if v15 = v18 then some (.nx ((wr ((wr (v9 * 16)) + v10)), (wr (v10 + 1))))
 else some (.nx (v9, (wr (v10 + 1))))
 else some (.out v9)
def xfe (a0 : ByteArray) : (Int × Int) → Option (St (Int × Int) (Int))
 | (v2, v3) => if v3 < (a0.size : Int) then (iter (xcd a0 v3) big (v2, 0)).bind fun o => (match o with
 | v12 => some (.nx (v12, (wr (v3 + 1)))))
 else some (.out v2)
def xrd (a0 : ByteArray) : Option (Int) := (iter (xfe a0) big (0, 0)).bind fun o => (match o with
 | v5 => some v5)
def xrb := aI (aI (@EV) (@R3)) (aI (@R9) (@mixed))
set_option maxHeartbeats 2000000 in
theorem xti (a0 : ByteArray) (r : Int) (hm0 : xrd a0 = some r) : Ok Tryz.prog 36 [str a0] (int r) := by
 unfold xrd at hm0
 refine okG xrs ?_
 unfold x7l
 obtain ⟨o0, ho0, hm0⟩ := bsE hm0
 simp only [xrb, ↓EVd, isCall, sevalprocAttr]
 refine cwp_cx 0 (fun s => ∃ v5 : Int, (s.T 3 = int v5) ∧ v5 = o0) ?_ fun J0_0 hJ0_0 => ?_
 · rintro T0 H0 x4 ⟨v5, kk0_0, rfl⟩
   dsimp only [Lq, Nq] at kk0_0
   try dsimp only at hm0
   obtain rfl := Option.some.inj hm0
   simp only [kk0_0, xrb, ↓EVd, isCall, sevalprocAttr]
   all_goals first | done | rfl
 refine cwp_lp ho0 (fun (v2, v3) s => s.T 0 = str a0 ∧ s.T 3 = int v2 ∧ s.T 4 = int v3) ?_ ?_
 · refine TI.here ⟨?_, ?_, ?_⟩
   all_goals try simp only [xrb, ↓EVd, isCall, sevalprocAttr]
   all_goals first | omega | exact lq (by omega) | exact nq (by omega) | rfl | (congr 1; omega)
 rintro I0 ⟨v2, v3⟩ T0 H0 x1 st0 kk0 hm1 hI0 hO0
 dsimp only [Lq, Nq] at kk0
 simp only [xfe] at hm1
 rcases iteE hm1 with ⟨e7, hm1⟩ | ⟨e7, hm1⟩
 · obtain ⟨o1, ho1, hm1⟩ := bsE hm1
   simp only [kk0, e7, xrb, ↓EVd, isCall, sevalprocAttr]
   refine cwp_cx 2 (fun s => ∃ v12 : Int, (s.T 0 = str a0 ∧ s.T 3 = int v12 ∧ s.T 4 = int v3) ∧ v12 = o1) ?_ fun J1_0 hJ1_0 => ?_
   · rintro T1 H1 x11 ⟨v12, kk1_0, rfl⟩
     dsimp only [Lq, Nq] at kk1_0
     try dsimp only at hm1
     obtain rfl := Option.some.inj hm1
     simp only [kk1_0, e7, xrb, ↓EVd, isCall, sevalprocAttr]
     refine TI.here (hI0 _ rfl _ ⟨?_, ?_, ?_⟩)
     all_goals try simp only [kk1_0, e7, xrb, ↓EVd, isCall, sevalprocAttr]
     all_goals first | omega | exact lq (by omega) | exact nq (by omega) | rfl | (congr 1; omega)
   refine cwp_lp ho1 (fun (v9, v10) s => s.T 0 = str a0 ∧ s.T 3 = int v9 ∧ s.T 4 = int v3 ∧ s.T 5 = int v10) ?_ ?_
   · refine TI.here ⟨?_, ?_, ?_, ?_⟩
     all_goals try simp only [kk0, e7, xrb, ↓EVd, isCall, sevalprocAttr]
     all_goals first | omega | exact lq (by omega) | exact nq (by omega) | rfl | (congr 1; omega)
   rintro I1 ⟨v9, v10⟩ T1 H1 x8 st1 kk1 hm2 hI1 hO1
   dsimp only [Lq, Nq] at kk1
   simp only [xcd] at hm2
   rcases iteE hm2 with ⟨e14, hm2⟩ | ⟨e14, hm2⟩
   · obtain ⟨v15, h16, hm2⟩ := bsE hm2
     have e17 := show x9b Tryz.prog 9 (str a0) (some (int v3)) (some (int (wr (v3 + 1)))) none = some (str v15) from xte (by kernel_rfl) h16
     obtain ⟨v18, h19, hm2⟩ := bsE hm2
     simp only [kk1, e7, e14, e17, xrb, ↓EVd, isCall, sevalprocAttr]
     refine qd (xxl _ _ h19) rfl ?_
     rcases iteE hm2 with ⟨e21, hm2⟩ | ⟨e21, hm2⟩
     · obtain rfl := Option.some.inj hm2
       simp only [kk1, e7, e14, e17, e21, xrb, ↓EVd, isCall, sevalprocAttr]
       refine TI.here (hI1 _ rfl _ ⟨?_, ?_, ?_, ?_⟩)
       all_goals try simp only [kk1, e7, e14, e17, e21, xrb, ↓EVd, isCall, sevalprocAttr]
       all_goals first | omega | exact lq (by omega) | exact nq (by omega) | rfl | (congr 1; omega)
     obtain rfl := Option.some.inj hm2
     simp only [kk1, e7, e14, e17, e21, xrb, ↓EVd, isCall, sevalprocAttr]
     refine TI.here (hI1 _ rfl _ ⟨?_, ?_, ?_, ?_⟩)
     all_goals try simp only [kk1, e7, e14, e17, e21, xrb, ↓EVd, isCall, sevalprocAttr]
     all_goals first | omega | exact lq (by omega) | exact nq (by omega) | rfl | (congr 1; omega)
   obtain rfl := Option.some.inj hm2
   simp only [kk1, e7, e14, xrb, ↓EVd, isCall, sevalprocAttr]
   refine TI.here (hJ1_0 _ ⟨v9, ⟨?_, ?_, ?_⟩, hO1 _ rfl⟩)
   all_goals try simp only [kk1, e7, e14, xrb, ↓EVd, isCall, sevalprocAttr]
   all_goals first | omega | exact lq (by omega) | exact nq (by omega) | rfl | (congr 1; omega)
 obtain rfl := Option.some.inj hm1
 simp only [kk0, e7, xrb, ↓EVd, isCall, sevalprocAttr]
 refine TI.here (hJ0_0 _ ⟨v2, ?_, hO0 _ rfl⟩)
 all_goals try simp only [kk0, e7, xrb, ↓EVd, isCall, sevalprocAttr]
 all_goals first | omega | exact lq (by omega) | exact nq (by omega) | rfl | (congr 1; omega)
def xfg (a0 : ByteArray) : Option (Origin × Bool) := if (a0.size : Int) = 12 then (strM a0 none (some 1)).bind fun v3 => (xrd v3).bind fun v6 => (strM a0 (some 1) (some 5)).bind fun v8 => (xrd v8).bind fun v11 => (strM a0 (some 5) none).bind fun v13 => (xrd v13).bind fun v16 => (xah (⟨v6, v11, v16⟩ : Origin)).bind fun v19 => if (!v19.2) = true then some ((⟨0, 0, 0⟩ : Origin), false)
 else if v19.1 = a0 then some ((⟨v6, v11, v16⟩ : Origin), true)
 else some ((⟨0, 0, 0⟩ : Origin), false)
 else some ((⟨0, 0, 0⟩ : Origin), false)
def xid := aI (aI (@EV) (aI (@R3) (@R9))) (aI (@R48) (aI (@DOrigin) (@mixed)))
set_option maxHeartbeats 2000000 in
theorem xvt (a0 : ByteArray) (r : Origin × Bool) (hm0 : xfg a0 = some r) : Ok Tryz.prog 21 [str a0] (.tup [xm r.1, bool r.2]) := by
 unfold xfg at hm0
 refine okG xqt ?_
 unfold xbn
 rcases iteE hm0 with ⟨e2, hm0⟩ | ⟨e2, hm0⟩
 · obtain ⟨v3, h4, hm0⟩ := bsE hm0
   have e5 := show x9b Tryz.prog 9 (str a0) none (some (int 1)) none = some (str v3) from xte (by kernel_rfl) h4
   obtain ⟨v6, h7, hm0⟩ := bsE hm0
   simp only [e2, e5, xid, ↓EVd, isCall, sevalprocAttr]
   refine qd (xti _ _ h7) rfl ?_
   obtain ⟨v8, h9, hm0⟩ := bsE hm0
   have e10 := show x9b Tryz.prog 9 (str a0) (some (int 1)) (some (int 5)) none = some (str v8) from xte (by kernel_rfl) h9
   obtain ⟨v11, h12, hm0⟩ := bsE hm0
   simp only [e2, e5, e10, xid, ↓EVd, isCall, sevalprocAttr]
   refine qd (xti _ _ h12) rfl ?_
   obtain ⟨v13, h14, hm0⟩ := bsE hm0
   have e15 := show x9b Tryz.prog 9 (str a0) (some (int 5)) none none = some (str v13) from xte (by kernel_rfl) h14
   obtain ⟨v16, h17, hm0⟩ := bsE hm0
   simp only [e2, e5, e10, e15, xid, ↓EVd, isCall, sevalprocAttr]
   refine qd (xti _ _ h17) rfl ?_
   have e18 : (.agg [int v6, int v11, int v16] : AV) = xm (⟨v6, v11, v16⟩ : Origin) := _root_.id rfl
   obtain ⟨v19, h20, hm0⟩ := bsE hm0
   simp only [e2, e5, e10, e15, e18, xid, ↓EVd, isCall, sevalprocAttr]
   refine qc (xav _ _ h20) rfl ?_
   rcases itbE hm0 with ⟨e22, hm0⟩ | ⟨e22, hm0⟩
   · have e23 : (.agg [int 0, int 0, int 0] : AV) = xm (⟨0, 0, 0⟩ : Origin) := _root_.id rfl
     obtain rfl := Option.some.inj hm0
     simp only [e2, e5, e10, e15, e18, e22, e23, xid, ↓EVd, isCall, sevalprocAttr]
     all_goals first | done | rfl | exact xc (by simp only [CLO]) | exact xn (by simp only [CLO]) (Sub.tup (Subs.cons (Sub.refl _) (Subs.cons (Sub.refl _) (Subs.nil))))
   rcases iteE hm0 with ⟨e25, hm0⟩ | ⟨e25, hm0⟩
   · obtain rfl := Option.some.inj hm0
     simp only [e2, e5, e10, e15, e18, e22, e25, xid, ↓EVd, isCall, sevalprocAttr]
     all_goals first | done | rfl | exact xc (by simp only [CLO]) | exact xn (by simp only [CLO]) (Sub.tup (Subs.cons (Sub.refl _) (Subs.cons (Sub.refl _) (Subs.nil))))
   have e26 : (.agg [int 0, int 0, int 0] : AV) = xm (⟨0, 0, 0⟩ : Origin) := _root_.id rfl
   obtain rfl := Option.some.inj hm0
   simp only [e2, e5, e10, e15, e18, e22, e25, e26, xid, ↓EVd, isCall, sevalprocAttr]
   all_goals first | done | rfl | exact xc (by simp only [CLO]) | exact xn (by simp only [CLO]) (Sub.tup (Subs.cons (Sub.refl _) (Subs.cons (Sub.refl _) (Subs.nil))))
 have e27 : (.agg [int 0, int 0, int 0] : AV) = xm (⟨0, 0, 0⟩ : Origin) := _root_.id rfl
 obtain rfl := Option.some.inj hm0
 simp only [e2, e27, xid, ↓EVd, isCall, sevalprocAttr]
 all_goals first | done | rfl | exact xc (by simp only [CLO]) | exact xn (by simp only [CLO]) (Sub.tup (Subs.cons (Sub.refl _) (Subs.cons (Sub.refl _) (Subs.nil))))
end Go.Proofs.YtefdlpandfhcgaaGreatDoor.AL

/- Plain laws of chapter 15: names of handles. -/
set_option linter.all false
namespace Go.Proofs.YtefdlpandfhcgaaGreatDoor.AL
open Go Go.Proofs Go.Lib
theorem ckT {p : Prop} [Decidable p] (h : p) : ck p = some () := by unfold ck; rw [if_pos h]
theorem xft {a b : List UInt8} : bB a = bB b ↔ a = b := ⟨bB_inj, fun h => by rw [h]⟩
theorem bB_cut (l : List UInt8) (i j : Nat) : (bB l).extract i j = bB ((l.take j).drop i) := by
  apply ByteArray.ext
  simp [bB, ByteArray.data_extract, List.extract_eq_take_drop, List.drop_take]
theorem x1j {l : List UInt8} {lo hi : Option Int} {i j : Nat} (hi1 : lo.getD 0 = (i : Int)) (hj1 : hi.getD ((bB l).size : Int) = (j : Int)) (h1 : i ≤ j) (h2 : j ≤ l.length) : strM (bB l) lo hi = some (bB ((l.take j).drop i)) := by
  unfold strM
  have e : ((bB l).size : Int) = (l.length : Int) := by rw [xqd]
  rw [hi1, hj1, if_pos ⟨by omega, by omega, by omega⟩, Int.toNat_natCast, Int.toNat_natCast, bB_cut]
theorem xoq : ∀ c : Nat, repeatL [48] c = List.replicate c 48
  | 0 => rfl
  | c + 1 => by unfold repeatL; rw [xoq c]; rfl
theorem pow7 : (16 : Nat) ^ 7 = 268435456 := by decide
theorem fmt_eq {n : Int} (h0 : 0 ≤ n) (hn : n < 268435456) : xac n 16 = some (bB (hexF 6 n.toNat)) := by
  unfold xac
  rw [ckT ⟨h0, hn, rfl⟩]
  rfl
theorem xm4 {d f n : Nat} (hd : n < 16 ^ (d + 1)) (hf : d ≤ f) : hexF f n = hexF d n := by
  induction f generalizing d n with
  | zero => rw [show d = 0 by omega]
  | succ f ih =>
    cases d with
    | zero =>
      have : n < 16 := by simpa using hd
      unfold hexF
      rw [if_pos this, show n % 16 = n by omega]
    | succ d =>
      unfold hexF
      split
      · rfl
      · rw [ih (d := d) (by rw [Nat.pow_succ] at hd; omega) (by omega)]
theorem xx9 {d n : Nat} (h : n < 16 ^ (d + 1)) (h6 : d ≤ 6) : (hexF 6 n).length ≤ d + 1 ∧ List.replicate (d + 1 - (hexF 6 n).length) 48 ++ hexF 6 n = hexN (d + 1) n := by
  rw [xm4 h h6]
  exact x2w d n h
theorem rep_eq {c : Nat} (h : c ≤ 1000) : xqc (ByteArray.mk #[48]) (c : Int) = some (bB (List.replicate c 48)) := by
  unfold xqc
  rw [ckT ⟨by omega, by omega, by decide⟩]
  simp only [Option.bind_some, Int.toNat_natCast]
  rw [xoq]
  rfl
def HdP (o : Origin) : Prop := 1 ≤ o.layer ∧ o.layer ≤ 15 ∧ 0 ≤ o.ino ∧ o.ino ≤ 65535 ∧ 0 ≤ o.gen ∧ o.gen ≤ 268435455
instance (o : Origin) : Decidable (HdP o) := inferInstanceAs (Decidable (_ ∧ _))
theorem HdP.r {o : Origin} (h : HdP o) : HdR o := ⟨h.1, h.2.1, h.2.2.1, h.2.2.2.1, h.2.2.2.2.1, h.2.2.2.2.2⟩
theorem HdR.p {o : Origin} (h : HdR o) : HdP o := ⟨h.l0, h.l1, h.i0, h.i1, h.g0, h.g1⟩
def nameH (o : Origin) : List UInt8 × Bool := if HdP o then (hname o, true) else ([], false)
theorem nb : xq = bB [] := rfl
theorem x5q {d : Nat} {n : Int} {s : List UInt8} (h6 : d ≤ 6) (hs : s.length ≤ 100) (h0 : 0 ≤ n) (hn : n.toNat < 16 ^ (d + 1)) {β : Type} (k : ByteArray → Option β) :
    ((xac n 16).bind fun v20 => (xqc (ByteArray.mk #[48]) (wr (((d + 1 : Nat) : Int) - (v20.size : Int)))).bind fun v22 => (ck (v22.size + v20.size ≤ 9223372036854775807)).bind fun _ => (ck ((bB s).size + (v22 ++ v20).size ≤ 9223372036854775807)).bind fun _ => k (bB s ++ (v22 ++ v20))) = k (bB (s ++ hexN (d + 1) n.toNat)) := by
  have hp : 16 ^ (d + 1) ≤ 16 ^ 7 := Nat.pow_le_pow_right (by decide) (by omega)
  rw [pow7] at hp
  rw [fmt_eq h0 (by omega)]
  simp only [Option.bind_some]
  obtain ⟨p1, p2⟩ := xx9 hn h6
  have hw : wr (((d + 1 : Nat) : Int) - ((bB (hexF 6 n.toNat)).size : Int)) = ((d + 1 - (hexF 6 n.toNat).length : Nat) : Int) := by
    rw [xqd, wr_in (by omega) (by omega)]
    omega
  rw [hw, rep_eq (by omega)]
  simp only [Option.bind_some, bB_app, xqd, List.length_append, List.length_replicate]
  rw [ckT (by omega)]
  simp only [Option.bind_some]
  rw [ckT (by omega)]
  simp only [Option.bind_some]
  rw [p2]
theorem xc2 (o : Origin) : xdg o = some (bB (nameH o).1, (nameH o).2) := by
  unfold xdg
  obtain ⟨K, hK⟩ : ∃ K, big = K + 1 + 1 + 1 + 1 := ⟨999999999999999996, by rw [big_eq]⟩
  by_cases hl : 1 ≤ o.layer ∧ o.layer ≤ 15
  · have b0 : xmb o (bB [], 0) = some (.nx (bB ([] ++ hexN 1 o.layer.toNat), wr (0 + 1))) := by
      unfold xmb
      simp only
      rw [if_pos (show (0 : Int) < 3 by decide), if_pos trivial, if_neg (by omega), if_neg (by omega)]
      exact x5q (d := 0) (s := []) (by omega) (by simp) (by omega) (show o.layer.toNat < 16 by omega) (fun x => (some (.nx (x, wr (0 + 1))) : Option (St (ByteArray × Int) ((ByteArray) ⊕ (ByteArray × Bool)))))
    rw [hK, nb, xec, b0]
    simp only [Option.bind_some]
    rw [show wr (0 + 1) = 1 from rfl, xec]
    by_cases hi : 0 ≤ o.ino ∧ o.ino ≤ 65535
    · have b1 : xmb o (bB ([] ++ hexN 1 o.layer.toNat), 1) = some (.nx (bB (([] ++ hexN 1 o.layer.toNat) ++ hexN 4 o.ino.toNat), wr (1 + 1))) := by
        unfold xmb
        simp only
        rw [if_pos (show (1 : Int) < 3 by decide), if_neg (by decide), if_pos trivial, if_neg (by omega), if_neg (by omega)]
        exact x5q (d := 3) (s := [] ++ hexN 1 o.layer.toNat) (by omega) (by simp [x9e]) (by omega) (show o.ino.toNat < 65536 by omega) (fun x => (some (.nx (x, wr (1 + 1))) : Option (St (ByteArray × Int) ((ByteArray) ⊕ (ByteArray × Bool)))))
      rw [b1]
      simp only [Option.bind_some]
      rw [show wr (1 + 1) = 2 from rfl, xec]
      by_cases hg : 0 ≤ o.gen ∧ o.gen ≤ 268435455
      · have b2 : xmb o (bB (([] ++ hexN 1 o.layer.toNat) ++ hexN 4 o.ino.toNat), 2) = some (.nx (bB ((([] ++ hexN 1 o.layer.toNat) ++ hexN 4 o.ino.toNat) ++ hexN 7 o.gen.toNat), wr (2 + 1))) := by
          unfold xmb
          simp only
          rw [if_pos (show (2 : Int) < 3 by decide), if_neg (by decide), if_neg (by decide), ckT trivial]
          simp only [Option.bind_some]
          rw [if_neg (by omega), if_neg (by omega)]
          exact x5q (d := 6) (s := ([] ++ hexN 1 o.layer.toNat) ++ hexN 4 o.ino.toNat) (by omega) (by simp [x9e]) (by omega) (show o.gen.toNat < 268435456 by omega) (fun x => (some (.nx (x, wr (2 + 1))) : Option (St (ByteArray × Int) ((ByteArray) ⊕ (ByteArray × Bool)))))
        rw [b2]
        simp only [Option.bind_some]
        rw [show wr (2 + 1) = 3 from rfl, xec]
        have b3 : ∀ s, xmb o (bB s, 3) = some (.out (.inl (bB s))) := by
          intro s
          unfold xmb
          simp only
          rw [if_neg (by decide)]
        rw [b3]
        simp only [Option.bind_some]
        unfold nameH
        rw [if_pos (show HdP o from ⟨hl.1, hl.2, hi.1, hi.2, hg.1, hg.2⟩)]
        simp [hname]
      · have b2 : ∀ s, xmb o (bB s, 2) = some (.out (.inr (xq, false))) := by
          intro s
          unfold xmb
          simp only
          rw [if_pos (show (2 : Int) < 3 by decide), if_neg (by decide), if_neg (by decide), ckT trivial]
          simp only [Option.bind_some]
          by_cases h1 : o.gen < 0
          · rw [if_pos h1]
          · rw [if_neg h1, if_pos (by omega)]
        rw [b2]
        unfold nameH
        rw [if_neg (fun h => hg ⟨h.2.2.2.2.1, h.2.2.2.2.2⟩)]
        rfl
    · have b1 : ∀ s, xmb o (bB s, 1) = some (.out (.inr (xq, false))) := by
        intro s
        unfold xmb
        simp only
        rw [if_pos (show (1 : Int) < 3 by decide), if_neg (by decide), if_pos trivial]
        by_cases h1 : o.ino < 0
        · rw [if_pos h1]
        · rw [if_neg h1, if_pos (by omega)]
      rw [b1]
      unfold nameH
      rw [if_neg (fun h => hi ⟨h.2.2.1, h.2.2.2.1⟩)]
      rfl
  · have b0 : xmb o (bB [], 0) = some (.out (.inr (xq, false))) := by
      unfold xmb
      simp only
      rw [if_pos (show (0 : Int) < 3 by decide), if_pos trivial]
      by_cases h1 : o.layer < 1
      · rw [if_pos h1]
      · rw [if_neg h1, if_pos (by omega)]
    rw [hK, nb, xec, b0]
    unfold nameH
    rw [if_neg (fun h => hl ⟨h.1, h.2.1⟩)]
    rfl
theorem xtx {n : Nat} (h : n < 16) : xbe (n : Int) = some (bB [hexD n]) := by
  have key : ∀ k : Fin 16, xbe (k.val : Int) = some (bB [hexD k.val]) := by decide +kernel
  exact key ⟨n, h⟩
theorem hex_eq {n d : Nat} (hd : d ≤ 100) (hn : n < 4611686018427387904) : xef (n : Int) (d : Int) = some (bB (hexN d n)) := by
  unfold xef
  have hB : ∀ (m : Int) (s : ByteArray) (k : Int), xih (d : Int) (m, s, k) = if k < (d : Int) then (xbe (m.tmod 16)).bind fun v10 => (ck (v10.size + s.size ≤ 9223372036854775807)).bind fun _ => some (.nx ((wr (m.tdiv 16)), (v10 ++ s), (wr (k + 1)))) else some (.out s) := fun _ _ _ => rfl
  have key : ∀ (e k m : Nat) (s : List UInt8) (f : Nat), k + e = d → m < 4611686018427387904 → s.length = k → e < f → iter (xih (d : Int)) f ((m : Int), bB s, (k : Int)) = some (bB (hexN e m ++ s)) := by
    intro e
    induction e with
    | zero =>
      intro k m s f hk hm hs hf
      obtain ⟨g, rfl⟩ : ∃ g, f = g + 1 := ⟨f - 1, by omega⟩
      rw [xec, hB, if_neg (by omega)]
      rfl
    | succ e ih =>
      intro k m s f hk hm hs hf
      obtain ⟨g, rfl⟩ : ∃ g, f = g + 1 := ⟨f - 1, by omega⟩
      have e1 : (m : Int).tmod 16 = ((m % 16 : Nat) : Int) := (Int.ofNat_tmod m 16).symm
      have e2 : wr ((m : Int).tdiv 16) = ((m / 16 : Nat) : Int) := by
        rw [show (m : Int).tdiv 16 = ((m / 16 : Nat) : Int) from (Int.ofNat_tdiv m 16).symm, wr_in (by omega) (by omega)]
      rw [xec, hB, if_pos (by omega), e1, xtx (by omega), e2, wr_suc (by omega)]
      simp only [Option.bind_some, bB_app, xqd, List.length_cons, List.length_nil]
      rw [ckT (by omega)]
      simp only [Option.bind_some]
      rw [ih (k + 1) (m / 16) ([hexD (m % 16)] ++ s) g (by omega) (by omega) (by simp; omega) (by omega)]
      conv => rhs; unfold hexN
      simp
  have := key d 0 n [] big (by omega) hn rfl (by rw [big_eq]; omega)
  rw [nb, show (0 : Int) = ((0 : Nat) : Int) from rfl, this]
  simp
theorem x60 (o : Origin) : xah o = some (bB (nameH o).1, (nameH o).2) := by
  unfold xah nameH
  by_cases h : HdP o
  · obtain ⟨h1, h2, h3, h4, h5, h6⟩ := id h
    rw [if_pos h, if_neg (by omega), if_neg (by omega), if_neg (by omega), if_neg (by omega), if_neg (by omega), if_neg (by omega)]
    have e1 := hex_eq (n := o.layer.toNat) (d := 1) (by omega) (by omega)
    have e2 := hex_eq (n := o.ino.toNat) (d := 4) (by omega) (by omega)
    have e3 := hex_eq (n := o.gen.toNat) (d := 7) (by omega) (by omega)
    rw [Int.toNat_of_nonneg (by omega)] at e1 e2 e3
    rw [show (1 : Int) = ((1 : Nat) : Int) from rfl, show (4 : Int) = ((4 : Nat) : Int) from rfl, show (7 : Int) = ((7 : Nat) : Int) from rfl, e1, e2, e3]
    simp only [Option.bind_some, bB_app, xqd, List.length_append, x9e]
    rw [ckT (by omega)]
    simp only [Option.bind_some]
    rw [ckT (by omega)]
    simp [hname]
  · rw [if_neg h]
    split
    · rfl
    · split
      · rfl
      · split
        · rfl
        · split
          · rfl
          · split
            · rfl
            · split
              · rfl
              · exact absurd (show HdP o from ⟨by omega, by omega, by omega, by omega, by omega, by omega⟩) h
end Go.Proofs.YtefdlpandfhcgaaGreatDoor.AL

/- Plain laws of chapter 15: the handle of a name. -/
set_option linter.all false
namespace Go.Proofs.YtefdlpandfhcgaaGreatDoor.AL
open Go Go.Proofs Go.Lib
def zeroO : Origin := ⟨0, 0, 0⟩
def readO (s : List UInt8) : Origin := ⟨((parse16 0 (s.take 1)).getD 0 : Nat), ((parse16 0 ((s.drop 1).take 4)).getD 0 : Nat), ((parse16 0 (s.drop 5)).getD 0 : Nat)⟩
def parseH (s : List UInt8) : Origin × Bool := if HdP (readO s) ∧ hname (readO s) = s then (readO s, true) else (zeroO, false)
theorem xc0 {o : Origin} (h : HdP o) : readO (hname o) = o := by
  obtain ⟨a1, a2, a3⟩ := xpl o
  obtain ⟨h1, h2, h3, h4, h5, h6⟩ := h
  unfold readO
  rw [a1, a2, a3, xre 1 _ (show _ < 16 by omega), xre 4 _ (show _ < 65536 by omega), xre 7 _ (show _ < 268435456 by omega)]
  obtain ⟨l, i, g⟩ := o
  simp only [Option.getD_some, Origin.mk.injEq] at *
  omega
theorem xcq {o : Origin} (h : HdP o) : parseH (hname o) = (o, true) := by
  unfold parseH
  rw [xc0 h, if_pos ⟨h, rfl⟩]
theorem x5v (s : List UInt8) : parseH s = (zeroO, false) ∨ ∃ o, HdP o ∧ s = hname o ∧ parseH s = (o, true) := by
  unfold parseH
  split
  · rename_i h
    exact .inr ⟨_, h.1, h.2.symm, rfl⟩
  · exact .inl rfl
theorem xxc {s : List UInt8} (h : ∀ o, HdP o → s ≠ hname o) : parseH s = (zeroO, false) := by
  rcases x5v s with e | ⟨o, ho, e, _⟩
  · exact e
  · exact absurd e (h o ho)
theorem xaj {o : Origin} (h : HdP o) : parse16 0 ((hname o).take 1) = some o.layer.toNat ∧ parse16 0 (((hname o).drop 1).take 4) = some o.ino.toNat ∧ parse16 0 ((((hname o).drop 1).drop 4).take 7) = some o.gen.toNat := by
  obtain ⟨a1, a2, a3⟩ := xpl o
  obtain ⟨h1, h2, h3, h4, h5, h6⟩ := h
  refine ⟨?_, ?_, ?_⟩
  · rw [a1]; exact xre 1 _ (show _ < 16 by omega)
  · rw [a2]; exact xre 4 _ (show _ < 65536 by omega)
  · rw [List.drop_drop, a3, List.take_of_length_le (by rw [x9e]; omega)]
    exact xre 7 _ (show _ < 268435456 by omega)
theorem x1q {r : List UInt8} {d : Nat} (h1 : 1 ≤ d) (h7 : d ≤ 7) {β : Type} (bad : Option β) (k : Int → ByteArray → Option β) :
    (if ((bB r).size : Int) < (d : Int) then bad else (strM (bB r) none (some (d : Int))).bind fun v21 => (xjc v21 16 32).bind fun v24 => if v24.2 = true then bad else (strM (bB r) (some (d : Int)) none).bind fun v30 => k (IntKind.i64.wrap v24.1) v30) =
    if r.length < d then bad else match parse16 0 (r.take d) with
      | none => bad
      | some n => k (n : Int) (bB (r.drop d)) := by
  by_cases hl : r.length < d
  · rw [if_pos (by rw [xqd]; omega), if_pos hl]
  · rw [if_neg (by rw [xqd]; omega), if_neg hl]
    have s1 : strM (bB r) none (some (d : Int)) = some (bB (r.take d)) := by
      have := x1j (l := r) (lo := none) (hi := some (d : Int)) (i := 0) (j := d) rfl rfl (by omega) (by omega)
      rw [this]
      simp
    have s2 : strM (bB r) (some (d : Int)) none = some (bB (r.drop d)) := by
      have := x1j (l := r) (lo := some (d : Int)) (hi := none) (i := d) (j := r.length) rfl (by simp [xqd]) (by omega) (by omega)
      rw [this, List.take_length]
    rw [s1, s2]
    simp only [Option.bind_some]
    have ht : (r.take d).length = d := by rw [List.length_take]; omega
    unfold xjc
    rw [ckT ⟨by rw [xqd]; omega, by rw [xqd]; omega, rfl, rfl⟩]
    simp only [Option.bind_some]
    rw [show (bB (r.take d)).data.toList = r.take d from rfl]
    cases hp : parse16 0 (r.take d) with
    | none => simp
    | some n =>
      have hn := x2r _ _ _ hp
      rw [ht] at hn
      have hpw : 16 ^ d ≤ 16 ^ 7 := Nat.pow_le_pow_right (by decide) h7
      rw [pow7] at hpw
      have hw : IntKind.i64.wrap (n : Int) = n := wr_in (by omega) (by omega)
      simp only [Bool.false_eq_true, if_false]
      rw [hw]
abbrev PRes := (Ar3_Int) ⊕ (Origin × Bool)
abbrev PSt := ByteArray × Int × Ar3_Int
def badP : Option (St PSt PRes) := some (.out (.inr ((⟨0, 0, 0⟩ : Origin), false)))
theorem pstep0 (r : List UInt8) (x : Ar3_Int) : xed (bB r, 0, x) = if r.length < 1 then badP else match parse16 0 (r.take 1) with
    | none => badP
    | some n => some (.nx (bB (r.drop 1), 1, ({ x with c0 := n } : Ar3_Int))) := by
  rw [← x1q (r := r) (d := 1) (by omega) (by omega) badP (fun n v => some (.nx (v, 1, ({ x with c0 := n } : Ar3_Int))))]
  rfl
theorem pstep1 (r : List UInt8) (x : Ar3_Int) : xed (bB r, 1, x) = if r.length < 4 then badP else match parse16 0 (r.take 4) with
    | none => badP
    | some n => some (.nx (bB (r.drop 4), 2, ({ x with c1 := n } : Ar3_Int))) := by
  rw [← x1q (r := r) (d := 4) (by omega) (by omega) badP (fun n v => some (.nx (v, 2, ({ x with c1 := n } : Ar3_Int))))]
  rfl
theorem pstep2 (r : List UInt8) (x : Ar3_Int) : xed (bB r, 2, x) = if r.length < 7 then badP else match parse16 0 (r.take 7) with
    | none => badP
    | some n => some (.nx (bB (r.drop 7), 3, ({ x with c2 := n } : Ar3_Int))) := by
  rw [← x1q (r := r) (d := 7) (by omega) (by omega) badP (fun n v => some (.nx (v, 3, ({ x with c2 := n } : Ar3_Int))))]
  rfl
theorem pstep3 (r : ByteArray) (x : Ar3_Int) : xed (r, 3, x) = some (.out (.inl x)) := rfl
theorem x9x (s : List UInt8) : xtd (bB s) = some (parseH s) := by
  unfold xtd
  obtain ⟨K, hK⟩ : ∃ K, big = K + 1 + 1 + 1 + 1 := ⟨999999999999999996, by rw [big_eq]⟩
  rw [hK, xec, pstep0]
  by_cases l1 : s.length < 1
  · rw [if_pos l1, xxc (fun o ho e => by have := xel o; rw [← e] at this; omega)]
    rfl
  rw [if_neg l1]
  cases p1 : parse16 0 (s.take 1) with
  | none =>
    rw [xxc (fun o ho e => by have := (xaj ho).1; rw [← e, p1] at this; cases this)]
    rfl
  | some n1 =>
    simp only [Option.bind_some]
    rw [xec, pstep1]
    by_cases l2 : (s.drop 1).length < 4
    · rw [if_pos l2, xxc (fun o ho e => by have := xel o; rw [← e] at this; rw [List.length_drop] at l2; omega)]
      rfl
    rw [if_neg l2]
    cases p2 : parse16 0 ((s.drop 1).take 4) with
    | none =>
      rw [xxc (fun o ho e => by have := (xaj ho).2.1; rw [← e, p2] at this; cases this)]
      rfl
    | some n2 =>
      simp only [Option.bind_some]
      rw [xec, pstep2]
      by_cases l3 : ((s.drop 1).drop 4).length < 7
      · rw [if_pos l3, xxc (fun o ho e => by have := xel o; rw [← e] at this; rw [List.length_drop, List.length_drop] at l3; omega)]
        rfl
      rw [if_neg l3]
      cases p3 : parse16 0 (((s.drop 1).drop 4).take 7) with
      | none =>
        rw [xxc (fun o ho e => by have := (xaj ho).2.2; rw [← e, p3] at this; cases this)]
        rfl
      | some n3 =>
        simp only [Option.bind_some]
        rw [xec, pstep3]
        simp only [Option.bind_some]
        rw [xc2]
        simp only [Option.bind_some, nameH]
        have hone : ∀ o, HdP o → s = hname o → o = ⟨(n1 : Int), (n2 : Int), (n3 : Int)⟩ := by
          intro o ho e
          obtain ⟨q1, q2, q3⟩ := xaj ho
          rw [← e] at q1 q2 q3
          rw [p1] at q1; rw [p2] at q2; rw [p3] at q3
          have q1 := Option.some.inj q1; have q2 := Option.some.inj q2; have q3 := Option.some.inj q3
          obtain ⟨h1, h2, h3, h4, h5, h6⟩ := ho
          obtain ⟨l, i, g⟩ := o
          simp only [Origin.mk.injEq] at *
          omega
        by_cases hd : HdP ⟨(n1 : Int), (n2 : Int), (n3 : Int)⟩
        · rw [if_pos hd]
          simp only [Bool.not_true, Bool.false_eq_true, if_false, xft]
          by_cases he : hname ⟨(n1 : Int), (n2 : Int), (n3 : Int)⟩ = s
          · rw [if_pos he, ← he, xcq hd]
          · rw [if_neg he, xxc (fun o ho e => he (by rw [← hone o ho e]; exact e.symm))]
            rfl
        · rw [if_neg hd, xxc (fun o ho e => hd (by rw [← hone o ho e]; exact ho))]
          rfl
theorem xvx {α : Type} (g : α → Nat → α) (k : Nat) (a : α) : ∀ m, (List.range m).foldl (fun a d => if k = d then g a d else a) a = if k < m then g a k else a
  | 0 => rfl
  | m + 1 => by
    rw [List.range_succ, List.foldl_append, xvx g k a m]
    simp only [List.foldl_cons, List.foldl_nil]
    by_cases h : k < m
    · rw [if_pos h, if_neg (by omega), if_pos (by omega)]
    · rw [if_neg h]
      by_cases h2 : k = m
      · subst h2; rw [if_pos rfl, if_pos (by omega)]
      · rw [if_neg h2, if_neg (by omega)]
def stepN (n : Int) (c : UInt8) : Int := (List.range 16).foldl (fun n d => if [c] = [hexD d] then wr (wr (n * 16) + (d : Int)) else n) n
def numN (l : List UInt8) : Int := l.foldl stepN 0
theorem x95 {a b : Nat} (ha : a < 16) (hb : b < 16) (h : hexD a = hexD b) : a = b := by
  have h1 := xlm ha
  rw [h, xlm hb] at h1
  exact (Option.some.inj h1).symm
theorem x43 {n k : Nat} (hk : k < 16) (hn : n < 268435456) : stepN (n : Int) (hexD k) = ((n * 16 + k : Nat) : Int) := by
  unfold stepN
  have e : (List.range 16).foldl (fun (n : Int) d => if [hexD k] = [hexD d] then wr (wr (n * 16) + (d : Int)) else n) (n : Int) = (List.range 16).foldl (fun (n : Int) d => if k = d then wr (wr (n * 16) + (d : Int)) else n) (n : Int) := by
    have : ∀ (l : List Nat), (∀ d ∈ l, d < 16) → ∀ a : Int, l.foldl (fun (n : Int) d => if [hexD k] = [hexD d] then wr (wr (n * 16) + (d : Int)) else n) a = l.foldl (fun (n : Int) d => if k = d then wr (wr (n * 16) + (d : Int)) else n) a := by
      intro l
      induction l with
      | nil => intro _ a; rfl
      | cons d l ih =>
        intro h a
        have hd := h d (by simp)
        simp only [List.foldl_cons]
        by_cases hkd : k = d
        · subst hkd
          rw [if_pos rfl, if_pos rfl]
          exact ih (fun x hx => h x (by simp [hx])) _
        · rw [if_neg (fun he => hkd (x95 hk hd (List.cons.inj he).1)), if_neg hkd]
          exact ih (fun x hx => h x (by simp [hx])) _
    exact this _ (fun d hd => List.mem_range.1 hd) _
  rw [e, xvx (fun n d => wr (wr (n * 16) + (d : Int))) k (n : Int) 16, if_pos hk]
  have h1 : wr ((n : Int) * 16) = (n : Int) * 16 := wr_in (by omega) (by omega)
  rw [h1, wr_in (by omega) (by omega)]
  omega
theorem xom : ∀ (d n : Nat), d ≤ 7 → n < 16 ^ d → numN (hexN d n) = (n : Int)
  | 0, n, _, h => by
    have : n = 0 := by simpa using h
    subst this
    rfl
  | d + 1, n, hd, h => by
    have h2 : n / 16 < 16 ^ d := by rw [Nat.pow_succ] at h; exact Nat.div_lt_of_lt_mul (by rw [Nat.mul_comm]; exact h)
    have hp : 16 ^ d ≤ 16 ^ 7 := Nat.pow_le_pow_right (by decide) (by omega)
    rw [pow7] at hp
    have ih := xom d (n / 16) (by omega) h2
    unfold numN at ih ⊢
    unfold hexN
    rw [List.foldl_append, ih]
    simp only [List.foldl_cons, List.foldl_nil]
    rw [x43 (by omega) (by omega)]
    congr 1
    omega
theorem xg2 {l : List UInt8} {i : Nat} (hi : i < l.length) (hl : l.length ≤ 1000) (n : Int) : iter (xcd (bB l) (i : Int)) big (n, 0) = some (stepN n l[i]) := by
  have hs : strM (bB l) (some (i : Int)) (some (wr ((i : Int) + 1))) = some (bB [l[i]]) := by
    rw [wr_suc (by omega)]
    have := x1j (l := l) (lo := some (i : Int)) (hi := some ((i + 1 : Nat) : Int)) (i := i) (j := i + 1) rfl rfl (by omega) (by omega)
    rw [this]
    congr 2
    rw [List.take_add_one, List.drop_append_of_le_length (by rw [List.length_take]; omega), List.drop_eq_nil_of_le (by rw [List.length_take]; omega)]
    simp [List.getElem?_eq_getElem hi]
  have := xxf (B := xcd (bB l) (i : Int)) (fun k (s : Int) => (s, (k : Int))) (List.range 16) (fun n d => if [l[i]] = [hexD d] then wr (wr (n * 16) + (d : Int)) else n) (fun s => s) (fun _ _ => True) (by
    intro k s hk _
    have hk16 : k < 16 := by simpa using hk
    refine ⟨?_, trivial⟩
    simp only [xcd, List.getElem_range]
    rw [if_pos (by omega), hs, xtx hk16, wr_suc (by omega)]
    simp only [Option.bind_some, xft]
    by_cases he : [l[i]] = [hexD k]
    · rw [if_pos he, if_pos he]
    · rw [if_neg he, if_neg he]) (by
    intro s _
    simp only [xcd, List.length_range]
    rw [if_neg (by decide)]) (s0 := n) trivial (fuel := big) (by rw [big_eq]; simp)
  rw [show (0 : Int) = ((0 : Nat) : Int) from rfl, this.1]
  rfl
theorem xho {l : List UInt8} (hl : l.length ≤ 1000) : xrd (bB l) = some (numN l) := by
  unfold xrd
  have := xxf (B := xfe (bB l)) (fun k (s : Int) => (s, (k : Int))) l stepN (fun s => s) (fun _ _ => True) (by
    intro k s hk _
    refine ⟨?_, trivial⟩
    simp only [xfe]
    rw [if_pos (by rw [xqd]; omega), xg2 hk hl, wr_suc (by omega)]
    rfl) (by
    intro s _
    simp only [xfe]
    rw [if_neg (by rw [xqd]; omega)]) (s0 := 0) trivial (fuel := big) (by rw [big_eq]; omega)
  rw [show ((0 : Nat) : Int) = 0 from rfl] at this
  rw [this.1]
  rfl
theorem x5w (s : List UInt8) : xfg (bB s) = some (parseH s) := by
  unfold xfg
  by_cases h12 : s.length = 12
  · rw [if_pos (by rw [xqd]; omega)]
    have s1 : strM (bB s) none (some 1) = some (bB (s.take 1)) := by
      have := x1j (l := s) (lo := none) (hi := some ((1 : Nat) : Int)) (i := 0) (j := 1) rfl rfl (by omega) (by omega)
      rw [show (1 : Int) = ((1 : Nat) : Int) from rfl, this]
      simp
    have s2 : strM (bB s) (some 1) (some 5) = some (bB ((s.drop 1).take 4)) := by
      have := x1j (l := s) (lo := some ((1 : Nat) : Int)) (hi := some ((5 : Nat) : Int)) (i := 1) (j := 5) rfl rfl (by omega) (by omega)
      rw [show (1 : Int) = ((1 : Nat) : Int) from rfl, show (5 : Int) = ((5 : Nat) : Int) from rfl, this, List.drop_take]
    have s3 : strM (bB s) (some 5) none = some (bB (s.drop 5)) := by
      have := x1j (l := s) (lo := some ((5 : Nat) : Int)) (hi := none) (i := 5) (j := s.length) rfl (by simp [xqd]) (by omega) (by omega)
      rw [show (5 : Int) = ((5 : Nat) : Int) from rfl, this, List.take_length]
    rw [s1, s2, s3]
    simp only [Option.bind_some]
    rw [xho (by rw [List.length_take]; omega), xho (by rw [List.length_take, List.length_drop]; omega), xho (by rw [List.length_drop]; omega)]
    simp only [Option.bind_some]
    rw [x60]
    simp only [Option.bind_some, nameH]
    have hone : ∀ o, HdP o → s = hname o → o = ⟨numN (s.take 1), numN ((s.drop 1).take 4), numN (s.drop 5)⟩ := by
      intro o ho e
      obtain ⟨a1, a2, a3⟩ := xpl o
      obtain ⟨h1, h2, h3, h4, h5, h6⟩ := ho
      rw [e, a1, a2, a3, xom 1 _ (by omega) (show _ < 16 by omega), xom 4 _ (by omega) (show _ < 65536 by omega), xom 7 _ (by omega) (show _ < 268435456 by omega)]
      obtain ⟨l, i, g⟩ := o
      simp only [Origin.mk.injEq] at *
      omega
    by_cases hd : HdP ⟨numN (s.take 1), numN ((s.drop 1).take 4), numN (s.drop 5)⟩
    · rw [if_pos hd]
      simp only [Bool.not_true, Bool.false_eq_true, if_false, xft]
      by_cases he : hname ⟨numN (s.take 1), numN ((s.drop 1).take 4), numN (s.drop 5)⟩ = s
      · rw [if_pos he]
        have := xcq hd
        rw [he] at this
        rw [this]
      · rw [if_neg he, xxc (fun o ho e => he (by rw [← hone o ho e]; exact e.symm))]
        rfl
    · rw [if_neg hd, xxc (fun o ho e => hd (by rw [← hone o ho e]; exact ho))]
      rfl
  · rw [if_neg (by rw [xqd]; omega), xxc (fun o ho e => h12 (by rw [e]; exact xel o))]
    rfl
end Go.Proofs.YtefdlpandfhcgaaGreatDoor.AL

/- Models of functions, and that the functions are as their models: written by gen.py. -/
set_option linter.all false
set_option maxRecDepth 100000
namespace Go.Proofs.YtefdlpandfhcgaaGreatDoor.AL
open Go Go.Proofs
def xpf (a0 : Int) : Option (Bool) := if 97 ≤ a0 then if a0 ≤ 122 then some true
 else if 48 ≤ a0 then if a0 ≤ 57 then some true
 else if a0 = 46 then some true
 else if a0 = 95 then some true
 else if a0 = 45 then some true
 else some false
 else if a0 = 46 then some true
 else if a0 = 95 then some true
 else if a0 = 45 then some true
 else some false
 else if 48 ≤ a0 then if a0 ≤ 57 then some true
 else if a0 = 46 then some true
 else if a0 = 95 then some true
 else if a0 = 45 then some true
 else some false
 else if a0 = 46 then some true
 else if a0 = 95 then some true
 else if a0 = 45 then some true
 else some false
def xkb := @EV
set_option maxHeartbeats 2000000 in
theorem xpr (a0 : Int) (r : Bool) (hm0 : xpf a0 = some r) : Ok Tryz.prog 64 [ik .u8 a0] (bool r) := by
 unfold xpf at hm0
 refine okG xns ?_
 unfold x4l
 rcases iteE hm0 with ⟨e2, hm0⟩ | ⟨e2, hm0⟩
 · rcases iteE hm0 with ⟨e4, hm0⟩ | ⟨e4, hm0⟩
   · obtain rfl := Option.some.inj hm0
     simp only [e2, e4, xkb, ↓EVd, isCall, sevalprocAttr]
     all_goals first | done | rfl
   rcases iteE hm0 with ⟨e6, hm0⟩ | ⟨e6, hm0⟩
   · rcases iteE hm0 with ⟨e8, hm0⟩ | ⟨e8, hm0⟩
     · obtain rfl := Option.some.inj hm0
       simp only [e2, e4, e6, e8, xkb, ↓EVd, isCall, sevalprocAttr]
       all_goals first | done | rfl
     rcases iteE hm0 with ⟨e10, hm0⟩ | ⟨e10, hm0⟩
     · obtain rfl := Option.some.inj hm0
       simp only [e2, e4, e6, e8, e10, xkb, ↓EVd, isCall, sevalprocAttr]
       all_goals first | done | rfl
     rcases iteE hm0 with ⟨e12, hm0⟩ | ⟨e12, hm0⟩
     · obtain rfl := Option.some.inj hm0
       simp only [e2, e4, e6, e8, e10, e12, xkb, ↓EVd, isCall, sevalprocAttr]
       all_goals first | done | rfl
     rcases iteE hm0 with ⟨e14, hm0⟩ | ⟨e14, hm0⟩
     · obtain rfl := Option.some.inj hm0
       simp only [e2, e4, e6, e8, e10, e12, e14, xkb, ↓EVd, isCall, sevalprocAttr]
       all_goals first | done | rfl
     obtain rfl := Option.some.inj hm0
     simp only [e2, e4, e6, e8, e10, e12, e14, xkb, ↓EVd, isCall, sevalprocAttr]
     all_goals first | done | rfl
   rcases iteE hm0 with ⟨e16, hm0⟩ | ⟨e16, hm0⟩
   · obtain rfl := Option.some.inj hm0
     simp only [e2, e4, e6, e16, xkb, ↓EVd, isCall, sevalprocAttr]
     all_goals first | done | rfl
   rcases iteE hm0 with ⟨e18, hm0⟩ | ⟨e18, hm0⟩
   · obtain rfl := Option.some.inj hm0
     simp only [e2, e4, e6, e16, e18, xkb, ↓EVd, isCall, sevalprocAttr]
     all_goals first | done | rfl
   rcases iteE hm0 with ⟨e20, hm0⟩ | ⟨e20, hm0⟩
   · obtain rfl := Option.some.inj hm0
     simp only [e2, e4, e6, e16, e18, e20, xkb, ↓EVd, isCall, sevalprocAttr]
     all_goals first | done | rfl
   obtain rfl := Option.some.inj hm0
   simp only [e2, e4, e6, e16, e18, e20, xkb, ↓EVd, isCall, sevalprocAttr]
   all_goals first | done | rfl
 rcases iteE hm0 with ⟨e22, hm0⟩ | ⟨e22, hm0⟩
 · rcases iteE hm0 with ⟨e24, hm0⟩ | ⟨e24, hm0⟩
   · obtain rfl := Option.some.inj hm0
     simp only [e2, e22, e24, xkb, ↓EVd, isCall, sevalprocAttr]
     all_goals first | done | rfl
   rcases iteE hm0 with ⟨e26, hm0⟩ | ⟨e26, hm0⟩
   · obtain rfl := Option.some.inj hm0
     simp only [e2, e22, e24, e26, xkb, ↓EVd, isCall, sevalprocAttr]
     all_goals first | done | rfl
   rcases iteE hm0 with ⟨e28, hm0⟩ | ⟨e28, hm0⟩
   · obtain rfl := Option.some.inj hm0
     simp only [e2, e22, e24, e26, e28, xkb, ↓EVd, isCall, sevalprocAttr]
     all_goals first | done | rfl
   rcases iteE hm0 with ⟨e30, hm0⟩ | ⟨e30, hm0⟩
   · obtain rfl := Option.some.inj hm0
     simp only [e2, e22, e24, e26, e28, e30, xkb, ↓EVd, isCall, sevalprocAttr]
     all_goals first | done | rfl
   obtain rfl := Option.some.inj hm0
   simp only [e2, e22, e24, e26, e28, e30, xkb, ↓EVd, isCall, sevalprocAttr]
   all_goals first | done | rfl
 rcases iteE hm0 with ⟨e32, hm0⟩ | ⟨e32, hm0⟩
 · obtain rfl := Option.some.inj hm0
   simp only [e2, e22, e32, xkb, ↓EVd, isCall, sevalprocAttr]
   all_goals first | done | rfl
 rcases iteE hm0 with ⟨e34, hm0⟩ | ⟨e34, hm0⟩
 · obtain rfl := Option.some.inj hm0
   simp only [e2, e22, e32, e34, xkb, ↓EVd, isCall, sevalprocAttr]
   all_goals first | done | rfl
 rcases iteE hm0 with ⟨e36, hm0⟩ | ⟨e36, hm0⟩
 · obtain rfl := Option.some.inj hm0
   simp only [e2, e22, e32, e34, e36, xkb, ↓EVd, isCall, sevalprocAttr]
   all_goals first | done | rfl
 obtain rfl := Option.some.inj hm0
 simp only [e2, e22, e32, e34, e36, xkb, ↓EVd, isCall, sevalprocAttr]
 all_goals first | done | rfl
def x8f (a0 : ByteArray) : Int → Option (St (Int) ((Unit) ⊕ (Bool)))
 | v10 => if v10 < (a0.size : Int) then (ixB a0 v10).bind fun v14 => (xpf (v14.toNat : Int)).bind fun v17 => if (!v17) = true then some (.out (.inr false))
 else some (.nx (wr (v10 + 1)))
 else some (.out (.inl ()))
def xag (a0 : ByteArray) : Option (Bool) := if (a0.size : Int) < 1 then some false
 else if 12 < (a0.size : Int) then some false
 else if a0 = (ByteArray.mk #[46]) then some false
 else if a0 = (ByteArray.mk #[46, 46]) then some false
 else (iter (x8f a0) big 0).bind fun o => (match o with
 | (.inl _) => some true
 | (.inr r) => some r)
def xbc := aI (@EV) (aI (@R3) (@R9))
set_option maxHeartbeats 2000000 in
theorem x6t (a0 : ByteArray) (r : Bool) (hm0 : xag a0 = some r) : Ok Tryz.prog 54 [str a0] (bool r) := by
 unfold xag at hm0
 refine okG xws ?_
 unfold x7m
 rcases iteE hm0 with ⟨e2, hm0⟩ | ⟨e2, hm0⟩
 · obtain rfl := Option.some.inj hm0
   simp only [e2, xbc, ↓EVd, isCall, sevalprocAttr]
   all_goals first | done | rfl
 rcases iteE hm0 with ⟨e4, hm0⟩ | ⟨e4, hm0⟩
 · obtain rfl := Option.some.inj hm0
   simp only [e2, e4, xbc, ↓EVd, isCall, sevalprocAttr]
   all_goals first | done | rfl
 rcases iteE hm0 with ⟨e6, hm0⟩ | ⟨e6, hm0⟩
 · obtain rfl := Option.some.inj hm0
   simp only [e2, e4, e6, xbc, ↓EVd, isCall, sevalprocAttr]
   all_goals first | done | rfl
 rcases iteE hm0 with ⟨e8, hm0⟩ | ⟨e8, hm0⟩
 · obtain rfl := Option.some.inj hm0
   simp only [e2, e4, e6, e8, xbc, ↓EVd, isCall, sevalprocAttr]
   all_goals first | done | rfl
 obtain ⟨o0, ho0, hm0⟩ := bsE hm0
 simp only [e2, e4, e6, e8, xbc, ↓EVd, isCall, sevalprocAttr]
 refine cwp_cx 0 (fun s => (.inl ()) = o0) ?_ fun J0_0 hJ0_0 => ?_
 · rintro T0 H0 x11 rfl
   try dsimp only at hm0
   obtain rfl := Option.some.inj hm0
   simp only [e2, e4, e6, e8, xbc, ↓EVd, isCall, sevalprocAttr]
   all_goals first | done | rfl
 refine cwp_lp ho0 (fun v10 s => s.T 0 = str a0 ∧ s.T 3 = int v10) ?_ ?_
 · refine TI.here ⟨?_, ?_⟩
   all_goals try simp only [e2, e4, e6, e8, xbc, ↓EVd, isCall, sevalprocAttr]
   all_goals first | omega | exact lq (by omega) | exact nq (by omega) | rfl | (congr 1; omega)
 rintro I0 v10 T0 H0 x9 st0 kk0 hm1 hI0 hO0
 dsimp only [Lq, Nq] at kk0
 simp only [x8f] at hm1
 rcases iteE hm1 with ⟨e13, hm1⟩ | ⟨e13, hm1⟩
 · obtain ⟨v14, e16, hm1⟩ := ixBE hm1
   obtain ⟨v17, h18, hm1⟩ := bsE hm1
   simp only [kk0, e2, e4, e6, e8, e13, e16, xbc, ↓EVd, isCall, sevalprocAttr]
   refine qc (xpr _ _ h18) rfl ?_
   rcases itbE hm1 with ⟨e20, hm1⟩ | ⟨e20, hm1⟩
   · obtain rfl := Option.some.inj hm1
     obtain rfl := hO0 _ rfl
     try dsimp only at hm0
     obtain rfl := Option.some.inj hm0
     simp only [kk0, e2, e4, e6, e8, e13, e16, e20, xbc, ↓EVd, isCall, sevalprocAttr]
     all_goals first | done | rfl
   obtain rfl := Option.some.inj hm1
   simp only [kk0, e2, e4, e6, e8, e13, e16, e20, xbc, ↓EVd, isCall, sevalprocAttr]
   refine TI.here (hI0 _ rfl _ ⟨?_, ?_⟩)
   all_goals try simp only [kk0, e2, e4, e6, e8, e13, e16, e20, xbc, ↓EVd, isCall, sevalprocAttr]
   all_goals first | omega | exact lq (by omega) | exact nq (by omega) | rfl | (congr 1; omega)
 obtain rfl := Option.some.inj hm1
 simp only [kk0, e2, e4, e6, e8, e13, xbc, ↓EVd, isCall, sevalprocAttr]
 refine TI.here (hJ0_0 _ (hO0 _ rfl))
end Go.Proofs.YtefdlpandfhcgaaGreatDoor.AL

/- Models of functions, and that the functions are as their models: written by gen.py. -/
set_option linter.all false
set_option maxRecDepth 100000
namespace Go.Proofs.YtefdlpandfhcgaaGreatDoor.AL
open Go Go.Proofs
def x7c (a0 : Branch) (a1 : Int) : Option (Node) := if a1 < 1 then some (⟨0, 0, 0, 0, [], [], (⟨0, 0, xq, (⟨0, 0, 0⟩ : Origin), 0⟩ : Attr)⟩ : Node)
 else if (a0.nodes.length : Int) < a1 then some (⟨0, 0, 0, 0, [], [], (⟨0, 0, xq, (⟨0, 0, 0⟩ : Origin), 0⟩ : Attr)⟩ : Node)
 else (ix a0.nodes (wr (a1 - 1))).bind fun v5 => some v5
def xhm := aI (aI (aI (@EV) (@R3)) (aI (@R24) (aI (@R26) (@R52)))) (aI (aI (@DBranch) (@DEntry)) (aI (@DOrigin) (aI (@DAttr) (@DNode))))
set_option maxHeartbeats 2000000 in
theorem x6e (a0 : Branch) (a1 : Int) (r : Node) (hm0 : x7c a0 a1 = some r) : Ok Tryz.prog 23 [xp a0, int a1] (xj r) := by
 unfold x7c at hm0
 refine okG xmy ?_
 unfold x1r
 rcases iteE hm0 with ⟨e2, hm0⟩ | ⟨e2, hm0⟩
 · obtain rfl := Option.some.inj hm0
   simp only [e2, xhm, ↓EVd, isCall, sevalprocAttr]
   all_goals first | done | rfl | exact xc (by simp only [CLO]) | exact xn (by simp only [CLO]) (Sub.agg (Subs.cons (Sub.refl _) (Subs.cons (Sub.refl _) (Subs.cons (Sub.refl _) (Subs.cons (Sub.refl _) (Subs.cons (Sub.nilS _) (Subs.cons (Sub.nilS _) (Subs.cons (Sub.refl _) (Subs.cons (Sub.refl _) (Subs.cons (Sub.refl _) (Subs.cons (Sub.refl _) (Subs.cons (Sub.refl _) (Subs.cons (Sub.refl _) (Subs.cons (Sub.refl _) (Subs.nil)))))))))))))))
 rcases iteE hm0 with ⟨e4, hm0⟩ | ⟨e4, hm0⟩
 · obtain rfl := Option.some.inj hm0
   simp only [e2, e4, xhm, ↓EVd, isCall, sevalprocAttr]
   all_goals first | done | rfl | exact xc (by simp only [CLO]) | exact xn (by simp only [CLO]) (Sub.agg (Subs.cons (Sub.refl _) (Subs.cons (Sub.refl _) (Subs.cons (Sub.refl _) (Subs.cons (Sub.refl _) (Subs.cons (Sub.nilS _) (Subs.cons (Sub.nilS _) (Subs.cons (Sub.refl _) (Subs.cons (Sub.refl _) (Subs.cons (Sub.refl _) (Subs.cons (Sub.refl _) (Subs.cons (Sub.refl _) (Subs.cons (Sub.refl _) (Subs.cons (Sub.refl _) (Subs.nil)))))))))))))))
 obtain ⟨v5, e7, hm0⟩ := ixE xj hm0
 obtain rfl := Option.some.inj hm0
 simp only [e2, e4, e7, xhm, ↓EVd, isCall, sevalprocAttr]
 all_goals first | done | rfl | exact xc (by simp only [CLO])
def xue (a0 : List Way) (a1 : Int) : Int → Option (St (Int) ((Unit) ⊕ (Int)))
 | v2 => if v2 < (a0.length : Int) then (ix a0 v2).bind fun v6 => if v6.ino = a1 then some (.out (.inr v2))
 else some (.nx (wr (v2 + 1)))
 else some (.out (.inl ()))
def xye (a0 : List Way) (a1 : Int) : Option (Int) := (iter (xue a0 a1) big 0).bind fun o => (match o with
 | (.inl _) => some (-1)
 | (.inr r) => some r)
def xce := aI (aI (@EV) (@R3)) (aI (@R82) (aI (@R85) (@DWay)))
set_option maxHeartbeats 2000000 in
theorem x9l (a0 : List Way) (a1 : Int) (r : Int) (hm0 : xye a0 a1 = some r) : Ok Tryz.prog 63 [.sl 3 (a0.map encWay), int a1] (int r) := by
 unfold xye at hm0
 refine okG xzt ?_
 unfold xfn
 obtain ⟨o0, ho0, hm0⟩ := bsE hm0
 simp only [xce, ↓EVd, isCall, sevalprocAttr]
 refine cwp_cx 0 (fun s => (.inl ()) = o0) ?_ fun J0_0 hJ0_0 => ?_
 · rintro T0 H0 x3 rfl
   try dsimp only at hm0
   obtain rfl := Option.some.inj hm0
   simp only [xce, ↓EVd, isCall, sevalprocAttr]
   all_goals first | done | rfl
 refine cwp_lp ho0 (fun v2 s => s.T 0 = .sl 3 (a0.map encWay) ∧ s.T 1 = int a1 ∧ s.T 5 = int v2) ?_ ?_
 · refine TI.here ⟨?_, ?_, ?_⟩
   all_goals try simp only [xce, ↓EVd, isCall, sevalprocAttr]
   all_goals first | omega | exact lq (by omega) | exact nq (by omega) | rfl | (congr 1; omega)
 rintro I0 v2 T0 H0 x1 st0 kk0 hm1 hI0 hO0
 dsimp only [Lq, Nq] at kk0
 simp only [xue] at hm1
 rcases iteE hm1 with ⟨e5, hm1⟩ | ⟨e5, hm1⟩
 · obtain ⟨v6, e8, hm1⟩ := ixE encWay hm1
   rcases iteE hm1 with ⟨e10, hm1⟩ | ⟨e10, hm1⟩
   · obtain rfl := Option.some.inj hm1
     obtain rfl := hO0 _ rfl
     try dsimp only at hm0
     obtain rfl := Option.some.inj hm0
     simp only [kk0, e5, e8, e10, xce, ↓EVd, isCall, sevalprocAttr]
     all_goals first | done | rfl
   obtain rfl := Option.some.inj hm1
   simp only [kk0, e5, e8, e10, xce, ↓EVd, isCall, sevalprocAttr]
   refine TI.here (hI0 _ rfl _ ⟨?_, ?_, ?_⟩)
   all_goals try simp only [kk0, e5, e8, e10, xce, ↓EVd, isCall, sevalprocAttr]
   all_goals first | omega | exact lq (by omega) | exact nq (by omega) | rfl | (congr 1; omega)
 obtain rfl := Option.some.inj hm1
 simp only [kk0, e5, xce, ↓EVd, isCall, sevalprocAttr]
 refine TI.here (hJ0_0 _ (hO0 _ rfl))
def x8d (a0 : Branch) (v36 : Int) (v48 : Node) : (List Way × List Ar2_Int × Int) → Option (St (List Way × List Ar2_Int × Int) (List Way × List Ar2_Int))
 | (v52, v54, v55) => if v55 < (v48.entries.length : Int) then (ix v48.entries v55).bind fun v63 => (x7c a0 v63.ino).bind fun v66 => if v66.kind = 1 then (xye v52 v63.ino).bind fun v70 => if 0 ≤ v70 then (ix v52 v36).bind fun v74 => (ap 16 v54 ([(⟨v74.ino, v63.slot⟩ : Ar2_Int)] : List Ar2_Int)).bind fun _ => some (.nx (v52, (v54 ++ ([(⟨v74.ino, v63.slot⟩ : Ar2_Int)] : List Ar2_Int)), (wr (v55 + 1))))
 else (ap 32 v52 ([(⟨v63.ino, v36, v63.name⟩ : Way)] : List Way)).bind fun _ => some (.nx ((v52 ++ ([(⟨v63.ino, v36, v63.name⟩ : Way)] : List Way)), v54, (wr (v55 + 1))))
 else some (.nx (v52, v54, (wr (v55 + 1))))
 else some (.out (v52, v54))
def x5d (a0 : Branch) : (List Way × List Ar2_Int × Int) → Option (St (List Way × List Ar2_Int × Int) (List Way × List Ar2_Int × Int))
 | (v33, v35, v36) => if v36 < (v33.length : Int) then (ix v33 v36).bind fun v45 => (x7c a0 v45.ino).bind fun v48 => (iter (x8d a0 v36 v48) big (v33, v35, 0)).bind fun o => (match o with
 | (v58, v60) => some (.nx (v58, v60, (wr (v36 + 1)))))
 else some (.out (v33, v35, v36))
def x1e (a0 : Branch) (a1 : List Int) : (List Way × List Ar2_Int × Int × Int) → Option (St (List Way × List Ar2_Int × Int × Int) (List Way × List Ar2_Int))
 | (v3, v5, v6, v7) => if v7 < (a1.length : Int) then (ix a1 v7).bind fun v15 => (x7c a0 v15).bind fun v18 => if v18.kind = 1 then (xye v3 v15).bind fun v22 => if 0 ≤ v22 then some (.nx (v3, v5, v6, (wr (v7 + 1))))
 else (ap 32 v3 ([(⟨v15, (-1), xq⟩ : Way)] : List Way)).bind fun _ => (iter (x5d a0) big ((v3 ++ ([(⟨v15, (-1), xq⟩ : Way)] : List Way)), v5, v6)).bind fun o => (match o with
 | (v39, v41, v42) => some (.nx (v39, v41, v42, (wr (v7 + 1)))))
 else some (.nx (v3, v5, v6, (wr (v7 + 1))))
 else some (.out (v3, v5))
def xeh (a0 : Branch) (a1 : List Int) : Option (List Way × List Ar2_Int) := (iter (x1e a0 a1) big (([] : List Way), ([] : List Ar2_Int), 0, 0)).bind fun o => (match o with
 | (v10, v12) => some (v10, v12))
def xo := aI (aI (aI (aI (@EV) (@R3)) (aI (@R9) (aI (@R26) (@R31)))) (aI (aI (@R45) (@R52)) (aI (@R67) (aI (@R82) (@R85))))) (aI (aI (aI (@R103) (@R120)) (aI (@DBranch) (aI (@DEntry) (@DOrigin)))) (aI (aI (@DAttr) (@DNode)) (aI (@DWay) (aI (@xex) (@mixed)))))
set_option maxHeartbeats 2000000 in
theorem x5u (a0 : Branch) (a1 : List Int) (r : List Way × List Ar2_Int) (hm0 : xeh a0 a1 = some r) : Ok Tryz.prog 52 [xp a0, .sl 1 (a1.map int)] (.tup [.sl 3 (r.1.map encWay), .sl 2 (r.2.map xob)]) := by
 unfold xeh at hm0
 refine okG xev ?_
 unfold x0n
 obtain ⟨o0, ho0, hm0⟩ := bsE hm0
 simp only [xo, ↓EVd, isCall, sevalprocAttr]
 refine cwp_cx 0 (fun s => ∃ v10 : List Way, ∃ v12 : List Ar2_Int, ∃ l9 : Nat, ∃ l11 : Nat, (s.T 6 = .msl l9 v10.length ∧ s.T 7 = .msl l11 v12.length ∧ s.H l9 = some (.row 85 3 (v10.map encWay)) ∧ s.H l11 = some (.row 120 2 (v12.map xob)) ∧ Lq l9 s.nx ∧ Lq l11 s.nx ∧ Nq l9 l11) ∧ (v10, v12) = o0) ?_ fun J0_0 hJ0_0 => ?_
 · rintro T0 H0 x8 ⟨v10, v12, l9, l11, kk0_0, rfl⟩
   dsimp only [Lq, Nq] at kk0_0
   try dsimp only at hm0
   obtain rfl := Option.some.inj hm0
   simp only [kk0_0, xo, ↓EVd, isCall, sevalprocAttr]
   all_goals first | done | rfl | exact xl8 9 (by simp only [kk0_0, FZ, CLO, xo, ↓EVd, isCall, sevalprocAttr]) (Sub.tup (Subs.cons (Sub.refl _) (Subs.cons (Sub.refl _) (Subs.nil))))
 refine cwp_lp ho0 (fun (v3, v5, v6, v7) s => ∃ l2 : Nat, ∃ l4 : Nat, s.T 1 = .sl 1 (a1.map int) ∧ s.T 2 = .loc 0 1 0 0 ∧ s.T 6 = .msl l2 v3.length ∧ s.T 7 = .msl l4 v5.length ∧ s.T 8 = int v6 ∧ s.T 9 = int v7 ∧ s.H 0 = some (.row 26 1 [xp a0]) ∧ s.H l2 = some (.row 85 3 (v3.map encWay)) ∧ s.H l4 = some (.row 120 2 (v5.map xob)) ∧ Lq 0 s.nx ∧ Lq l2 s.nx ∧ Lq l4 s.nx ∧ Nq 0 l2 ∧ Nq 0 l4 ∧ Nq l2 l4) ?_ ?_
 · refine TI.here ⟨3, 4, ?_, ?_, ?_, ?_, ?_, ?_, ?_, ?_, ?_, ?_, ?_, ?_, ?_, ?_, ?_⟩
   all_goals try simp only [xo, ↓EVd, isCall, sevalprocAttr]
   all_goals first | omega | exact lq (by omega) | exact nq (by omega) | rfl | (congr 1; omega)
 rintro I0 ⟨v3, v5, v6, v7⟩ T0 H0 x1 st0 ⟨l2, l4, kk0⟩ hm1 hI0 hO0
 dsimp only [Lq, Nq] at kk0
 simp only [x1e] at hm1
 rcases iteE hm1 with ⟨e14, hm1⟩ | ⟨e14, hm1⟩
 · obtain ⟨v15, e17, hm1⟩ := ixE int hm1
   obtain ⟨v18, h19, hm1⟩ := bsE hm1
   simp only [kk0, e14, e17, xo, ↓EVd, isCall, sevalprocAttr]
   refine qd (x6e _ _ _ h19) rfl ?_
   rcases iteE hm1 with ⟨e21, hm1⟩ | ⟨e21, hm1⟩
   · obtain ⟨v22, h23, hm1⟩ := bsE hm1
     simp only [kk0, e14, e17, e21, xo, ↓EVd, isCall, sevalprocAttr]
     refine qdb (x9l _ _ _ h23) rfl (by simp only [kk0, e14, e17, e21, FZ, CLO, xo, ↓EVd, isCall, sevalprocAttr]) ?_
     rcases iteE hm1 with ⟨e25, hm1⟩ | ⟨e25, hm1⟩
     · obtain rfl := Option.some.inj hm1
       simp only [kk0, e14, e17, e21, e25, xo, ↓EVd, isCall, sevalprocAttr]
       refine TI.here (hI0 _ rfl _ ⟨l2, l4, ?_, ?_, ?_, ?_, ?_, ?_, ?_, ?_, ?_, ?_, ?_, ?_, ?_, ?_, ?_⟩)
       all_goals try simp only [kk0, e14, e17, e21, e25, xo, ↓EVd, isCall, sevalprocAttr]
       all_goals first | omega | exact lq (by omega) | exact nq (by omega) | rfl | (congr 1; omega)
     have e26 : (.agg [int v15, int (-1), str xq] : AV) = encWay (⟨v15, (-1), xq⟩ : Way) := _root_.id rfl
     obtain ⟨e29, hm1⟩ := apE hm1
     try simp only [ZL] at e29
     obtain ⟨o1, ho1, hm1⟩ := bsE hm1
     simp only [kk0, e14, e17, e21, e25, e26, e29, xo, ↓EVd, isCall, sevalprocAttr]
     refine cwp_cx 2 (fun s => ∃ v39 : List Way, ∃ v41 : List Ar2_Int, ∃ v42 : Int, ∃ l38 : Nat, ∃ l40 : Nat, (s.T 1 = .sl 1 (a1.map int) ∧ s.T 2 = .loc 0 1 0 0 ∧ s.T 6 = .msl l38 v39.length ∧ s.T 7 = .msl l40 v41.length ∧ s.T 8 = int v42 ∧ s.T 9 = int v7 ∧ s.H 0 = some (.row 26 1 [xp a0]) ∧ s.H l38 = some (.row 85 3 (v39.map encWay)) ∧ s.H l40 = some (.row 120 2 (v41.map xob)) ∧ Lq 0 s.nx ∧ Lq l38 s.nx ∧ Lq l40 s.nx ∧ Nq 0 l38 ∧ Nq 0 l40 ∧ Nq l38 l40) ∧ (v39, v41, v42) = o1) ?_ fun J1_0 hJ1_0 => ?_
     · rintro T1 H1 x37 ⟨v39, v41, v42, l38, l40, kk1_0, rfl⟩
       dsimp only [Lq, Nq] at kk1_0
       try dsimp only at hm1
       obtain rfl := Option.some.inj hm1
       simp only [kk1_0, e14, e17, e21, e25, e26, e29, xo, ↓EVd, isCall, sevalprocAttr]
       refine TI.here (hI0 _ rfl _ ⟨l38, l40, ?_, ?_, ?_, ?_, ?_, ?_, ?_, ?_, ?_, ?_, ?_, ?_, ?_, ?_, ?_⟩)
       all_goals try simp only [kk1_0, e14, e17, e21, e25, e26, e29, xo, ↓EVd, isCall, sevalprocAttr]
       all_goals first | omega | exact lq (by omega) | exact nq (by omega) | rfl | (congr 1; omega)
     refine cwp_lp ho1 (fun (v33, v35, v36) s => ∃ l32 : Nat, ∃ l34 : Nat, s.T 1 = .sl 1 (a1.map int) ∧ s.T 2 = .loc 0 1 0 0 ∧ s.T 6 = .msl l32 v33.length ∧ s.T 7 = .msl l34 v35.length ∧ s.T 8 = int v36 ∧ s.T 9 = int v7 ∧ s.H 0 = some (.row 26 1 [xp a0]) ∧ s.H l32 = some (.row 85 3 (v33.map encWay)) ∧ s.H l34 = some (.row 120 2 (v35.map xob)) ∧ Lq 0 s.nx ∧ Lq l32 s.nx ∧ Lq l34 s.nx ∧ Nq 0 l32 ∧ Nq 0 l34 ∧ Nq l32 l34) ?_ ?_
     · refine TI.here ⟨(x1 + 28), l4, ?_, ?_, ?_, ?_, ?_, ?_, ?_, ?_, ?_, ?_, ?_, ?_, ?_, ?_, ?_⟩
       all_goals try simp only [kk0, e14, e17, e21, e25, e26, e29, xo, ↓EVd, isCall, sevalprocAttr]
       all_goals first | omega | exact lq (by omega) | exact nq (by omega) | rfl | (congr 1; omega)
     rintro I1 ⟨v33, v35, v36⟩ T1 H1 x31 st1 ⟨l32, l34, kk1⟩ hm2 hI1 hO1
     dsimp only [Lq, Nq] at kk1
     simp only [x5d] at hm2
     rcases iteE hm2 with ⟨e44, hm2⟩ | ⟨e44, hm2⟩
     · obtain ⟨v45, e47, hm2⟩ := ixE encWay hm2
       have g87 := And.intro (And.intro (And.intro ((e14)) ((e17))) (And.intro ((e21)) ((e25)))) (And.intro (And.intro ((e26)) ((e29))) (And.intro ((e44)) ((e47))))
       obtain ⟨v48, h49, hm2⟩ := bsE hm2
       simp only [kk1, g87, xo, ↓EVd, isCall, sevalprocAttr]
       refine qd (x6e _ _ _ h49) rfl ?_
       obtain ⟨o2, ho2, hm2⟩ := bsE hm2
       simp only [kk1, g87, xo, ↓EVd, isCall, sevalprocAttr]
       refine cwp_cx 4 (fun s => ∃ v58 : List Way, ∃ v60 : List Ar2_Int, ∃ l57 : Nat, ∃ l59 : Nat, (s.T 1 = .sl 1 (a1.map int) ∧ s.T 2 = .loc 0 1 0 0 ∧ s.T 6 = .msl l57 v58.length ∧ s.T 7 = .msl l59 v60.length ∧ s.T 8 = int v36 ∧ s.T 9 = int v7 ∧ s.H 0 = some (.row 26 1 [xp a0]) ∧ s.H l57 = some (.row 85 3 (v58.map encWay)) ∧ s.H l59 = some (.row 120 2 (v60.map xob)) ∧ Lq 0 s.nx ∧ Lq l57 s.nx ∧ Lq l59 s.nx ∧ Nq 0 l57 ∧ Nq 0 l59 ∧ Nq l57 l59) ∧ (v58, v60) = o2) ?_ fun J2_0 hJ2_0 => ?_
       · rintro T2 H2 x56 ⟨v58, v60, l57, l59, kk2_0, rfl⟩
         dsimp only [Lq, Nq] at kk2_0
         try dsimp only at hm2
         obtain rfl := Option.some.inj hm2
         simp only [kk2_0, g87, xo, ↓EVd, isCall, sevalprocAttr]
         refine TI.here (hI1 _ rfl _ ⟨l57, l59, ?_, ?_, ?_, ?_, ?_, ?_, ?_, ?_, ?_, ?_, ?_, ?_, ?_, ?_, ?_⟩)
         all_goals try simp only [kk2_0, g87, xo, ↓EVd, isCall, sevalprocAttr]
         all_goals first | omega | exact lq (by omega) | exact nq (by omega) | rfl | (congr 1; omega)
       refine cwp_lp ho2 (fun (v52, v54, v55) s => ∃ l51 : Nat, ∃ l53 : Nat, s.T 1 = .sl 1 (a1.map int) ∧ s.T 2 = .loc 0 1 0 0 ∧ s.T 6 = .msl l51 v52.length ∧ s.T 7 = .msl l53 v54.length ∧ s.T 8 = int v36 ∧ s.T 9 = int v7 ∧ s.T 10 = .sl 3 (v48.entries.map xd) ∧ s.T 11 = int v55 ∧ s.H 0 = some (.row 26 1 [xp a0]) ∧ s.H l51 = some (.row 85 3 (v52.map encWay)) ∧ s.H l53 = some (.row 120 2 (v54.map xob)) ∧ Lq 0 s.nx ∧ Lq l51 s.nx ∧ Lq l53 s.nx ∧ Nq 0 l51 ∧ Nq 0 l53 ∧ Nq l51 l53) ?_ ?_
       · refine TI.here ⟨l32, l34, ?_, ?_, ?_, ?_, ?_, ?_, ?_, ?_, ?_, ?_, ?_, ?_, ?_, ?_, ?_, ?_, ?_⟩
         all_goals try simp only [kk1, g87, xo, ↓EVd, isCall, sevalprocAttr]
         all_goals first | omega | exact lq (by omega) | exact nq (by omega) | rfl | (congr 1; omega)
       rintro I2 ⟨v52, v54, v55⟩ T2 H2 x50 st2 ⟨l51, l53, kk2⟩ hm3 hI2 hO2
       dsimp only [Lq, Nq] at kk2
       simp only [x8d] at hm3
       rcases iteE hm3 with ⟨e62, hm3⟩ | ⟨e62, hm3⟩
       · obtain ⟨v63, e65, hm3⟩ := ixE xd hm3
         obtain ⟨v66, h67, hm3⟩ := bsE hm3
         simp only [kk2, g87, e62, e65, xo, ↓EVd, isCall, sevalprocAttr]
         refine qd (x6e _ _ _ h67) rfl ?_
         rcases iteE hm3 with ⟨e69, hm3⟩ | ⟨e69, hm3⟩
         · obtain ⟨v70, h71, hm3⟩ := bsE hm3
           simp only [kk2, g87, e62, e65, e69, xo, ↓EVd, isCall, sevalprocAttr]
           refine qcb (x9l _ _ _ h71) rfl (by simp only [kk2, g87, e62, e65, e69, FZ, CLO, xo, ↓EVd, isCall, sevalprocAttr]) ?_
           rcases iteE hm3 with ⟨e73, hm3⟩ | ⟨e73, hm3⟩
           · obtain ⟨v74, e76, hm3⟩ := ixE encWay hm3
             have e77 : (.agg [int v74.ino, int v63.slot] : AV) = xob (⟨v74.ino, v63.slot⟩ : Ar2_Int) := _root_.id rfl
             obtain ⟨e80, hm3⟩ := apE hm3
             try simp only [ZL] at e80
             obtain rfl := Option.some.inj hm3
             simp only [kk2, g87, e62, e65, e69, e73, e76, e77, e80, xo, ↓EVd, isCall, sevalprocAttr]
             refine TI.here (hI2 _ rfl _ ⟨l51, (x50 + 34), ?_, ?_, ?_, ?_, ?_, ?_, ?_, ?_, ?_, ?_, ?_, ?_, ?_, ?_, ?_, ?_, ?_⟩)
             all_goals try simp only [kk2, g87, e62, e65, e69, e73, e76, e77, e80, xo, ↓EVd, isCall, sevalprocAttr]
             all_goals first | omega | exact lq (by omega) | exact nq (by omega) | rfl | (congr 1; omega)
           have e82 : (.agg [int v63.ino, int v36, str v63.name] : AV) = encWay (⟨v63.ino, v36, v63.name⟩ : Way) := _root_.id rfl
           obtain ⟨e85, hm3⟩ := apE hm3
           try simp only [ZL] at e85
           obtain rfl := Option.some.inj hm3
           simp only [kk2, g87, e62, e65, e69, e73, e82, e85, xo, ↓EVd, isCall, sevalprocAttr]
           refine TI.here (hI2 _ rfl _ ⟨(x50 + 35), l53, ?_, ?_, ?_, ?_, ?_, ?_, ?_, ?_, ?_, ?_, ?_, ?_, ?_, ?_, ?_, ?_, ?_⟩)
           all_goals try simp only [kk2, g87, e62, e65, e69, e73, e82, e85, xo, ↓EVd, isCall, sevalprocAttr]
           all_goals first | omega | exact lq (by omega) | exact nq (by omega) | rfl | (congr 1; omega)
         obtain rfl := Option.some.inj hm3
         simp only [kk2, g87, e62, e65, e69, xo, ↓EVd, isCall, sevalprocAttr]
         refine TI.here (hI2 _ rfl _ ⟨l51, l53, ?_, ?_, ?_, ?_, ?_, ?_, ?_, ?_, ?_, ?_, ?_, ?_, ?_, ?_, ?_, ?_, ?_⟩)
         all_goals try simp only [kk2, g87, e62, e65, e69, xo, ↓EVd, isCall, sevalprocAttr]
         all_goals first | omega | exact lq (by omega) | exact nq (by omega) | rfl | (congr 1; omega)
       obtain rfl := Option.some.inj hm3
       simp only [kk2, g87, e62, xo, ↓EVd, isCall, sevalprocAttr]
       refine TI.here (hJ2_0 _ ⟨v52, v54, l51, l53, ⟨?_, ?_, ?_, ?_, ?_, ?_, ?_, ?_, ?_, ?_, ?_, ?_, ?_, ?_, ?_⟩, hO2 _ rfl⟩)
       all_goals try simp only [kk2, g87, e62, xo, ↓EVd, isCall, sevalprocAttr]
       all_goals first | omega | exact lq (by omega) | exact nq (by omega) | rfl | (congr 1; omega)
     obtain rfl := Option.some.inj hm2
     simp only [kk1, e14, e17, e21, e25, e26, e29, e44, xo, ↓EVd, isCall, sevalprocAttr]
     refine TI.here (hJ1_0 _ ⟨v33, v35, v36, l32, l34, ⟨?_, ?_, ?_, ?_, ?_, ?_, ?_, ?_, ?_, ?_, ?_, ?_, ?_, ?_, ?_⟩, hO1 _ rfl⟩)
     all_goals try simp only [kk1, e14, e17, e21, e25, e26, e29, e44, xo, ↓EVd, isCall, sevalprocAttr]
     all_goals first | omega | exact lq (by omega) | exact nq (by omega) | rfl | (congr 1; omega)
   obtain rfl := Option.some.inj hm1
   simp only [kk0, e14, e17, e21, xo, ↓EVd, isCall, sevalprocAttr]
   refine TI.here (hI0 _ rfl _ ⟨l2, l4, ?_, ?_, ?_, ?_, ?_, ?_, ?_, ?_, ?_, ?_, ?_, ?_, ?_, ?_, ?_⟩)
   all_goals try simp only [kk0, e14, e17, e21, xo, ↓EVd, isCall, sevalprocAttr]
   all_goals first | omega | exact lq (by omega) | exact nq (by omega) | rfl | (congr 1; omega)
 obtain rfl := Option.some.inj hm1
 simp only [kk0, e14, xo, ↓EVd, isCall, sevalprocAttr]
 refine TI.here (hJ0_0 _ ⟨v3, v5, l2, l4, ⟨?_, ?_, ?_, ?_, ?_, ?_, ?_⟩, hO0 _ rfl⟩)
 all_goals try simp only [kk0, e14, xo, ↓EVd, isCall, sevalprocAttr]
 all_goals first | omega | exact lq (by omega) | exact nq (by omega) | rfl | (congr 1; omega)
def xsi (a0 : Branch) (a1 : List Int) : Option (List Way) := (xeh a0 a1).bind fun v1 => some v1.1
def x0o := aI (aI (aI (@EV) (@R3)) (aI (@R26) (aI (@R67) (@DBranch)))) (aI (aI (@DEntry) (@DOrigin)) (aI (@DAttr) (aI (@DNode) (@DWay))))
set_option maxHeartbeats 2000000 in
theorem xjv (a0 : Branch) (a1 : List Int) (r : List Way) (hm0 : xsi a0 a1 = some r) : Ok Tryz.prog 40 [xp a0, .sl 1 (a1.map int)] (.sl 3 (r.map encWay)) := by
 unfold xsi at hm0
 refine okG xgv ?_
 unfold xjo
 obtain ⟨v1, h2, hm0⟩ := bsE hm0
 simp only [x0o, ↓EVd, isCall, sevalprocAttr]
 refine qc (x5u _ _ _ h2) rfl ?_
 obtain rfl := Option.some.inj hm0
 simp only [x0o, ↓EVd, isCall, sevalprocAttr]
 all_goals first | done | rfl | exact xc (by simp only [CLO])
def xod (v19 : Node) : (Int × List Bool) → Option (St (Int × List Bool) (List Bool))
 | (v22, v23) => if v22 < (v19.entries.length : Int) then (ix v19.entries v22).bind fun v28 => if 1 ≤ v28.ino then if v28.ino ≤ (v23.length : Int) then (ix v23 (wr (v28.ino - 1))).bind fun v35 => some (.nx ((wr (v22 + 1)), (v23.set ((wr (v28.ino - 1))).toNat true)))
 else some (.nx ((wr (v22 + 1)), v23))
 else some (.nx ((wr (v22 + 1)), v23))
 else some (.out v23)
def xwe (a0 : Branch) (v4 : List Way) : (Int × List Bool) → Option (St (Int × List Bool) (List Bool))
 | (v7, v8) => if v7 < (v4.length : Int) then (ix v4 v7).bind fun v13 => (ix v8 (wr (v13.ino - 1))).bind fun v16 => (x7c a0 v13.ino).bind fun v19 => (iter (xod v19) big (0, (v8.set ((wr (v13.ino - 1))).toNat true))).bind fun o => (match o with
 | v25 => some (.nx ((wr (v7 + 1)), v25)))
 else some (.out v8)
def xae (a0 : Branch) (a1 : List Int) : Option (List Bool) := (ck (0 ≤ (a0.nodes.length : Int) ∧ (a0.nodes.length : Int) ≤ (a0.nodes.length : Int) ∧ (1 : Int) * (a0.nodes.length : Int) ≤ 281474976710656 ∧ (a0.nodes.length : Int) ≤ 9223372036854775807)).bind fun _ => (xsi a0 a1).bind fun v4 => (iter (xwe a0 v4) big (0, (List.replicate (a0.nodes.length : Int).toNat false))).bind fun o => (match o with
 | v10 => some v10)
def xlb := aI (aI (aI (aI (@EV) (@R3)) (aI (@R4) (@R24))) (aI (aI (@R26) (@R31)) (aI (@R45) (aI (@R52) (@R53))))) (aI (aI (aI (@R67) (@R82)) (aI (@R85) (aI (@DBranch) (@DEntry)))) (aI (aI (@DOrigin) (@DAttr)) (aI (@DNode) (aI (@DWay) (@mixed)))))
set_option maxHeartbeats 2000000 in
theorem x8l (a0 : Branch) (a1 : List Int) (r : List Bool) (hm0 : xae a0 a1 = some r) : Ok Tryz.prog 25 [xp a0, .sl 1 (a1.map int)] (.sl 1 (r.map bool)) := by
 unfold xae at hm0
 refine okG xbt ?_
 unfold x5m
 obtain ⟨e2, hm0⟩ := ckE hm0
 have e3 : List.replicate ((a0.nodes.length : Int).toNat) (bool false) = (List.replicate ((a0.nodes.length : Int).toNat) false).map bool := (by simp only [List.map_replicate]; first | done | rfl)
 obtain ⟨v4, h5, hm0⟩ := bsE hm0
 simp only [e2, e3, xlb, ↓EVd, isCall, sevalprocAttr]
 refine qc (xjv _ _ _ h5) rfl ?_
 obtain ⟨o0, ho0, hm0⟩ := bsE hm0
 simp only [e2, e3, xlb, ↓EVd, isCall, sevalprocAttr]
 refine cwp_cx 0 (fun s => ∃ v10 : List Bool, (s.T 5 = .msl 5 v10.length ∧ s.H 5 = some (.row 4 1 (v10.map bool)) ∧ Lq 5 s.nx) ∧ v10 = o0) ?_ fun J0_0 hJ0_0 => ?_
 · rintro T0 H0 x9 ⟨v10, kk0_0, rfl⟩
   dsimp only [Lq, Nq] at kk0_0
   try dsimp only at hm0
   obtain rfl := Option.some.inj hm0
   simp only [kk0_0, e2, e3, xlb, ↓EVd, isCall, sevalprocAttr]
   all_goals first | done | rfl | exact frzR_e (by simp only [kk0_0, e2, e3, FZ, CLO, xlb, ↓EVd, isCall, sevalprocAttr])
 refine cwp_lp ho0 (fun (v7, v8) s => s.T 2 = .loc 0 1 0 0 ∧ s.T 5 = .msl 5 v8.length ∧ s.T 6 = .sl 3 (v4.map encWay) ∧ s.T 7 = int v7 ∧ s.H 0 = some (.row 26 1 [xp a0]) ∧ s.H 5 = some (.row 4 1 (v8.map bool)) ∧ Lq 0 s.nx ∧ Lq 5 s.nx) ?_ ?_
 · refine TI.here ⟨?_, ?_, ?_, ?_, ?_, ?_, ?_, ?_⟩
   all_goals try simp only [e2, e3, xlb, ↓EVd, isCall, sevalprocAttr]
   all_goals first | omega | exact lq (by omega) | exact nq (by omega) | rfl | (congr 1; omega)
 rintro I0 ⟨v7, v8⟩ T0 H0 x6 st0 kk0 hm1 hI0 hO0
 dsimp only [Lq, Nq] at kk0
 simp only [xwe] at hm1
 rcases iteE hm1 with ⟨e12, hm1⟩ | ⟨e12, hm1⟩
 · obtain ⟨v13, e15, hm1⟩ := ixE encWay hm1
   obtain ⟨v16, e18, hm1⟩ := ixE bool hm1
   obtain ⟨v19, h20, hm1⟩ := bsE hm1
   simp only [kk0, e2, e3, e12, e15, e18, xlb, ↓EVd, isCall, sevalprocAttr]
   refine qd (x6e _ _ _ h20) rfl ?_
   obtain ⟨o1, ho1, hm1⟩ := bsE hm1
   simp only [kk0, e2, e3, e12, e15, e18, xlb, ↓EVd, isCall, sevalprocAttr]
   refine cwp_cx 2 (fun s => ∃ v25 : List Bool, (s.T 2 = .loc 0 1 0 0 ∧ s.T 5 = .msl 5 v25.length ∧ s.T 6 = .sl 3 (v4.map encWay) ∧ s.T 7 = int v7 ∧ s.H 0 = some (.row 26 1 [xp a0]) ∧ s.H 5 = some (.row 4 1 (v25.map bool)) ∧ Lq 0 s.nx ∧ Lq 5 s.nx) ∧ v25 = o1) ?_ fun J1_0 hJ1_0 => ?_
   · rintro T1 H1 x24 ⟨v25, kk1_0, rfl⟩
     dsimp only [Lq, Nq] at kk1_0
     try dsimp only at hm1
     obtain rfl := Option.some.inj hm1
     simp only [kk1_0, e2, e3, e12, e15, e18, xlb, ↓EVd, isCall, sevalprocAttr]
     refine TI.here (hI0 _ rfl _ ⟨?_, ?_, ?_, ?_, ?_, ?_, ?_, ?_⟩)
     all_goals try simp only [kk1_0, e2, e3, e12, e15, e18, xlb, ↓EVd, isCall, sevalprocAttr]
     all_goals first | omega | exact lq (by omega) | exact nq (by omega) | rfl | (congr 1; omega)
   refine cwp_lp ho1 (fun (v22, v23) s => s.T 2 = .loc 0 1 0 0 ∧ s.T 5 = .msl 5 v23.length ∧ s.T 6 = .sl 3 (v4.map encWay) ∧ s.T 7 = int v7 ∧ s.T 8 = .sl 3 (v19.entries.map xd) ∧ s.T 9 = int v22 ∧ s.H 0 = some (.row 26 1 [xp a0]) ∧ s.H 5 = some (.row 4 1 (v23.map bool)) ∧ Lq 0 s.nx ∧ Lq 5 s.nx) ?_ ?_
   · refine TI.here ⟨?_, ?_, ?_, ?_, ?_, ?_, ?_, ?_, ?_, ?_⟩
     all_goals try simp only [kk0, e2, e3, e12, e15, e18, xlb, ↓EVd, isCall, sevalprocAttr]
     all_goals first | omega | exact lq (by omega) | exact nq (by omega) | rfl | (congr 1; omega)
   rintro I1 ⟨v22, v23⟩ T1 H1 x21 st1 kk1 hm2 hI1 hO1
   dsimp only [Lq, Nq] at kk1
   simp only [xod] at hm2
   rcases iteE hm2 with ⟨e27, hm2⟩ | ⟨e27, hm2⟩
   · obtain ⟨v28, e30, hm2⟩ := ixE xd hm2
     rcases iteE hm2 with ⟨e32, hm2⟩ | ⟨e32, hm2⟩
     · have g38 := And.intro (And.intro (And.intro ((e2)) ((e3))) (And.intro ((e12)) ((e15)))) (And.intro (And.intro ((e18)) ((e27))) (And.intro ((e30)) ((e32))))
       rcases iteE hm2 with ⟨e34, hm2⟩ | ⟨e34, hm2⟩
       · obtain ⟨v35, e37, hm2⟩ := ixE bool hm2
         obtain rfl := Option.some.inj hm2
         simp only [kk1, g38, e34, e37, xlb, ↓EVd, isCall, sevalprocAttr]
         refine TI.here (hI1 _ rfl _ ⟨?_, ?_, ?_, ?_, ?_, ?_, ?_, ?_, ?_, ?_⟩)
         all_goals try simp only [kk1, g38, e34, e37, xlb, ↓EVd, isCall, sevalprocAttr]
         all_goals first | omega | exact lq (by omega) | exact nq (by omega) | rfl | (congr 1; omega)
       obtain rfl := Option.some.inj hm2
       simp only [kk1, g38, e34, xlb, ↓EVd, isCall, sevalprocAttr]
       refine TI.here (hI1 _ rfl _ ⟨?_, ?_, ?_, ?_, ?_, ?_, ?_, ?_, ?_, ?_⟩)
       all_goals try simp only [kk1, g38, e34, xlb, ↓EVd, isCall, sevalprocAttr]
       all_goals first | omega | exact lq (by omega) | exact nq (by omega) | rfl | (congr 1; omega)
     obtain rfl := Option.some.inj hm2
     simp only [kk1, e2, e3, e12, e15, e18, e27, e30, e32, xlb, ↓EVd, isCall, sevalprocAttr]
     refine TI.here (hI1 _ rfl _ ⟨?_, ?_, ?_, ?_, ?_, ?_, ?_, ?_, ?_, ?_⟩)
     all_goals try simp only [kk1, e2, e3, e12, e15, e18, e27, e30, e32, xlb, ↓EVd, isCall, sevalprocAttr]
     all_goals first | omega | exact lq (by omega) | exact nq (by omega) | rfl | (congr 1; omega)
   obtain rfl := Option.some.inj hm2
   simp only [kk1, e2, e3, e12, e15, e18, e27, xlb, ↓EVd, isCall, sevalprocAttr]
   refine TI.here (hJ1_0 _ ⟨v23, ⟨?_, ?_, ?_, ?_, ?_, ?_, ?_, ?_⟩, hO1 _ rfl⟩)
   all_goals try simp only [kk1, e2, e3, e12, e15, e18, e27, xlb, ↓EVd, isCall, sevalprocAttr]
   all_goals first | omega | exact lq (by omega) | exact nq (by omega) | rfl | (congr 1; omega)
 obtain rfl := Option.some.inj hm1
 simp only [kk0, e2, e3, e12, xlb, ↓EVd, isCall, sevalprocAttr]
 refine TI.here (hJ0_0 _ ⟨v8, ⟨?_, ?_, ?_⟩, hO0 _ rfl⟩)
 all_goals try simp only [kk0, e2, e3, e12, xlb, ↓EVd, isCall, sevalprocAttr]
 all_goals first | omega | exact lq (by omega) | exact nq (by omega) | rfl | (congr 1; omega)
end Go.Proofs.YtefdlpandfhcgaaGreatDoor.AL

/- Models of functions, and that the functions are as their models: written by gen.py. -/
set_option linter.all false
set_option maxRecDepth 100000
namespace Go.Proofs.YtefdlpandfhcgaaGreatDoor.AL
open Go Go.Proofs
def xsg (a0 : Entry) : Option (Bool) := (xag a0.name).bind fun v1 => some (!v1)
def xiq := aI (aI (@EV) (@R9)) (aI (@R31) (@DEntry))
set_option maxHeartbeats 2000000 in
theorem xhw (a0 : Entry) (r : Bool) (hm0 : xsg a0 = some r) : Ok Tryz.prog 43 [xd a0] (bool r) := by
 unfold xsg at hm0
 refine okG xnw ?_
 unfold xyq
 obtain ⟨v1, h2, hm0⟩ := bsE hm0
 simp only [xiq, ↓EVd, isCall, sevalprocAttr]
 refine qc (x6t _ _ h2) rfl ?_
 obtain rfl := Option.some.inj hm0
 simp only [xiq, ↓EVd, isCall, sevalprocAttr]
 all_goals first | done | rfl
def xug (a0 : Node) : Int → Option (St (Int) ((Unit) ⊕ (Bool)))
 | v2 => if v2 < (a0.entries.length : Int) then (ix a0.entries v2).bind fun v6 => if v6.slot < 0 then some (.out (.inr false))
 else if 16 ≤ v6.slot then some (.out (.inr false))
 else if 0 < v2 then (ix a0.entries (wr (v2 - 1))).bind fun v15 => if v6.slot ≤ v15.slot then some (.out (.inr false))
 else some (.nx (wr (v2 + 1)))
 else some (.nx (wr (v2 + 1)))
 else some (.out (.inl ()))
def xjf (a0 : Node) : Option (Bool) := (iter (xug a0) big 0).bind fun o => (match o with
 | (.inl _) => if 0 ≤ a0.kind then if a0.kind ≤ 4 then if (-9007199254740992) ≤ a0.nlink then if a0.nlink ≤ 9007199254740992 then if 0 ≤ a0.attr.has then if a0.attr.has ≤ 31 then if (a0.data.length : Int) ≤ 300 then if (a0.entries.length : Int) ≤ 16 then if (a0.attr.redirect.size : Int) ≤ 40 then (x6g (fun z => xsg z ) a0.entries).bind fun v38 => some (!v38)
 else some false
 else some false
 else some false
 else some false
 else some false
 else some false
 else some false
 else some false
 else some false
 | (.inr r) => some r)
def xib := aI (aI (aI (@EV) (aI (@R3) (@R9))) (aI (@R31) (aI (@R45) (@R46)))) (aI (aI (@R50) (aI (@R52) (@DEntry))) (aI (aI (@DOrigin) (@DAttr)) (aI (@DNode) (@mixed))))
set_option maxHeartbeats 2000000 in
theorem xmv (a0 : Node) (r : Bool) (hm0 : xjf a0 = some r) : Ok Tryz.prog 28 [xj a0] (bool r) := by
 unfold xjf at hm0
 refine okG x4u ?_
 unfold xlo
 obtain ⟨o0, ho0, hm0⟩ := bsE hm0
 simp only [xib, ↓EVd, isCall, sevalprocAttr]
 refine cwp_cx 0 (fun s => (s.T 1 = .loc 0 13 0 0 ∧ s.H 0 = some (.row 52 13 [xj a0]) ∧ Lq 0 s.nx) ∧ (.inl ()) = o0) ?_ fun J0_0 hJ0_0 => ?_
 · rintro T0 H0 x3 ⟨kk0_0, rfl⟩
   dsimp only [Lq, Nq] at kk0_0
   try dsimp only at hm0
   rcases iteE hm0 with ⟨e21, hm0⟩ | ⟨e21, hm0⟩
   · rcases iteE hm0 with ⟨e23, hm0⟩ | ⟨e23, hm0⟩
     · rcases iteE hm0 with ⟨e25, hm0⟩ | ⟨e25, hm0⟩
       · rcases iteE hm0 with ⟨e27, hm0⟩ | ⟨e27, hm0⟩
         · rcases iteE hm0 with ⟨e29, hm0⟩ | ⟨e29, hm0⟩
           · rcases iteE hm0 with ⟨e31, hm0⟩ | ⟨e31, hm0⟩
             · rcases iteE hm0 with ⟨e33, hm0⟩ | ⟨e33, hm0⟩
               · rcases iteE hm0 with ⟨e35, hm0⟩ | ⟨e35, hm0⟩
                 · have g40 := And.intro (And.intro (And.intro ((e21)) ((e23))) (And.intro ((e25)) ((e27)))) (And.intro (And.intro ((e29)) ((e31))) (And.intro ((e33)) ((e35))))
                   rcases iteE hm0 with ⟨e37, hm0⟩ | ⟨e37, hm0⟩
                   · obtain ⟨v38, h39, hm0⟩ := bsE hm0
                     simp only [kk0_0, g40, e37, xib, ↓EVd, isCall, sevalprocAttr]
                     refine qc (xmk xlf xjg xuj x3j (fi := []) (ca := []) xd a0.entries (fun z => xsg z ) _ h39 (fun z b hz => xhw z  b hz) (fun z => by simp only [CLO]) rfl (by simp only [CLO]) (fun z => by simp only [xib, ↓EVd, isCall, sevalprocAttr])) rfl ?_
                     obtain rfl := Option.some.inj hm0
                     simp only [kk0_0, g40, e37, xib, ↓EVd, isCall, sevalprocAttr]
                     all_goals first | done | rfl
                   obtain rfl := Option.some.inj hm0
                   simp only [kk0_0, g40, e37, xib, ↓EVd, isCall, sevalprocAttr]
                   all_goals first | done | rfl
                 obtain rfl := Option.some.inj hm0
                 simp only [kk0_0, e21, e23, e25, e27, e29, e31, e33, e35, xib, ↓EVd, isCall, sevalprocAttr]
                 all_goals first | done | rfl
               obtain rfl := Option.some.inj hm0
               simp only [kk0_0, e21, e23, e25, e27, e29, e31, e33, xib, ↓EVd, isCall, sevalprocAttr]
               all_goals first | done | rfl
             obtain rfl := Option.some.inj hm0
             simp only [kk0_0, e21, e23, e25, e27, e29, e31, xib, ↓EVd, isCall, sevalprocAttr]
             all_goals first | done | rfl
           obtain rfl := Option.some.inj hm0
           simp only [kk0_0, e21, e23, e25, e27, e29, xib, ↓EVd, isCall, sevalprocAttr]
           all_goals first | done | rfl
         obtain rfl := Option.some.inj hm0
         simp only [kk0_0, e21, e23, e25, e27, xib, ↓EVd, isCall, sevalprocAttr]
         all_goals first | done | rfl
       obtain rfl := Option.some.inj hm0
       simp only [kk0_0, e21, e23, e25, xib, ↓EVd, isCall, sevalprocAttr]
       all_goals first | done | rfl
     obtain rfl := Option.some.inj hm0
     simp only [kk0_0, e21, e23, xib, ↓EVd, isCall, sevalprocAttr]
     all_goals first | done | rfl
   obtain rfl := Option.some.inj hm0
   simp only [kk0_0, e21, xib, ↓EVd, isCall, sevalprocAttr]
   all_goals first | done | rfl
 refine cwp_lp ho0 (fun v2 s => s.T 1 = .loc 0 13 0 0 ∧ s.T 6 = .sl 3 (a0.entries.map xd) ∧ s.T 7 = int (a0.entries.length : Int) ∧ s.T 8 = int v2 ∧ s.H 0 = some (.row 52 13 [xj a0]) ∧ Lq 0 s.nx) ?_ ?_
 · refine TI.here ⟨?_, ?_, ?_, ?_, ?_, ?_⟩
   all_goals try simp only [xib, ↓EVd, isCall, sevalprocAttr]
   all_goals first | omega | exact lq (by omega) | exact nq (by omega) | rfl | (congr 1; omega)
 rintro I0 v2 T0 H0 x1 st0 kk0 hm1 hI0 hO0
 dsimp only [Lq, Nq] at kk0
 simp only [xug] at hm1
 rcases iteE hm1 with ⟨e5, hm1⟩ | ⟨e5, hm1⟩
 · obtain ⟨v6, e8, hm1⟩ := ixE xd hm1
   rcases iteE hm1 with ⟨e10, hm1⟩ | ⟨e10, hm1⟩
   · obtain rfl := Option.some.inj hm1
     obtain rfl := hO0 _ rfl
     try dsimp only at hm0
     obtain rfl := Option.some.inj hm0
     simp only [kk0, e5, e8, e10, xib, ↓EVd, isCall, sevalprocAttr]
     all_goals first | done | rfl
   rcases iteE hm1 with ⟨e12, hm1⟩ | ⟨e12, hm1⟩
   · obtain rfl := Option.some.inj hm1
     obtain rfl := hO0 _ rfl
     try dsimp only at hm0
     obtain rfl := Option.some.inj hm0
     simp only [kk0, e5, e8, e10, e12, xib, ↓EVd, isCall, sevalprocAttr]
     all_goals first | done | rfl
   rcases iteE hm1 with ⟨e14, hm1⟩ | ⟨e14, hm1⟩
   · obtain ⟨v15, e17, hm1⟩ := ixE xd hm1
     rcases iteE hm1 with ⟨e19, hm1⟩ | ⟨e19, hm1⟩
     · obtain rfl := Option.some.inj hm1
       obtain rfl := hO0 _ rfl
       try dsimp only at hm0
       obtain rfl := Option.some.inj hm0
       simp only [kk0, e5, e8, e10, e12, e14, e17, e19, xib, ↓EVd, isCall, sevalprocAttr]
       all_goals first | done | rfl
     obtain rfl := Option.some.inj hm1
     simp only [kk0, e5, e8, e10, e12, e14, e17, e19, xib, ↓EVd, isCall, sevalprocAttr]
     refine TI.here (hI0 _ rfl _ ⟨?_, ?_, ?_, ?_, ?_, ?_⟩)
     all_goals try simp only [kk0, e5, e8, e10, e12, e14, e17, e19, xib, ↓EVd, isCall, sevalprocAttr]
     all_goals first | omega | exact lq (by omega) | exact nq (by omega) | rfl | (congr 1; omega)
   obtain rfl := Option.some.inj hm1
   simp only [kk0, e5, e8, e10, e12, e14, xib, ↓EVd, isCall, sevalprocAttr]
   refine TI.here (hI0 _ rfl _ ⟨?_, ?_, ?_, ?_, ?_, ?_⟩)
   all_goals try simp only [kk0, e5, e8, e10, e12, e14, xib, ↓EVd, isCall, sevalprocAttr]
   all_goals first | omega | exact lq (by omega) | exact nq (by omega) | rfl | (congr 1; omega)
 obtain rfl := Option.some.inj hm1
 simp only [kk0, e5, xib, ↓EVd, isCall, sevalprocAttr]
 refine TI.here (hJ0_0 _ ⟨⟨?_, ?_, ?_⟩, hO0 _ rfl⟩)
 all_goals try simp only [kk0, e5, xib, ↓EVd, isCall, sevalprocAttr]
 all_goals first | omega | exact lq (by omega) | exact nq (by omega) | rfl | (congr 1; omega)
def x0c (a0 : Node) : Option (Bool) := (xjf a0).bind fun v1 => some (!v1)
def xck := aI (aI (@EV) (aI (@R52) (@DEntry))) (aI (@DOrigin) (aI (@DAttr) (@DNode)))
set_option maxHeartbeats 2000000 in
theorem x2p (a0 : Node) (r : Bool) (hm0 : x0c a0 = some r) : Ok Tryz.prog 27 [xj a0] (bool r) := by
 unfold x0c at hm0
 refine okG x3p ?_
 unfold xuk
 obtain ⟨v1, h2, hm0⟩ := bsE hm0
 simp only [xck, ↓EVd, isCall, sevalprocAttr]
 refine qc (xmv _ _ h2) rfl ?_
 obtain rfl := Option.some.inj hm0
 simp only [xck, ↓EVd, isCall, sevalprocAttr]
 all_goals first | done | rfl
def xle (a0 : Branch) (a1 : Int) : Option (Bool) := if (a0.nodes.length : Int) ≤ a1 then (x6g (fun z => x0c z ) a0.nodes).bind fun v3 => some (!v3)
 else some false
def xmh := aI (aI (aI (@EV) (@R3)) (aI (@R24) (aI (@R26) (@R52)))) (aI (aI (@DBranch) (@DEntry)) (aI (@DOrigin) (aI (@DAttr) (@DNode))))
set_option maxHeartbeats 2000000 in
theorem x4k (a0 : Branch) (a1 : Int) (r : Bool) (hm0 : xle a0 a1 = some r) : Ok Tryz.prog 13 [xp a0, int a1] (bool r) := by
 unfold xle at hm0
 refine okG xfs ?_
 unfold xwl
 rcases iteE hm0 with ⟨e2, hm0⟩ | ⟨e2, hm0⟩
 · obtain ⟨v3, h4, hm0⟩ := bsE hm0
   simp only [e2, xmh, ↓EVd, isCall, sevalprocAttr]
   refine qc (xmk x2f xwg xwm x4j (fi := []) (ca := []) xj a0.nodes (fun z => x0c z ) _ h4 (fun z b hz => x2p z  b hz) (fun z => by simp only [CLO]) rfl (by simp only [CLO]) (fun z => by simp only [xmh, ↓EVd, isCall, sevalprocAttr])) rfl ?_
   obtain rfl := Option.some.inj hm0
   simp only [e2, xmh, ↓EVd, isCall, sevalprocAttr]
   all_goals first | done | rfl
 obtain rfl := Option.some.inj hm0
 simp only [e2, xmh, ↓EVd, isCall, sevalprocAttr]
 all_goals first | done | rfl
def xad (a0 : Branch) (a1 : Int) : Option (Bool) := (xle a0 a1).bind fun v1 => some (!v1)
def xhl := aI (aI (aI (@EV) (@R3)) (aI (@R26) (@DBranch))) (aI (aI (@DEntry) (@DOrigin)) (aI (@DAttr) (@DNode)))
set_option maxHeartbeats 2000000 in
theorem xlr (a0 : Branch) (a1 : Int) (r : Bool) (hm0 : xad a0 a1 = some r) : Ok Tryz.prog 15 [xp a0, .ptr (int a1) 0] (bool r) := by
 unfold xad at hm0
 refine okG xjr ?_
 unfold x0k
 obtain ⟨v1, h2, hm0⟩ := bsE hm0
 simp only [xhl, ↓EVd, isCall, sevalprocAttr]
 refine qc (x4k _ _ _ h2) rfl ?_
 obtain rfl := Option.some.inj hm0
 simp only [xhl, ↓EVd, isCall, sevalprocAttr]
 all_goals first | done | rfl
def xgg (a0 : Stack) (a1 : Int) : Option (Bool) := if (a0.lowers.length : Int) ≤ 3 then (xle a0.upper a1).bind fun v3 => if v3 = true then (x6g (fun z => xad z a1) a0.lowers).bind fun v7 => some (!v7)
 else some false
 else some false
def x9d := aI (aI (aI (@EV) (@R3)) (aI (@R26) (aI (@R27) (@R29)))) (aI (aI (@DBranch) (aI (@DStack) (@DEntry))) (aI (@DOrigin) (aI (@DAttr) (@DNode))))
set_option maxHeartbeats 2000000 in
theorem x2t (a0 : Stack) (a1 : Int) (r : Bool) (hm0 : xgg a0 a1 = some r) : Ok Tryz.prog 4 [xnb a0, int a1] (bool r) := by
 unfold xgg at hm0
 refine okG xjt ?_
 unfold xjn
 rcases iteE hm0 with ⟨e2, hm0⟩ | ⟨e2, hm0⟩
 · obtain ⟨v3, h4, hm0⟩ := bsE hm0
   simp only [e2, x9d, ↓EVd, isCall, sevalprocAttr]
   refine qc (x4k _ _ _ h4) rfl ?_
   rcases itbE hm0 with ⟨e6, hm0⟩ | ⟨e6, hm0⟩
   · obtain ⟨v7, h8, hm0⟩ := bsE hm0
     simp only [e2, e6, x9d, ↓EVd, isCall, sevalprocAttr]
     refine qcb (xmk xcf xtf xym x5i (fi := []) (ca := [.ptr (int a1) 0]) xp a0.lowers (fun z => xad z a1) _ h8 (fun z b hz => xlr z a1 b hz) (fun z => by simp only [CLO]) rfl (by simp only [CLO]) (fun z => by simp only [x9d, ↓EVd, isCall, sevalprocAttr])) rfl (by simp only [e2, e6, FZ, CLO, x9d, ↓EVd, isCall, sevalprocAttr]) ?_
     obtain rfl := Option.some.inj hm0
     simp only [e2, e6, x9d, ↓EVd, isCall, sevalprocAttr]
     all_goals first | done | rfl
   obtain rfl := Option.some.inj hm0
   simp only [e2, e6, x9d, ↓EVd, isCall, sevalprocAttr]
   all_goals first | done | rfl
 obtain rfl := Option.some.inj hm0
 simp only [e2, x9d, ↓EVd, isCall, sevalprocAttr]
 all_goals first | done | rfl
end Go.Proofs.YtefdlpandfhcgaaGreatDoor.AL

/- Models of functions, and that the functions are as their models: written by gen.py. -/
set_option linter.all false
set_option maxRecDepth 100000
namespace Go.Proofs.YtefdlpandfhcgaaGreatDoor.AL
open Go Go.Proofs
def xbj (a0 : Int) (a1 : Int) : Option (Bool) := (ck (¬ a1 = 0)).bind fun _ => if ((wr (a0.tdiv a1)).tmod 2) = 1 then some true
 else some false
def xlq := aI (@EV) (@R3)
set_option maxHeartbeats 2000000 in
theorem x4x (a0 : Int) (a1 : Int) (r : Bool) (hm0 : xbj a0 a1 = some r) : Ok Tryz.prog 39 [int a0, int a1] (bool r) := by
 unfold xbj at hm0
 refine okG xix ?_
 unfold xuq
 obtain ⟨e2, hm0⟩ := ckE hm0
 have e3 : ((2 : Int) = 0) = False := by decide
 rcases iteE hm0 with ⟨e5, hm0⟩ | ⟨e5, hm0⟩
 · obtain rfl := Option.some.inj hm0
   simp only [e2, e3, e5, xlq, ↓EVd, isCall, sevalprocAttr]
   all_goals first | done | rfl
 obtain rfl := Option.some.inj hm0
 simp only [e2, e3, e5, xlq, ↓EVd, isCall, sevalprocAttr]
 all_goals first | done | rfl
def xbf (a0 : Attr) (a1 : Int) : Option (Bool) := if 0 ≤ a0.has then (xbj a0.has a1).bind fun v3 => some v3
 else some false
def xtl := aI (aI (@EV) (@R3)) (aI (@R50) (aI (@DOrigin) (@DAttr)))
set_option maxHeartbeats 2000000 in
theorem xco (a0 : Attr) (a1 : Int) (r : Bool) (hm0 : xbf a0 a1 = some r) : Ok Tryz.prog 24 [xlh a0, int a1] (bool r) := by
 unfold xbf at hm0
 refine okG xww ?_
 unfold xsq
 rcases iteE hm0 with ⟨e2, hm0⟩ | ⟨e2, hm0⟩
 · obtain ⟨v3, h4, hm0⟩ := bsE hm0
   simp only [e2, xtl, ↓EVd, isCall, sevalprocAttr]
   refine qc (x4x _ _ _ h4) rfl ?_
   obtain rfl := Option.some.inj hm0
   simp only [e2, xtl, ↓EVd, isCall, sevalprocAttr]
   all_goals first | done | rfl
 obtain rfl := Option.some.inj hm0
 simp only [e2, xtl, ↓EVd, isCall, sevalprocAttr]
 all_goals first | done | rfl
def xcg (a0 : Stack) (a1 : Place) : Option (Node) := if a1.layer < 1 then some (⟨0, 0, 0, 0, [], [], (⟨0, 0, xq, (⟨0, 0, 0⟩ : Origin), 0⟩ : Attr)⟩ : Node)
 else if (a0.lowers.length : Int) < a1.layer then some (⟨0, 0, 0, 0, [], [], (⟨0, 0, xq, (⟨0, 0, 0⟩ : Origin), 0⟩ : Attr)⟩ : Node)
 else (ix a0.lowers (wr (a1.layer - 1))).bind fun v5 => (x7c v5 a1.ino).bind fun v8 => some v8
def x0h := aI (aI (aI (@EV) (aI (@R3) (@R26))) (aI (aI (@R27) (@R29)) (aI (@R52) (@R80)))) (aI (aI (aI (@DBranch) (@DStack)) (aI (@DEntry) (@DOrigin))) (aI (aI (@DAttr) (@DNode)) (aI (@DPlace) (@mixed))))
set_option maxHeartbeats 2000000 in
theorem x1t (a0 : Stack) (a1 : Place) (r : Node) (hm0 : xcg a0 a1 = some r) : Ok Tryz.prog 38 [xnb a0, x9f a1] (xj r) := by
 unfold xcg at hm0
 refine okG xkt ?_
 unfold x3m
 rcases iteE hm0 with ⟨e2, hm0⟩ | ⟨e2, hm0⟩
 · obtain rfl := Option.some.inj hm0
   simp only [e2, x0h, ↓EVd, isCall, sevalprocAttr]
   all_goals first | done | rfl | exact xc (by simp only [CLO]) | exact xn (by simp only [CLO]) (Sub.agg (Subs.cons (Sub.refl _) (Subs.cons (Sub.refl _) (Subs.cons (Sub.refl _) (Subs.cons (Sub.refl _) (Subs.cons (Sub.nilS _) (Subs.cons (Sub.nilS _) (Subs.cons (Sub.refl _) (Subs.cons (Sub.refl _) (Subs.cons (Sub.refl _) (Subs.cons (Sub.refl _) (Subs.cons (Sub.refl _) (Subs.cons (Sub.refl _) (Subs.cons (Sub.refl _) (Subs.nil)))))))))))))))
 rcases iteE hm0 with ⟨e4, hm0⟩ | ⟨e4, hm0⟩
 · obtain rfl := Option.some.inj hm0
   simp only [e2, e4, x0h, ↓EVd, isCall, sevalprocAttr]
   all_goals first | done | rfl | exact xc (by simp only [CLO]) | exact xn (by simp only [CLO]) (Sub.agg (Subs.cons (Sub.refl _) (Subs.cons (Sub.refl _) (Subs.cons (Sub.refl _) (Subs.cons (Sub.refl _) (Subs.cons (Sub.nilS _) (Subs.cons (Sub.nilS _) (Subs.cons (Sub.refl _) (Subs.cons (Sub.refl _) (Subs.cons (Sub.refl _) (Subs.cons (Sub.refl _) (Subs.cons (Sub.refl _) (Subs.cons (Sub.refl _) (Subs.cons (Sub.refl _) (Subs.nil)))))))))))))))
 obtain ⟨v5, e7, hm0⟩ := ixE xp hm0
 obtain ⟨v8, h9, hm0⟩ := bsE hm0
 simp only [e2, e4, e7, x0h, ↓EVd, isCall, sevalprocAttr]
 refine qd (x6e _ _ _ h9) rfl ?_
 obtain rfl := Option.some.inj hm0
 simp only [e2, e4, e7, x0h, ↓EVd, isCall, sevalprocAttr]
 all_goals first | done | rfl | exact xc (by simp only [CLO])
def x5g (a0 : Stack) (a1 : Origin) : Option (Node × Bool) := (xcg a0 (⟨a1.layer, a1.ino⟩ : Place)).bind fun v2 => if v2.kind = 1 then if v2.gen = a1.gen then some (v2, true)
 else some ((⟨0, 0, 0, 0, [], [], (⟨0, 0, xq, (⟨0, 0, 0⟩ : Origin), 0⟩ : Attr)⟩ : Node), false)
 else if v2.kind = 2 then if v2.gen = a1.gen then some (v2, true)
 else some ((⟨0, 0, 0, 0, [], [], (⟨0, 0, xq, (⟨0, 0, 0⟩ : Origin), 0⟩ : Attr)⟩ : Node), false)
 else if v2.kind = 3 then if v2.gen = a1.gen then some (v2, true)
 else some ((⟨0, 0, 0, 0, [], [], (⟨0, 0, xq, (⟨0, 0, 0⟩ : Origin), 0⟩ : Attr)⟩ : Node), false)
 else some ((⟨0, 0, 0, 0, [], [], (⟨0, 0, xq, (⟨0, 0, 0⟩ : Origin), 0⟩ : Attr)⟩ : Node), false)
def x1d := aI (aI (aI (@EV) (aI (@R3) (@R29))) (aI (@R48) (aI (@R52) (@R80)))) (aI (aI (@DBranch) (aI (@DStack) (@DEntry))) (aI (aI (@DOrigin) (@DAttr)) (aI (@DNode) (@DPlace))))
set_option maxHeartbeats 2000000 in
theorem xov (a0 : Stack) (a1 : Origin) (r : Node × Bool) (hm0 : x5g a0 a1 = some r) : Ok Tryz.prog 22 [xnb a0, xm a1] (.tup [xj r.1, bool r.2]) := by
 unfold x5g at hm0
 refine okG xfv ?_
 unfold xvo
 have e1 : (.agg [int a1.layer, int a1.ino] : AV) = x9f (⟨a1.layer, a1.ino⟩ : Place) := _root_.id rfl
 obtain ⟨v2, h3, hm0⟩ := bsE hm0
 simp only [e1, x1d, ↓EVd, isCall, sevalprocAttr]
 refine qc (x1t _ _ _ h3) rfl ?_
 rcases iteE hm0 with ⟨e5, hm0⟩ | ⟨e5, hm0⟩
 · rcases iteE hm0 with ⟨e7, hm0⟩ | ⟨e7, hm0⟩
   · obtain rfl := Option.some.inj hm0
     simp only [e1, e5, e7, x1d, ↓EVd, isCall, sevalprocAttr]
     all_goals first | done | rfl | exact xc (by simp only [CLO]) | exact xn (by simp only [CLO]) (Sub.tup (Subs.cons (Sub.refl _) (Subs.cons (Sub.refl _) (Subs.nil))))
   obtain rfl := Option.some.inj hm0
   simp only [e1, e5, e7, x1d, ↓EVd, isCall, sevalprocAttr]
   all_goals first | done | rfl | exact xc (by simp only [CLO]) | exact xn (by simp only [CLO]) (Sub.tup (Subs.cons (Sub.agg (Subs.cons (Sub.refl _) (Subs.cons (Sub.refl _) (Subs.cons (Sub.refl _) (Subs.cons (Sub.refl _) (Subs.cons (Sub.nilS _) (Subs.cons (Sub.nilS _) (Subs.cons (Sub.refl _) (Subs.cons (Sub.refl _) (Subs.cons (Sub.refl _) (Subs.cons (Sub.refl _) (Subs.cons (Sub.refl _) (Subs.cons (Sub.refl _) (Subs.cons (Sub.refl _) (Subs.nil))))))))))))))) (Subs.cons (Sub.refl _) (Subs.nil))))
 rcases iteE hm0 with ⟨e9, hm0⟩ | ⟨e9, hm0⟩
 · rcases iteE hm0 with ⟨e11, hm0⟩ | ⟨e11, hm0⟩
   · obtain rfl := Option.some.inj hm0
     simp only [e1, e5, e9, e11, x1d, ↓EVd, isCall, sevalprocAttr]
     all_goals first | done | rfl | exact xc (by simp only [CLO]) | exact xn (by simp only [CLO]) (Sub.tup (Subs.cons (Sub.refl _) (Subs.cons (Sub.refl _) (Subs.nil))))
   obtain rfl := Option.some.inj hm0
   simp only [e1, e5, e9, e11, x1d, ↓EVd, isCall, sevalprocAttr]
   all_goals first | done | rfl | exact xc (by simp only [CLO]) | exact xn (by simp only [CLO]) (Sub.tup (Subs.cons (Sub.agg (Subs.cons (Sub.refl _) (Subs.cons (Sub.refl _) (Subs.cons (Sub.refl _) (Subs.cons (Sub.refl _) (Subs.cons (Sub.nilS _) (Subs.cons (Sub.nilS _) (Subs.cons (Sub.refl _) (Subs.cons (Sub.refl _) (Subs.cons (Sub.refl _) (Subs.cons (Sub.refl _) (Subs.cons (Sub.refl _) (Subs.cons (Sub.refl _) (Subs.cons (Sub.refl _) (Subs.nil))))))))))))))) (Subs.cons (Sub.refl _) (Subs.nil))))
 rcases iteE hm0 with ⟨e13, hm0⟩ | ⟨e13, hm0⟩
 · rcases iteE hm0 with ⟨e15, hm0⟩ | ⟨e15, hm0⟩
   · obtain rfl := Option.some.inj hm0
     simp only [e1, e5, e9, e13, e15, x1d, ↓EVd, isCall, sevalprocAttr]
     all_goals first | done | rfl | exact xc (by simp only [CLO]) | exact xn (by simp only [CLO]) (Sub.tup (Subs.cons (Sub.refl _) (Subs.cons (Sub.refl _) (Subs.nil))))
   obtain rfl := Option.some.inj hm0
   simp only [e1, e5, e9, e13, e15, x1d, ↓EVd, isCall, sevalprocAttr]
   all_goals first | done | rfl | exact xc (by simp only [CLO]) | exact xn (by simp only [CLO]) (Sub.tup (Subs.cons (Sub.agg (Subs.cons (Sub.refl _) (Subs.cons (Sub.refl _) (Subs.cons (Sub.refl _) (Subs.cons (Sub.refl _) (Subs.cons (Sub.nilS _) (Subs.cons (Sub.nilS _) (Subs.cons (Sub.refl _) (Subs.cons (Sub.refl _) (Subs.cons (Sub.refl _) (Subs.cons (Sub.refl _) (Subs.cons (Sub.refl _) (Subs.cons (Sub.refl _) (Subs.cons (Sub.refl _) (Subs.nil))))))))))))))) (Subs.cons (Sub.refl _) (Subs.nil))))
 obtain rfl := Option.some.inj hm0
 simp only [e1, e5, e9, e13, x1d, ↓EVd, isCall, sevalprocAttr]
 all_goals first | done | rfl | exact xc (by simp only [CLO]) | exact xn (by simp only [CLO]) (Sub.tup (Subs.cons (Sub.agg (Subs.cons (Sub.refl _) (Subs.cons (Sub.refl _) (Subs.cons (Sub.refl _) (Subs.cons (Sub.refl _) (Subs.cons (Sub.nilS _) (Subs.cons (Sub.nilS _) (Subs.cons (Sub.refl _) (Subs.cons (Sub.refl _) (Subs.cons (Sub.refl _) (Subs.cons (Sub.refl _) (Subs.cons (Sub.refl _) (Subs.cons (Sub.refl _) (Subs.cons (Sub.refl _) (Subs.nil))))))))))))))) (Subs.cons (Sub.refl _) (Subs.nil))))
end Go.Proofs.YtefdlpandfhcgaaGreatDoor.AL

/- Plain laws: the guard of chapter 16's statements. -/
set_option linter.all false
namespace Go.Proofs.YtefdlpandfhcgaaGreatDoor.AL
open Go Go.Proofs
theorem xz0 (n : Int) : ∃ r, xpf n = some r := by
  unfold xpf
  repeat' split
  all_goals exact ⟨_, rfl⟩
theorem xv2 (s : ByteArray) : ∃ r, xag s = some r := by
  unfold xag
  by_cases h1 : (s.size : Int) < 1
  · rw [if_pos h1]; exact ⟨_, rfl⟩
  rw [if_neg h1]
  by_cases h2 : 12 < (s.size : Int)
  · rw [if_pos h2]; exact ⟨_, rfl⟩
  rw [if_neg h2]
  split
  · exact ⟨_, rfl⟩
  split
  · exact ⟨_, rfl⟩
  obtain ⟨r, h3, _⟩ := xyf (B := x8f s) (R := fun _ => True) (fun i t => t = (i : Int) ∧ i ≤ s.size) s.size (by
    rintro i t ⟨rfl, hi⟩
    refine ⟨hi, ?_⟩
    simp only [x8f]
    by_cases hlt : i < s.size
    · rw [if_pos (by omega)]
      have hx : ixB s (i : Int) = some s[i] := by
        unfold ixB
        rw [if_pos (by omega)]
        simp [hlt]
      rw [hx]
      simp only [Option.bind_some]
      obtain ⟨r, hr⟩ := xz0 (s[i].toNat : Int)
      rw [hr]
      simp only [Option.bind_some]
      split
      · exact .inr ⟨_, rfl, trivial⟩
      · rw [wr_suc (by omega)]
        exact .inl ⟨_, rfl, rfl, by omega⟩
    · rw [if_neg (by omega)]
      exact .inr ⟨_, rfl, trivial⟩) big 0 0 ⟨rfl, by omega⟩ (by rw [big_eq]; omega)
  rw [h3]
  cases r with
  | inl u => exact ⟨_, rfl⟩
  | inr r => exact ⟨_, rfl⟩
theorem xu7 (e : Entry) : ∃ r, xsg e = some r := by
  unfold xsg
  obtain ⟨r, hr⟩ := xv2 e.name
  rw [hr]
  exact ⟨_, rfl⟩
structure NB (x : Node) : Prop where
  ents : x.entries.length ≤ 16
  has0 : 0 ≤ x.attr.has
  has1 : x.attr.has ≤ 31
theorem xou (x : Node) : ∃ r, xjf x = some r ∧ (r = true → NB x ∧ x.data.length ≤ 300) := by
  unfold xjf
  obtain ⟨r, h3, h4⟩ := xyf (B := xug x) (R := fun r => match r with | .inl _ => True | .inr r => r = false) (fun i t => t = (i : Int) ∧ i ≤ x.entries.length ∧ ∀ (h : 0 < i) (h' : i - 1 < x.entries.length), (i : Int) - 1 ≤ x.entries[i - 1].slot ∧ x.entries[i - 1].slot < 16) 16 (by
    rintro i t ⟨rfl, hi, hp⟩
    refine ⟨?_, ?_⟩
    · by_cases h0 : 0 < i
      · have := hp h0 (by omega); omega
      · omega
    simp only [xug]
    by_cases hlt : i < x.entries.length
    · have hi16 : i ≤ 16 := by
        by_cases h0 : 0 < i
        · have := hp h0 (by omega); omega
        · omega
      rw [if_pos (by omega), ix_at hlt]
      simp only [Option.bind_some]
      by_cases c1 : x.entries[i].slot < 0
      · rw [if_pos c1]; exact .inr ⟨_, rfl, rfl⟩
      rw [if_neg c1]
      by_cases c2 : 16 ≤ x.entries[i].slot
      · rw [if_pos c2]; exact .inr ⟨_, rfl, rfl⟩
      rw [if_neg c2]
      by_cases c3 : 0 < i
      · have hw : wr ((i : Int) - 1) = ((i - 1 : Nat) : Int) := by rw [wr_in (by omega) (by omega)]; omega
        have hlt' : i - 1 < x.entries.length := by omega
        rw [if_pos (by omega), hw, ix_at hlt']
        simp only [Option.bind_some]
        by_cases c4 : x.entries[i].slot ≤ x.entries[i - 1].slot
        · rw [if_pos c4]; exact .inr ⟨_, rfl, rfl⟩
        · rw [if_neg c4, wr_suc (by omega)]
          refine .inl ⟨_, rfl, rfl, by omega, fun h h' => ?_⟩
          have := hp c3 hlt'
          simp only [Nat.add_sub_cancel]
          omega
      · rw [if_neg (by omega), wr_suc (by omega)]
        refine .inl ⟨_, rfl, rfl, by omega, fun h h' => ?_⟩
        simp only [Nat.add_sub_cancel]
        omega
    · rw [if_neg (by omega)]
      exact .inr ⟨_, rfl, trivial⟩) big 0 0 ⟨rfl, by omega, fun h => by omega⟩ (by rw [big_eq]; omega)
  rw [h3]
  cases r with
  | inr r => simp only at h4; subst h4; exact ⟨_, rfl, fun h => by cases h⟩
  | inl u =>
    simp only [Option.bind_some]
    repeat' (first
      | exact ⟨_, rfl, fun h => by cases h⟩
      | split)
    rename_i c1 c2 c3 c4 c5 c6 c7 c8 c9
    obtain ⟨f, hf⟩ := x7s xu7
    rw [xkk (f := f) x.entries (fun y _ => hf y) (by omega)]
    exact ⟨_, rfl, fun _ => ⟨⟨by omega, c5, c6⟩, by omega⟩⟩
theorem xs5 (x : Node) : ∃ r, xjf x = some r ∧ (r = true → NB x) := by
  obtain ⟨r, h1, h2⟩ := xou x
  exact ⟨r, h1, fun h => (h2 h).1⟩
theorem xol (b : Branch) (k : Int) (hk : k ≤ 1000) : ∃ r, xle b k = some r ∧ (r = true → (b.nodes.length : Int) ≤ k ∧ ∀ x ∈ b.nodes, NB x ∧ x.data.length ≤ 300) := by
  unfold xle
  by_cases h : (b.nodes.length : Int) ≤ k
  · rw [if_pos h]
    have ht : ∀ x, ∃ r, x0c x = some r := fun x => by
      obtain ⟨r, h1, _⟩ := xs5 x
      unfold x0c
      rw [h1]
      exact ⟨_, rfl⟩
    obtain ⟨f, hf⟩ := x7s ht
    rw [xkk (f := f) b.nodes (fun y _ => hf y) (by omega)]
    refine ⟨_, rfl, fun hr => ⟨by omega, fun x hx => ?_⟩⟩
    have hx' : f x = false := by
      simp only [Bool.not_eq_true', List.any_eq_false] at hr
      simpa using hr x hx
    obtain ⟨r, h1, h2⟩ := xou x
    have := hf x
    unfold x0c at this
    rw [h1, hx'] at this
    simp only [Option.bind_some, Option.some.injEq, Bool.not_eq_false'] at this
    exact h2 this
  · rw [if_neg h]
    exact ⟨_, rfl, fun h => by cases h⟩
structure SB (s : Stack) : Prop where
  low : s.lowers.length ≤ 3
  up : s.upper.nodes.length ≤ 24 ∧ ∀ x ∈ s.upper.nodes, NB x
  lows : ∀ b ∈ s.lowers, b.nodes.length ≤ 24 ∧ ∀ x ∈ b.nodes, NB x
structure SD (s : Stack) (k : Int) : Prop where
  few : (s.upper.nodes.length : Int) ≤ k
  data : ∀ x ∈ s.upper.nodes, x.data.length ≤ 300
  datas : ∀ b ∈ s.lowers, (b.nodes.length : Int) ≤ k ∧ ∀ x ∈ b.nodes, x.data.length ≤ 300
theorem xrz (s : Stack) (k : Int) (hk : k ≤ 24) : ∃ r, xgg s k = some r ∧ (r = true → SB s ∧ SD s k) := by
  unfold xgg
  by_cases h : (s.lowers.length : Int) ≤ 3
  · rw [if_pos h]
    obtain ⟨r, h1, h2⟩ := xol s.upper k (by omega)
    rw [h1]
    simp only [Option.bind_some]
    cases r with
    | false => exact ⟨false, by simp, fun h => by cases h⟩
    | true =>
      rw [if_pos rfl]
      have ht : ∀ x, ∃ r, xad x k = some r := fun x => by
        obtain ⟨r, h1, _⟩ := xol x k (by omega)
        unfold xad
        rw [h1]
        exact ⟨_, rfl⟩
      obtain ⟨f, hf⟩ := x7s ht
      rw [xkk (f := f) s.lowers (fun y _ => hf y) (by omega)]
      refine ⟨_, rfl, fun hr => ?_⟩
      have hu := h2 rfl
      have hl : ∀ x ∈ s.lowers, (x.nodes.length : Int) ≤ k ∧ ∀ y ∈ x.nodes, NB y ∧ y.data.length ≤ 300 := fun x hx => by
        have hx' : f x = false := by
          simp only [Bool.not_eq_true', List.any_eq_false] at hr
          simpa using hr x hx
        obtain ⟨r, h1, h2⟩ := xol x k (by omega)
        have := hf x
        unfold xad at this
        rw [h1, hx'] at this
        simp only [Option.bind_some, Option.some.injEq, Bool.not_eq_false'] at this
        exact h2 this
      exact ⟨⟨by omega, ⟨by omega, fun x hx => (hu.2 x hx).1⟩, fun b hb => ⟨by have := (hl b hb).1; omega, fun x hx => ((hl b hb).2 x hx).1⟩⟩, ⟨hu.1, fun x hx => (hu.2 x hx).2, fun b hb => ⟨(hl b hb).1, fun x hx => ((hl b hb).2 x hx).2⟩⟩⟩
  · rw [if_neg h]
    exact ⟨_, rfl, fun h => by cases h⟩
end Go.Proofs.YtefdlpandfhcgaaGreatDoor.AL

/- Plain laws, part 0: nodes. -/
set_option linter.all false
namespace Go.Proofs.YtefdlpandfhcgaaGreatDoor.AL
open Go Go.Proofs
def xub : Node := ⟨0, 0, 0, 0, [], [], ⟨0, 0, xq, ⟨0, 0, 0⟩, 0⟩⟩
def nodeP (b : Branch) (ino : Int) : Node := if ino < 1 then xub else if (b.nodes.length : Int) < ino then xub else (b.nodes[(ino - 1).toNat]?).getD xub
structure PB (b : Branch) : Prop where
  len : b.nodes.length ≤ 24
  ents : ∀ x ∈ b.nodes, x.entries.length ≤ 16
theorem at_eq {b : Branch} (hb : PB b) (ino : Int) : x7c b ino = some (nodeP b ino) := by
  unfold x7c nodeP
  split
  · rfl
  · split
    · rfl
    · rename_i h1 h2
      have := hb.len
      rw [wr_in (by omega) (by omega), ix_of (by omega) (by omega)]
      have hlt : (ino - 1).toNat < b.nodes.length := by omega
      simp only [Option.bind_some, List.getElem?_eq_getElem hlt, Option.getD_some]
theorem xjh {b : Branch} (hb : PB b) (ino : Int) : (nodeP b ino).entries.length ≤ 16 := by
  unfold nodeP
  split
  · simp [xub]
  · split
    · simp [xub]
    · rename_i h1 h2
      have hlt : (ino - 1).toNat < b.nodes.length := by omega
      simp only [List.getElem?_eq_getElem hlt, Option.getD_some]
      exact hb.ents _ (List.getElem_mem hlt)
theorem xnh {b : Branch} {ino : Int} (h : (nodeP b ino).kind = 1) : 1 ≤ ino ∧ ino ≤ (b.nodes.length : Int) := by
  unfold nodeP at h
  split at h
  · simp [xub] at h
  · split at h
    · simp [xub] at h
    · omega
end Go.Proofs.YtefdlpandfhcgaaGreatDoor.AL

