/- A law of the given program is proved: part 33 of 49. -/
import Derived.Test.YtmacnoajlofdbaaDoorA32
set_option linter.all false
/- '==' of plain structs, printed by eqrules.py. -/
set_option linter.all false
set_option maxRecDepth 100000
namespace Go.Proofs.YtmacnoajlofdbaaDoor.AL
open Go Go.Proofs
theorem eqv_38 (x y : Finding) : evalEq Tryd.prog 40 38 (xq x) (xq y) = some ((x.clause == y.clause) && ((x.layer == y.layer) && ((x.ino == y.ino) && ((x.slot == y.slot) && true)))) := by kernel_rfl
theorem eqg_38 : Program.eqGuardType Tryd.prog (Program.depth Tryd.prog) 38 = false := by kernel_rfl
theorem eqd_38 (x y : Finding) : ((x.clause == y.clause) && ((x.layer == y.layer) && ((x.ino == y.ino) && ((x.slot == y.slot) && true)))) = decide (x = y) := by
  rw [Bool.eq_iff_iff]
  obtain ⟨z25, z26, z27, z28⟩ := x
  obtain ⟨z29, z30, z31, z32⟩ := y
  simp [xhm, Finding.mk.injEq]
theorem eqE_38 (x y : Finding) : binK Tryd.prog .eql 38 (xq x) (xq y) = brR (decide (x = y)) := by
  have h := eqv_38 x y
  rw [eqd_38] at h
  have g := eqg_38
  simp only [binK, xjc, xq] at h ⊢
  rw [h, if_neg (by rw [g]; simp)]
  rfl
theorem eqN_38 (x y : Finding) : binK Tryd.prog .neq 38 (xq x) (xq y) = brR (!(decide (x = y))) := by
  have h := eqv_38 x y
  rw [eqd_38] at h
  have g := eqg_38
  simp only [binK, xjc, xq] at h ⊢
  rw [h, if_neg (by rw [g]; simp)]
  rfl
def eq38 := aI @eqE_38 (aI @eqN_38 (aI @Bool.not_true @Bool.not_false))
theorem eqv_65 (x y : Place) : evalEq Tryd.prog 40 65 (xj x) (xj y) = some ((x.layer == y.layer) && ((x.ino == y.ino) && true)) := by kernel_rfl
theorem eqg_65 : Program.eqGuardType Tryd.prog (Program.depth Tryd.prog) 65 = false := by kernel_rfl
theorem eqd_65 (x y : Place) : ((x.layer == y.layer) && ((x.ino == y.ino) && true)) = decide (x = y) := by
  rw [Bool.eq_iff_iff]
  obtain ⟨z77, z78⟩ := x
  obtain ⟨z79, z80⟩ := y
  simp [xhm, Place.mk.injEq]
theorem eqE_65 (x y : Place) : binK Tryd.prog .eql 65 (xj x) (xj y) = brR (decide (x = y)) := by
  have h := eqv_65 x y
  rw [eqd_65] at h
  have g := eqg_65
  simp only [binK, xjc, xj] at h ⊢
  rw [h, if_neg (by rw [g]; simp)]
  rfl
theorem eqN_65 (x y : Place) : binK Tryd.prog .neq 65 (xj x) (xj y) = brR (!(decide (x = y))) := by
  have h := eqv_65 x y
  rw [eqd_65] at h
  have g := eqg_65
  simp only [binK, xjc, xj] at h ⊢
  rw [h, if_neg (by rw [g]; simp)]
  rfl
def eq65 := aI @eqE_65 (aI @eqN_65 (aI @Bool.not_true @Bool.not_false))
def kv_65 (x : Place) : Value := .agg #[.int .i64 x.layer, .int .i64 x.ino]
theorem kc_65 (x : Place) : chkB Tryd.prog 65 (kv_65 x) = true := by kernel_rfl
theorem kb_65 (x : Place) : Instr.sameBits 10000 (kv_65 x) (kv_65 x) = true := by simp [kv_65, Instr.sameBits]
theorem ko_65 : KeyOf Tryd.prog 65 kv_65 := ⟨kc_65, fun a b => (show evalEq Tryd.prog 40 65 (xj a) (xj b) = some (decide (a = b)) from by rw [eqv_65, eqd_65]), kb_65⟩
noncomputable def xtt (c : Bool) (x : Place) (o : Option AO) : Option AV := x4e Tryd.prog 99 c o [int x.layer, int x.ino]
theorem lkE_99 (c : Bool) (V : Nat → Option AO) (l : Nat) (x : Place) : xrd Tryd.prog 99 c V (.mp l) (xj x) = xtt c x (V l) := _root_.id rfl
theorem lkF_99 (x : Place) (m : MapK Place) : xtt false x (some (kOb kv_65 m)) = some (int (mgetK m x)) := xpz ko_65 (show Program.underlying Tryd.prog 99 = some (.map 65 3) by kernel_rfl) (show zeroOf Tryd.prog 3 = some (.val (.int .i64 0)) by kernel_rfl) false m (ws := [.int .i64 x.layer, .int .i64 x.ino]) rfl rfl
theorem lkT_99 (x : Place) (m : MapK Place) : xtt true x (some (kOb kv_65 m)) = some (.tup [int (mgetK m x), bool (mhasK m x)]) := xpz ko_65 (show Program.underlying Tryd.prog 99 = some (.map 65 3) by kernel_rfl) (show zeroOf Tryd.prog 3 = some (.val (.int .i64 0)) by kernel_rfl) true m (ws := [.int .i64 x.layer, .int .i64 x.ino]) rfl rfl
noncomputable def x82 (l : Nat) (x : Place) (v : AV) (o : Option AO) : Option Upds := x6d Tryd.prog 99 l o [int x.layer, int x.ino] v
theorem upE_99 (V : Nat → Option AO) (l : Nat) (x : Place) (v : AV) : xhd Tryd.prog 99 V (.mp l) (xj x) v = x82 l x v (V l) := _root_.id rfl
theorem upO_99 (l : Nat) (x : Place) (n : Int) (m : MapK Place) : x82 l x (int n) (some (kOb kv_65 m)) = some [(l, some (kOb kv_65 (msetK m x n)))] := x3eb ko_65 (show Program.underlying Tryd.prog 99 = some (.map 65 3) by kernel_rfl) m (ws := [.int .i64 x.layer, .int .i64 x.ino]) rfl rfl l n
noncomputable def xs2 (l : Nat) (x : Place) (o : Option AO) : Option (AV × Upds) := xvm Tryd.prog 99 l o [int x.layer, int x.ino]
theorem dlE_99 (V : Nat → Option AO) (l : Nat) (x : Place) : xwf Tryd.prog 99 V (.mp l) (xj x) = xs2 l x (V l) := _root_.id rfl
theorem dlO_99 (l : Nat) (x : Place) (m : MapK Place) : xs2 l x (some (kOb kv_65 m)) = some (.tup [], [(l, some (kOb kv_65 (mdelK m x)))]) := xzeb ko_65 (show Program.underlying Tryd.prog 99 = some (.map 65 3) by kernel_rfl) m (ws := [.int .i64 x.layer, .int .i64 x.ino]) rfl rfl l
noncomputable def x72 (l : Nat) (x : Place) (o : Option AO) : Option (AV × Upds) := x2n Tryd.prog 99 l o [int x.layer, int x.ino]
theorem meE_99 (V : Nat → Option AO) (l : Nat) (x : Place) : xcd Tryd.prog 99 V (.mp l) (xj x) = x72 l x (V l) := _root_.id rfl
theorem meO_99 (l : Nat) (x : Place) (m : MapK Place) : x72 l x (some (kOb kv_65 m)) = some (.tup [int (mgetK m x), int (bornK m x)], [(l, some (kOb kv_65 (mentM m x)))]) := xjdb ko_65 (show Program.underlying Tryd.prog 99 = some (.map 65 3) by kernel_rfl) (show zeroOf Tryd.prog 3 = some (.val (.int .i64 0)) by kernel_rfl) m (ws := [.int .i64 x.layer, .int .i64 x.ino]) rfl rfl l
theorem mkO_99 (new : Nat) : xzf Tryd.prog 99 new = some (.mp new, [(new, some (kOb kv_65 emptyK))]) := by kernel_rfl
def KM99 := aI (aI (aI (aI @lkE_99 @lkF_99) (aI @lkT_99 @upE_99)) (aI (aI @upO_99 @dlE_99) (aI @dlO_99 @xdbb))) (aI (aI (aI @meE_99 @meO_99) (aI @mkO_99 @xe4)) (aI @xk1 @esE))
end Go.Proofs.YtmacnoajlofdbaaDoor.AL

