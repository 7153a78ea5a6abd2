/- A law of the given program is proved: part 33 of 51. -/
import Derived.Test.YtfkgckbdknpcnaaGreatDoorA32
set_option linter.all false
/- '==' of plain structs, printed by eqrules.py. -/
set_option linter.all false
set_option maxRecDepth 100000
namespace Go.Proofs.YtfkgckbdknpcnaaGreatDoor.AL
open Go Go.Proofs
theorem eqv_36 (x y : Finding) : evalEq Tryz.prog 40 36 (xcb x) (xcb y) = some ((x.clause == y.clause) && ((x.layer == y.layer) && ((x.ino == y.ino) && ((x.slot == y.slot) && true)))) := by kernel_rfl
theorem eqg_36 : Program.eqGuardType Tryz.prog (Program.depth Tryz.prog) 36 = false := by kernel_rfl
theorem eqd_36 (x y : Finding) : ((x.clause == y.clause) && ((x.layer == y.layer) && ((x.ino == y.ino) && ((x.slot == y.slot) && true)))) = decide (x = y) := by
  rw [Bool.eq_iff_iff]
  obtain ⟨z25, z26, z27, z28⟩ := x
  obtain ⟨z29, z30, z31, z32⟩ := y
  simp [xio, Finding.mk.injEq]
theorem eqE_36 (x y : Finding) : binK Tryz.prog .eql 36 (xcb x) (xcb y) = brR (decide (x = y)) := by
  have h := eqv_36 x y
  rw [eqd_36] at h
  have g := eqg_36
  simp only [binK, xlc, xcb] at h ⊢
  rw [h, if_neg (by rw [g]; simp)]
  rfl
theorem eqN_36 (x y : Finding) : binK Tryz.prog .neq 36 (xcb x) (xcb y) = brR (!(decide (x = y))) := by
  have h := eqv_36 x y
  rw [eqd_36] at h
  have g := eqg_36
  simp only [binK, xlc, xcb] at h ⊢
  rw [h, if_neg (by rw [g]; simp)]
  rfl
def eq36 := aI @eqE_36 (aI @eqN_36 (aI @Bool.not_true @Bool.not_false))
theorem eqv_41 (x y : Place) : evalEq Tryz.prog 40 41 (xc x) (xc y) = some ((x.layer == y.layer) && ((x.ino == y.ino) && true)) := by kernel_rfl
theorem eqg_41 : Program.eqGuardType Tryz.prog (Program.depth Tryz.prog) 41 = false := by kernel_rfl
theorem eqd_41 (x y : Place) : ((x.layer == y.layer) && ((x.ino == y.ino) && true)) = decide (x = y) := by
  rw [Bool.eq_iff_iff]
  obtain ⟨z37, z38⟩ := x
  obtain ⟨z39, z40⟩ := y
  simp [xio, Place.mk.injEq]
theorem eqE_41 (x y : Place) : binK Tryz.prog .eql 41 (xc x) (xc y) = brR (decide (x = y)) := by
  have h := eqv_41 x y
  rw [eqd_41] at h
  have g := eqg_41
  simp only [binK, xlc, xc] at h ⊢
  rw [h, if_neg (by rw [g]; simp)]
  rfl
theorem eqN_41 (x y : Place) : binK Tryz.prog .neq 41 (xc x) (xc y) = brR (!(decide (x = y))) := by
  have h := eqv_41 x y
  rw [eqd_41] at h
  have g := eqg_41
  simp only [binK, xlc, xc] at h ⊢
  rw [h, if_neg (by rw [g]; simp)]
  rfl
def eq41 := aI @eqE_41 (aI @eqN_41 (aI @Bool.not_true @Bool.not_false))
def kv_41 (x : Place) : Value := .agg #[.int .i64 x.layer, .int .i64 x.ino]
theorem kc_41 (x : Place) : chkB Tryz.prog 41 (kv_41 x) = true := by kernel_rfl
theorem kb_41 (x : Place) : Instr.sameBits 10000 (kv_41 x) (kv_41 x) = true := by simp [kv_41, Instr.sameBits]
theorem ko_41 : KeyOf Tryz.prog 41 kv_41 := ⟨kc_41, fun a b => (show evalEq Tryz.prog 40 41 (xc a) (xc b) = some (decide (a = b)) from by rw [eqv_41, eqd_41]), kb_41⟩
noncomputable def x9v (c : Bool) (x : Place) (o : Option AO) : Option AV := x4f Tryz.prog 89 c o [int x.layer, int x.ino]
theorem lkE_89 (c : Bool) (V : Nat → Option AO) (l : Nat) (x : Place) : xfe Tryz.prog 89 c V (.mp l) (xc x) = x9v c x (V l) := _root_.id rfl
theorem lkF_89 (x : Place) (m : MapK Place) : x9v false x (some (kOb kv_41 m)) = some (int (mgetK m x)) := xe4 ko_41 (show Program.underlying Tryz.prog 89 = some (.map 41 3) by kernel_rfl) (show zeroOf Tryz.prog 3 = some (.val (.int .i64 0)) by kernel_rfl) false m (ws := [.int .i64 x.layer, .int .i64 x.ino]) rfl rfl
theorem lkT_89 (x : Place) (m : MapK Place) : x9v true x (some (kOb kv_41 m)) = some (.tup [int (mgetK m x), bool (mhasK m x)]) := xe4 ko_41 (show Program.underlying Tryz.prog 89 = some (.map 41 3) by kernel_rfl) (show zeroOf Tryz.prog 3 = some (.val (.int .i64 0)) by kernel_rfl) true m (ws := [.int .i64 x.layer, .int .i64 x.ino]) rfl rfl
noncomputable def xm6 (l : Nat) (x : Place) (v : AV) (o : Option AO) : Option Upds := xze Tryz.prog 89 l o [int x.layer, int x.ino] v
theorem upE_89 (V : Nat → Option AO) (l : Nat) (x : Place) (v : AV) : xud Tryz.prog 89 V (.mp l) (xc x) v = xm6 l x v (V l) := _root_.id rfl
theorem upO_89 (l : Nat) (x : Place) (n : Int) (m : MapK Place) : xm6 l x (int n) (some (kOb kv_41 m)) = some [(l, some (kOb kv_41 (msetK m x n)))] := x3gb ko_41 (show Program.underlying Tryz.prog 89 = some (.map 41 3) by kernel_rfl) m (ws := [.int .i64 x.layer, .int .i64 x.ino]) rfl rfl l n
noncomputable def xu6 (l : Nat) (x : Place) (o : Option AO) : Option (AV × Upds) := x6o Tryz.prog 89 l o [int x.layer, int x.ino]
theorem dlE_89 (V : Nat → Option AO) (l : Nat) (x : Place) : xvg Tryz.prog 89 V (.mp l) (xc x) = xu6 l x (V l) := _root_.id rfl
theorem dlO_89 (l : Nat) (x : Place) (m : MapK Place) : xu6 l x (some (kOb kv_41 m)) = some (.tup [], [(l, some (kOb kv_41 (mdelK m x)))]) := xegb ko_41 (show Program.underlying Tryz.prog 89 = some (.map 41 3) by kernel_rfl) m (ws := [.int .i64 x.layer, .int .i64 x.ino]) rfl rfl l
noncomputable def xx6 (l : Nat) (x : Place) (o : Option AO) : Option (AV × Upds) := xbq Tryz.prog 89 l o [int x.layer, int x.ino]
theorem meE_89 (V : Nat → Option AO) (l : Nat) (x : Place) : xqd Tryz.prog 89 V (.mp l) (xc x) = xx6 l x (V l) := _root_.id rfl
theorem meO_89 (l : Nat) (x : Place) (m : MapK Place) : xx6 l x (some (kOb kv_41 m)) = some (.tup [int (mgetK m x), int (bornK m x)], [(l, some (kOb kv_41 (mentM m x)))]) := x3fb ko_41 (show Program.underlying Tryz.prog 89 = some (.map 41 3) by kernel_rfl) (show zeroOf Tryz.prog 3 = some (.val (.int .i64 0)) by kernel_rfl) m (ws := [.int .i64 x.layer, .int .i64 x.ino]) rfl rfl l
theorem mkO_89 (new : Nat) : x3g Tryz.prog 89 new = some (.mp new, [(new, some (kOb kv_41 emptyK))]) := by kernel_rfl
def KM89 := aI (aI (aI (aI @lkE_89 @lkF_89) (aI @lkT_89 @upE_89)) (aI (aI @upO_89 @dlE_89) (aI @dlO_89 @xkdb))) (aI (aI (aI @meE_89 @meO_89) (aI @mkO_89 @xo7)) (aI @xf3 @esE))
end Go.Proofs.YtfkgckbdknpcnaaGreatDoor.AL

