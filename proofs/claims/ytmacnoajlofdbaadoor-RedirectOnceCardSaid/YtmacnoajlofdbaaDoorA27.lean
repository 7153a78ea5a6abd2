/- A law of the given program is proved: part 27 of 49. -/
import Derived.Test.YtmacnoajlofdbaaDoorA26
set_option linter.all false
/- AL: the evaluator's rules with the facts of this seat's types, printed by rules.py. -/
set_option linter.unusedSimpArgs false
set_option linter.unusedVariables false
namespace Go.Proofs.YtmacnoajlofdbaaDoor.AL
open Go Go.Proofs
set_option maxRecDepth 100000
theorem mixed : Tryd.prog.follows .mixedOrders = true := by kernel_rfl
theorem zero_3 : zeroOf Tryd.prog 3 = some (.val (.int .i64 0)) := by kernel_rfl
theorem zero_4 : zeroOf Tryd.prog 4 = some (.val (.bool false)) := by kernel_rfl
theorem zero_9 : zeroOf Tryd.prog 9 = some (.val (.string ⟨#[]⟩)) := by kernel_rfl
theorem x0bb : zeroOf Tryd.prog 29 = some (.agg [.val (.int .i64 0), .val (.int .i64 0), .val (.int .i64 0), .val (.int .i64 0), .val (.slice none 0 0), .val (.slice none 0 0)]) := by kernel_rfl
theorem xcdb : zeroOf Tryd.prog 32 = some (.val (.slice none 0 0)) := by kernel_rfl
theorem xkw : zeroOf Tryd.prog 38 = some (.agg [.val (.int .i64 0), .val (.int .i64 0), .val (.int .i64 0), .val (.int .i64 0)]) := by kernel_rfl
theorem xodb : zeroOf Tryd.prog 45 = some (.agg [.val (.int .i64 0), .val (.int .i64 0), .val (.string ⟨#[]⟩), .val (.int .i64 0), .val (.int .i64 0), .val (.int .i64 0), .val (.int .i64 0)]) := by kernel_rfl
theorem x6v : zeroOf Tryd.prog 47 = some (.agg [.val (.int .i64 0), .val (.int .i64 0), .val (.int .i64 0), .val (.int .i64 0), .val (.slice none 0 0), .val (.slice none 0 0), .val (.int .i64 0), .val (.int .i64 0), .val (.string ⟨#[]⟩), .val (.int .i64 0), .val (.int .i64 0), .val (.int .i64 0), .val (.int .i64 0)]) := by kernel_rfl
theorem x7r : zeroOf Tryd.prog 65 = some (.agg [.val (.int .i64 0), .val (.int .i64 0)]) := by kernel_rfl
theorem x7v : zeroOf Tryd.prog 71 = some (.agg [.val (.int .i64 0), .val (.int .i64 0), .val (.string ⟨#[]⟩)]) := by kernel_rfl
theorem xbcb : zeroOf Tryd.prog 74 = some (.agg [.val (.int .i64 0), .val (.int .i64 0), .val (.string ⟨#[]⟩)]) := by kernel_rfl
theorem x8cb : zeroOf Tryd.prog 77 = some (.agg [.val (.int .i64 0), .val (.int .i64 0), .val (.int .i64 0), .val (.int .i64 0), .val (.slice none 0 0), .val (.slice none 0 0), .val (.slice none 0 0), .val (.slice none 0 0)]) := by kernel_rfl
theorem x0t : zeroOf Tryd.prog 112 = some (.agg [.val (.int .i64 0), .val (.slice none 0 0)]) := by kernel_rfl
theorem x20 : zeroOf Tryd.prog 114 = some (.agg [.val (.int .i64 0), .val (.int .i64 0)]) := by kernel_rfl
theorem x29 : zeroOf Tryd.prog 116 = some (.agg [.val (.int .i64 0), .val (.int .i64 0), .val (.int .i64 0), .val (.int .i64 0), .val (.slice none 0 0), .val (.slice none 0 0)]) := by kernel_rfl
theorem ld_1 (y : AV) (off : Nat) : evalLd Tryd.prog 1 y off = ldOne y off := ld_one _ aggN_1 y off
theorem ld_2 (y : AV) (off : Nat) : evalLd Tryd.prog 2 y off = ldOne y off := ld_one _ aggN_2 y off
theorem ld_3 (y : AV) (off : Nat) : evalLd Tryd.prog 3 y off = ldOne y off := ld_one _ aggN_3 y off
theorem st_3 (V : Nat → Option AO) (l sz i off : Nat) (v : AV) : xob Tryd.prog 3 V (.loc l sz i off) v = if xi v 1 = true then (rowT (V l) sz i).bind fun p => (stAV p.2.2 off v).map fun x' => [(l, some (.row p.1 sz (p.2.1.set i x')))] else none := x9b _ aggN_3 V l sz i off v
theorem bx_3 (x : Operand) (V : Nat → Option AO) (new : Nat) (ρ : Operand → AV) : evalOp Tryd.prog (.box 3 x) V new ρ = if xi (ρ x) 1 = true then some (.loc new 1 0 0, [(new, some (.row 3 1 [ρ x]))]) else none := by rw [E_box, aggN_3, x8c]
theorem ld_4 (y : AV) (off : Nat) : evalLd Tryd.prog 4 y off = ldOne y off := ld_one _ aggN_4 y off
theorem st_4 (V : Nat → Option AO) (l sz i off : Nat) (v : AV) : xob Tryd.prog 4 V (.loc l sz i off) v = if xi v 1 = true then (rowT (V l) sz i).bind fun p => (stAV p.2.2 off v).map fun x' => [(l, some (.row p.1 sz (p.2.1.set i x')))] else none := x9b _ aggN_4 V l sz i off v
theorem ld_9 (y : AV) (off : Nat) : evalLd Tryd.prog 9 y off = ldOne y off := ld_one _ aggN_9 y off
theorem st_9 (V : Nat → Option AO) (l sz i off : Nat) (v : AV) : xob Tryd.prog 9 V (.loc l sz i off) v = if xi v 1 = true then (rowT (V l) sz i).bind fun p => (stAV p.2.2 off v).map fun x' => [(l, some (.row p.1 sz (p.2.1.set i x')))] else none := x9b _ aggN_9 V l sz i off v
theorem lB_9 (s : ByteArray) : xzb Tryd.prog 9 (.val (.string s)) = some (int s.size) := x8db _ x4y s
theorem iB_9 (s : ByteArray) (k : IntKind) (n : Int) : xmh Tryd.prog 9 (.val (.string s)) (.val (.int k n)) = if 0 ≤ n then (s[n.toNat]?).map fun b => u8 b else none := xd5 _ x4y s k n
theorem ld_24 (y : AV) (off : Nat) : evalLd Tryd.prog 24 y off = ldOne y off := ld_one _ xds y off
theorem st_24 (V : Nat → Option AO) (l sz i off : Nat) (v : AV) : xob Tryd.prog 24 V (.loc l sz i off) v = if xi v 1 = true then (rowT (V l) sz i).bind fun p => (stAV p.2.2 off v).map fun x' => [(l, some (.row p.1 sz (p.2.1.set i x')))] else none := x9b _ xds V l sz i off v
theorem iS_24 (xs : List AV) (k : IntKind) (n : Int) : xdb Tryd.prog 24 (.sl 13 xs) (.val (.int k n)) = if 0 ≤ n then (xs[n.toNat]?).map fun z => .ptr z 0 else none := xwc _ xdi x7h xs k n
theorem iM_24 (l len : Nat) (k : IntKind) (n : Int) : xdb Tryd.prog 24 (.msl l len) (.val (.int k n)) = if 0 ≤ n ∧ n < len then some (.loc l 13 n.toNat 0) else none := xjf _ xdi x7h l len k n
theorem lS_24 (sz : Nat) (xs : List AV) : xzb Tryd.prog 24 (.sl sz xs) = some (int xs.length) := len_sl _ xdi sz xs
theorem ld_26 (y : AV) (off : Nat) : evalLd Tryd.prog 26 y off = ldAgg y off 1 := ld_agg _ xck y off
theorem bx_26 (x : Operand) (V : Nat → Option AO) (new : Nat) (ρ : Operand → AV) : evalOp Tryd.prog (.box 26 x) V new ρ = if xi (ρ x) 1 = true then some (.loc new 1 0 0, [(new, some (.row 26 1 [ρ x]))]) else none := by rw [E_box, xck, x8c]
theorem xaeb (l sz i off : Nat) : xf Tryd.prog 26 0 (.loc l sz i off) = some (.loc l sz i (off + 0)) := xm _ x2j xds (by decide) l sz i off
theorem xoeb (y : AV) (off : Nat) : xf Tryd.prog 26 0 (.ptr y off) = some (.ptr y (off + 0)) := xzc _ x2j xds (by decide) y off
theorem ld_27 (y : AV) (off : Nat) : evalLd Tryd.prog 27 y off = ldOne y off := ld_one _ x32 y off
theorem lS_27 (sz : Nat) (xs : List AV) : xzb Tryd.prog 27 (.sl sz xs) = some (int xs.length) := len_sl _ xtu sz xs
theorem ld_29 (y : AV) (off : Nat) : evalLd Tryd.prog 29 y off = ldAgg y off 6 := ld_agg _ xel y off
theorem st_29 (V : Nat → Option AO) (l sz i off : Nat) (v : AV) : xob Tryd.prog 29 V (.loc l sz i off) v = if xi v 6 = true then (rowT (V l) sz i).bind fun p => (stAV p.2.2 off v).map fun x' => [(l, some (.row p.1 sz (p.2.1.set i x')))] else none := x9b _ xel V l sz i off v
theorem bx_29 (x : Operand) (V : Nat → Option AO) (new : Nat) (ρ : Operand → AV) : evalOp Tryd.prog (.box 29 x) V new ρ = if xi (ρ x) 6 = true then some (.loc new 6 0 0, [(new, some (.row 29 6 [ρ x]))]) else none := by rw [E_box, xel, x8c]
theorem al_29 (V : Nat → Option AO) (new : Nat) (ρ : Operand → AV) : evalOp Tryd.prog (.alloc 29) V new ρ = some (.loc new 6 0 0, [(new, some (.row 29 6 [.agg [.val (.int .i64 0), .val (.int .i64 0), .val (.int .i64 0), .val (.int .i64 0), .val (.slice none 0 0), .val (.slice none 0 0)]]))]) := by rw [xkg, xel, x0bb, xfd]; rfl
theorem xscb (l sz i off : Nat) : xf Tryd.prog 29 1 (.loc l sz i off) = some (.loc l sz i (off + 4)) := xm _ xwp xck (by decide) l sz i off
theorem xieb (l sz i off : Nat) : xf Tryd.prog 29 2 (.loc l sz i off) = some (.loc l sz i (off + 5)) := xm _ xoq x32 (by decide) l sz i off
theorem ld_32 (y : AV) (off : Nat) : evalLd Tryd.prog 32 y off = ldOne y off := ld_one _ xiw y off
theorem st_32 (V : Nat → Option AO) (l sz i off : Nat) (v : AV) : xob Tryd.prog 32 V (.loc l sz i off) v = if xi v 1 = true then (rowT (V l) sz i).bind fun p => (stAV p.2.2 off v).map fun x' => [(l, some (.row p.1 sz (p.2.1.set i x')))] else none := x9b _ xiw V l sz i off v
theorem al_32 (V : Nat → Option AO) (new : Nat) (ρ : Operand → AV) : evalOp Tryd.prog (.alloc 32) V new ρ = some (.loc new 1 0 0, [(new, some (.row 32 1 [.val (.slice none 0 0)]))]) := by rw [xkg, xiw, xcdb, xfd]; rfl
theorem iS_32 (xs : List AV) (k : IntKind) (n : Int) : xdb Tryd.prog 32 (.sl 1 xs) (.val (.int k n)) = if 0 ≤ n then (xs[n.toNat]?).map fun z => .ptr z 0 else none := xwc _ x8j aggN_4 xs k n
theorem iM_32 (l len : Nat) (k : IntKind) (n : Int) : xdb Tryd.prog 32 (.msl l len) (.val (.int k n)) = if 0 ≤ n ∧ n < len then some (.loc l 1 n.toNat 0) else none := xjf _ x8j aggN_4 l len k n
theorem mk_32 (ka kb : IntKind) (a c : Int) (new : Nat) : xzd Tryd.prog 32 (.val (.int ka a)) (.val (.int kb c)) new = if 0 ≤ a ∧ a ≤ c ∧ (1 : Int) * c ≤ 281474976710656 ∧ c ≤ 9223372036854775807 then some (.msl new a.toNat, [(new, some (.row 4 1 (List.replicate a.toNat (.val (.bool false)))))]) else none := by have h := xe0 _ x8j aggN_4 xp4 zero_4 rfl ka kb a c new; exact h
theorem lS_32 (sz : Nat) (xs : List AV) : xzb Tryd.prog 32 (.sl sz xs) = some (int xs.length) := len_sl _ x8j sz xs
theorem lM_32 (l n : Nat) : xzb Tryd.prog 32 (.msl l n) = some (int n) := xmn _ x8j l n
theorem iS_34 (xs : List AV) (k : IntKind) (n : Int) : xdb Tryd.prog 34 (.sl 1 xs) (.val (.int k n)) = if 0 ≤ n then (xs[n.toNat]?).map fun z => .ptr z 0 else none := xwc _ xbi aggN_3 xs k n
theorem iM_34 (l len : Nat) (k : IntKind) (n : Int) : xdb Tryd.prog 34 (.msl l len) (.val (.int k n)) = if 0 ≤ n ∧ n < len then some (.loc l 1 n.toNat 0) else none := xjf _ xbi aggN_3 l len k n
theorem ap_34 (V : Nat → Option AO) (s x : AV) (new : Nat) : xfc Tryd.prog 34 V s x new = appK 8 3 1 new (oldsOf V s 3 1) (newsOf V x 1) := xtf _ V xbi aggN_3 xz4 zero_3 rfl s x new
theorem bS_34 (len : Nat) (parts : Array (Nat × Operand)) (V : Nat → Option AO) (new : Nat) (ρ : Operand → AV) : evalOp Tryd.prog (.buildSlice 34 len parts) V new ρ = if len * 1 ≤ 16777216 then (setsA 1 (List.replicate len (.val (.int .i64 0))) (parts.toList.map fun p => (p.1, ρ p.2))).map fun xs => (.msl new len, [(new, some (.row 3 1 xs))]) else none := by rw [xud _ _ _ _ 34 len parts 3 xbi, aggN_3, zero_3, xgd]; simp [xi, AV.one, Value.oneCell']
theorem lS_34 (sz : Nat) (xs : List AV) : xzb Tryd.prog 34 (.sl sz xs) = some (int xs.length) := len_sl _ xbi sz xs
theorem lM_34 (l n : Nat) : xzb Tryd.prog 34 (.msl l n) = some (int n) := xmn _ xbi l n
theorem iS_35 (xs : List AV) (k : IntKind) (n : Int) : xdb Tryd.prog 35 (.sl 4 xs) (.val (.int k n)) = if 0 ≤ n then (xs[n.toNat]?).map fun z => .ptr z 0 else none := xwc _ xli xki xs k n
theorem ap_35 (V : Nat → Option AO) (s x : AV) (new : Nat) : xfc Tryd.prog 35 V s x new = appK 32 38 4 new (oldsOf V s 38 4) (newsOf V x 4) := xtf _ V xli xki xy1 xkw rfl s x new
theorem bS_35 (len : Nat) (parts : Array (Nat × Operand)) (V : Nat → Option AO) (new : Nat) (ρ : Operand → AV) : evalOp Tryd.prog (.buildSlice 35 len parts) V new ρ = if len * 4 ≤ 16777216 then (setsA 4 (List.replicate len (.agg [.val (.int .i64 0), .val (.int .i64 0), .val (.int .i64 0), .val (.int .i64 0)])) (parts.toList.map fun p => (p.1, ρ p.2))).map fun xs => (.msl new len, [(new, some (.row 38 4 xs))]) else none := by rw [xud _ _ _ _ 35 len parts 38 xli, xki, xkw, xgd]; simp [xi, AV.one, Value.oneCell']
theorem lS_35 (sz : Nat) (xs : List AV) : xzb Tryd.prog 35 (.sl sz xs) = some (int xs.length) := len_sl _ xli sz xs
theorem ld_38 (y : AV) (off : Nat) : evalLd Tryd.prog 38 y off = ldAgg y off 4 := ld_agg _ xki y off
theorem st_38 (V : Nat → Option AO) (l sz i off : Nat) (v : AV) : xob Tryd.prog 38 V (.loc l sz i off) v = if xi v 4 = true then (rowT (V l) sz i).bind fun p => (stAV p.2.2 off v).map fun x' => [(l, some (.row p.1 sz (p.2.1.set i x')))] else none := x9b _ xki V l sz i off v
theorem bx_38 (x : Operand) (V : Nat → Option AO) (new : Nat) (ρ : Operand → AV) : evalOp Tryd.prog (.box 38 x) V new ρ = if xi (ρ x) 4 = true then some (.loc new 4 0 0, [(new, some (.row 38 4 [ρ x]))]) else none := by rw [E_box, xki, x8c]
theorem al_38 (V : Nat → Option AO) (new : Nat) (ρ : Operand → AV) : evalOp Tryd.prog (.alloc 38) V new ρ = some (.loc new 4 0 0, [(new, some (.row 38 4 [.agg [.val (.int .i64 0), .val (.int .i64 0), .val (.int .i64 0), .val (.int .i64 0)]]))]) := by rw [xkg, xki, xkw, xfd]; rfl
theorem xeeb (l sz i off : Nat) : xf Tryd.prog 38 0 (.loc l sz i off) = some (.loc l sz i (off + 0)) := xm _ x6y aggN_3 (by decide) l sz i off
theorem xwdb (l sz i off : Nat) : xf Tryd.prog 38 2 (.loc l sz i off) = some (.loc l sz i (off + 2)) := xm _ x0q aggN_3 (by decide) l sz i off
theorem xneb (y : AV) (off : Nat) : xf Tryd.prog 38 2 (.ptr y off) = some (.ptr y (off + 2)) := xzc _ x0q aggN_3 (by decide) y off
theorem lay_38 : layOf Tryd.prog 38 = some ([.val (.int .i64 0), .val (.int .i64 0), .val (.int .i64 0), .val (.int .i64 0)], .str [(0, 1), (1, 1), (2, 1), (3, 1)]) := by kernel_rfl
theorem bd_38 (parts : List (Nat × AV)) : xwb Tryd.prog 38 parts = (fillA (fun i => [(0, 1), (1, 1), (2, 1), (3, 1)][i]?) [.val (.int .i64 0), .val (.int .i64 0), .val (.int .i64 0), .val (.int .i64 0)] parts).map .agg := by simp only [xwb, lay_38]; rfl
theorem ld_40 (y : AV) (off : Nat) : evalLd Tryd.prog 40 y off = ldOne y off := ld_one _ x02 y off
theorem lS_40 (sz : Nat) (xs : List AV) : xzb Tryd.prog 40 (.sl sz xs) = some (int xs.length) := len_sl _ xd3 sz xs
theorem ld_41 (y : AV) (off : Nat) : evalLd Tryd.prog 41 y off = ldOne y off := ld_one _ xmv y off
theorem iS_41 (xs : List AV) (k : IntKind) (n : Int) : xdb Tryd.prog 41 (.sl 3 xs) (.val (.int k n)) = if 0 ≤ n then (xs[n.toNat]?).map fun z => .ptr z 0 else none := xwc _ xbl xfl xs k n
theorem lS_41 (sz : Nat) (xs : List AV) : xzb Tryd.prog 41 (.sl sz xs) = some (int xs.length) := len_sl _ xbl sz xs
theorem lN_41  : xzb Tryd.prog 41 nilS = some (int 0) := xidb _ xbl
theorem st_43 (V : Nat → Option AO) (l sz i off : Nat) (v : AV) : xob Tryd.prog 43 V (.loc l sz i off) v = if xi v 3 = true then (rowT (V l) sz i).bind fun p => (stAV p.2.2 off v).map fun x' => [(l, some (.row p.1 sz (p.2.1.set i x')))] else none := x9b _ xv2 V l sz i off v
theorem lay_43 : layOf Tryd.prog 43 = some ([.val (.int .i64 0), .val (.int .i64 0), .val (.int .i64 0)], .str [(0, 1), (1, 1), (2, 1)]) := by kernel_rfl
theorem bd_43 (parts : List (Nat × AV)) : xwb Tryd.prog 43 parts = (fillA (fun i => [(0, 1), (1, 1), (2, 1)][i]?) [.val (.int .i64 0), .val (.int .i64 0), .val (.int .i64 0)] parts).map .agg := by simp only [xwb, lay_43]; rfl
theorem ld_45 (y : AV) (off : Nat) : evalLd Tryd.prog 45 y off = ldAgg y off 7 := ld_agg _ xin y off
theorem st_45 (V : Nat → Option AO) (l sz i off : Nat) (v : AV) : xob Tryd.prog 45 V (.loc l sz i off) v = if xi v 7 = true then (rowT (V l) sz i).bind fun p => (stAV p.2.2 off v).map fun x' => [(l, some (.row p.1 sz (p.2.1.set i x')))] else none := x9b _ xin V l sz i off v
theorem bx_45 (x : Operand) (V : Nat → Option AO) (new : Nat) (ρ : Operand → AV) : evalOp Tryd.prog (.box 45 x) V new ρ = if xi (ρ x) 7 = true then some (.loc new 7 0 0, [(new, some (.row 45 7 [ρ x]))]) else none := by rw [E_box, xin, x8c]
theorem al_45 (V : Nat → Option AO) (new : Nat) (ρ : Operand → AV) : evalOp Tryd.prog (.alloc 45) V new ρ = some (.loc new 7 0 0, [(new, some (.row 45 7 [.agg [.val (.int .i64 0), .val (.int .i64 0), .val (.string ⟨#[]⟩), .val (.int .i64 0), .val (.int .i64 0), .val (.int .i64 0), .val (.int .i64 0)]]))]) := by rw [xkg, xin, xodb, xfd]; rfl
theorem x1bb (l sz i off : Nat) : xf Tryd.prog 45 0 (.loc l sz i off) = some (.loc l sz i (off + 0)) := xm _ xkl aggN_3 (by decide) l sz i off
theorem x7eb (l sz i off : Nat) : xf Tryd.prog 45 1 (.loc l sz i off) = some (.loc l sz i (off + 1)) := xm _ xnq aggN_3 (by decide) l sz i off
theorem xzbb (l sz i off : Nat) : xf Tryd.prog 45 2 (.loc l sz i off) = some (.loc l sz i (off + 2)) := xm _ xgq aggN_9 (by decide) l sz i off
theorem x4db (l sz i off : Nat) : xf Tryd.prog 45 3 (.loc l sz i off) = some (.loc l sz i (off + 3)) := xm _ x5p xv2 (by decide) l sz i off
theorem x4eb (l sz i off : Nat) : xf Tryd.prog 45 4 (.loc l sz i off) = some (.loc l sz i (off + 6)) := xm _ x8p aggN_3 (by decide) l sz i off
theorem ld_47 (y : AV) (off : Nat) : evalLd Tryd.prog 47 y off = ldAgg y off 13 := ld_agg _ x7h y off
theorem st_47 (V : Nat → Option AO) (l sz i off : Nat) (v : AV) : xob Tryd.prog 47 V (.loc l sz i off) v = if xi v 13 = true then (rowT (V l) sz i).bind fun p => (stAV p.2.2 off v).map fun x' => [(l, some (.row p.1 sz (p.2.1.set i x')))] else none := x9b _ x7h V l sz i off v
theorem bx_47 (x : Operand) (V : Nat → Option AO) (new : Nat) (ρ : Operand → AV) : evalOp Tryd.prog (.box 47 x) V new ρ = if xi (ρ x) 13 = true then some (.loc new 13 0 0, [(new, some (.row 47 13 [ρ x]))]) else none := by rw [E_box, x7h, x8c]
theorem al_47 (V : Nat → Option AO) (new : Nat) (ρ : Operand → AV) : evalOp Tryd.prog (.alloc 47) V new ρ = some (.loc new 13 0 0, [(new, some (.row 47 13 [.agg [.val (.int .i64 0), .val (.int .i64 0), .val (.int .i64 0), .val (.int .i64 0), .val (.slice none 0 0), .val (.slice none 0 0), .val (.int .i64 0), .val (.int .i64 0), .val (.string ⟨#[]⟩), .val (.int .i64 0), .val (.int .i64 0), .val (.int .i64 0), .val (.int .i64 0)]]))]) := by rw [xkg, x7h, x6v, xfd]; rfl
theorem xgcb (l sz i off : Nat) : xf Tryd.prog 47 0 (.loc l sz i off) = some (.loc l sz i (off + 0)) := xm _ xyj aggN_3 (by decide) l sz i off
theorem xxeb (x : AV) : xqg Tryd.prog 47 0 x = partO 0 x := xvw xyj aggN_3 x
theorem xncb (l sz i off : Nat) : xf Tryd.prog 47 2 (.loc l sz i off) = some (.loc l sz i (off + 2)) := xm _ xtq aggN_3 (by decide) l sz i off
theorem x6db (l sz i off : Nat) : xf Tryd.prog 47 4 (.loc l sz i off) = some (.loc l sz i (off + 4)) := xm _ xwq x02 (by decide) l sz i off
theorem xhcb (l sz i off : Nat) : xf Tryd.prog 47 5 (.loc l sz i off) = some (.loc l sz i (off + 5)) := xm _ x3l xmv (by decide) l sz i off
theorem x9cb (x : AV) : xqg Tryd.prog 47 5 x = partO 5 x := xvw x3l xmv x
theorem x6cb (l sz i off : Nat) : xf Tryd.prog 47 6 (.loc l sz i off) = some (.loc l sz i (off + 6)) := xm _ xyr xin (by decide) l sz i off
theorem lay_47 : layOf Tryd.prog 47 = some ([.val (.int .i64 0), .val (.int .i64 0), .val (.int .i64 0), .val (.int .i64 0), .val (.slice none 0 0), .val (.slice none 0 0), .val (.int .i64 0), .val (.int .i64 0), .val (.string ⟨#[]⟩), .val (.int .i64 0), .val (.int .i64 0), .val (.int .i64 0), .val (.int .i64 0)], .str [(0, 1), (1, 1), (2, 1), (3, 1), (4, 1), (5, 1), (6, 7)]) := by kernel_rfl
theorem bd_47 (parts : List (Nat × AV)) : xwb Tryd.prog 47 parts = (fillA (fun i => [(0, 1), (1, 1), (2, 1), (3, 1), (4, 1), (5, 1), (6, 7)][i]?) [.val (.int .i64 0), .val (.int .i64 0), .val (.int .i64 0), .val (.int .i64 0), .val (.slice none 0 0), .val (.slice none 0 0), .val (.int .i64 0), .val (.int .i64 0), .val (.string ⟨#[]⟩), .val (.int .i64 0), .val (.int .i64 0), .val (.int .i64 0), .val (.int .i64 0)] parts).map .agg := by simp only [xwb, lay_47]; rfl
theorem iS_61 (xs : List AV) (k : IntKind) (n : Int) : xdb Tryd.prog 61 (.sl 1 xs) (.val (.int k n)) = if 0 ≤ n then (xs[n.toNat]?).map fun z => .ptr z 0 else none := xwc _ xnf aggN_9 xs k n
theorem ap_61 (V : Nat → Option AO) (s x : AV) (new : Nat) : xfc Tryd.prog 61 V s x new = appK 16 9 1 new (oldsOf V s 9 1) (newsOf V x 1) := xtf _ V xnf aggN_9 x04 zero_9 rfl s x new
theorem bS_61 (len : Nat) (parts : Array (Nat × Operand)) (V : Nat → Option AO) (new : Nat) (ρ : Operand → AV) : evalOp Tryd.prog (.buildSlice 61 len parts) V new ρ = if len * 1 ≤ 16777216 then (setsA 1 (List.replicate len (.val (.string ⟨#[]⟩))) (parts.toList.map fun p => (p.1, ρ p.2))).map fun xs => (.msl new len, [(new, some (.row 9 1 xs))]) else none := by rw [xud _ _ _ _ 61 len parts 9 xnf, aggN_9, zero_9, xgd]; simp [xi, AV.one, Value.oneCell']
theorem lS_61 (sz : Nat) (xs : List AV) : xzb Tryd.prog 61 (.sl sz xs) = some (int xs.length) := len_sl _ xnf sz xs
theorem ld_63 (y : AV) (off : Nat) : evalLd Tryd.prog 63 y off = ldOne y off := ld_one _ x4r y off
theorem st_63 (V : Nat → Option AO) (l sz i off : Nat) (v : AV) : xob Tryd.prog 63 V (.loc l sz i off) v = if xi v 1 = true then (rowT (V l) sz i).bind fun p => (stAV p.2.2 off v).map fun x' => [(l, some (.row p.1 sz (p.2.1.set i x')))] else none := x9b _ x4r V l sz i off v
theorem iS_63 (xs : List AV) (k : IntKind) (n : Int) : xdb Tryd.prog 63 (.sl 2 xs) (.val (.int k n)) = if 0 ≤ n then (xs[n.toNat]?).map fun z => .ptr z 0 else none := xwc _ x8h xkj xs k n
theorem ap_63 (V : Nat → Option AO) (s x : AV) (new : Nat) : xfc Tryd.prog 63 V s x new = appK 16 65 2 new (oldsOf V s 65 2) (newsOf V x 2) := xtf _ V x8h xkj x4s x7r rfl s x new
theorem bS_63 (len : Nat) (parts : Array (Nat × Operand)) (V : Nat → Option AO) (new : Nat) (ρ : Operand → AV) : evalOp Tryd.prog (.buildSlice 63 len parts) V new ρ = if len * 2 ≤ 16777216 then (setsA 2 (List.replicate len (.agg [.val (.int .i64 0), .val (.int .i64 0)])) (parts.toList.map fun p => (p.1, ρ p.2))).map fun xs => (.msl new len, [(new, some (.row 65 2 xs))]) else none := by rw [xud _ _ _ _ 63 len parts 65 x8h, xkj, x7r, xgd]; simp [xi, AV.one, Value.oneCell']
theorem lS_63 (sz : Nat) (xs : List AV) : xzb Tryd.prog 63 (.sl sz xs) = some (int xs.length) := len_sl _ x8h sz xs
theorem lM_63 (l n : Nat) : xzb Tryd.prog 63 (.msl l n) = some (int n) := xmn _ x8h l n
theorem ld_65 (y : AV) (off : Nat) : evalLd Tryd.prog 65 y off = ldAgg y off 2 := ld_agg _ xkj y off
theorem st_65 (V : Nat → Option AO) (l sz i off : Nat) (v : AV) : xob Tryd.prog 65 V (.loc l sz i off) v = if xi v 2 = true then (rowT (V l) sz i).bind fun p => (stAV p.2.2 off v).map fun x' => [(l, some (.row p.1 sz (p.2.1.set i x')))] else none := x9b _ xkj V l sz i off v
theorem bx_65 (x : Operand) (V : Nat → Option AO) (new : Nat) (ρ : Operand → AV) : evalOp Tryd.prog (.box 65 x) V new ρ = if xi (ρ x) 2 = true then some (.loc new 2 0 0, [(new, some (.row 65 2 [ρ x]))]) else none := by rw [E_box, xkj, x8c]
theorem al_65 (V : Nat → Option AO) (new : Nat) (ρ : Operand → AV) : evalOp Tryd.prog (.alloc 65) V new ρ = some (.loc new 2 0 0, [(new, some (.row 65 2 [.agg [.val (.int .i64 0), .val (.int .i64 0)]]))]) := by rw [xkg, xkj, x7r, xfd]; rfl
theorem xlcb (l sz i off : Nat) : xf Tryd.prog 65 0 (.loc l sz i off) = some (.loc l sz i (off + 0)) := xm _ xf1 aggN_3 (by decide) l sz i off
theorem x3cb (l sz i off : Nat) : xf Tryd.prog 65 1 (.loc l sz i off) = some (.loc l sz i (off + 1)) := xm _ x40 aggN_3 (by decide) l sz i off
theorem lay_65 : layOf Tryd.prog 65 = some ([.val (.int .i64 0), .val (.int .i64 0)], .str [(0, 1), (1, 1)]) := by kernel_rfl
theorem bd_65 (parts : List (Nat × AV)) : xwb Tryd.prog 65 parts = (fillA (fun i => [(0, 1), (1, 1)][i]?) [.val (.int .i64 0), .val (.int .i64 0)] parts).map .agg := by simp only [xwb, lay_65]; rfl
theorem ld_68 (y : AV) (off : Nat) : evalLd Tryd.prog 68 y off = ldOne y off := ld_one _ xgn y off
theorem st_68 (V : Nat → Option AO) (l sz i off : Nat) (v : AV) : xob Tryd.prog 68 V (.loc l sz i off) v = if xi v 1 = true then (rowT (V l) sz i).bind fun p => (stAV p.2.2 off v).map fun x' => [(l, some (.row p.1 sz (p.2.1.set i x')))] else none := x9b _ xgn V l sz i off v
theorem iS_68 (xs : List AV) (k : IntKind) (n : Int) : xdb Tryd.prog 68 (.sl 3 xs) (.val (.int k n)) = if 0 ≤ n then (xs[n.toNat]?).map fun z => .ptr z 0 else none := xwc _ xni xhj xs k n
theorem iM_68 (l len : Nat) (k : IntKind) (n : Int) : xdb Tryd.prog 68 (.msl l len) (.val (.int k n)) = if 0 ≤ n ∧ n < len then some (.loc l 3 n.toNat 0) else none := xjf _ xni xhj l len k n
theorem ap_68 (V : Nat → Option AO) (s x : AV) (new : Nat) : xfc Tryd.prog 68 V s x new = appK 32 71 3 new (oldsOf V s 71 3) (newsOf V x 3) := xtf _ V xni xhj xh2 x7v rfl s x new
theorem bS_68 (len : Nat) (parts : Array (Nat × Operand)) (V : Nat → Option AO) (new : Nat) (ρ : Operand → AV) : evalOp Tryd.prog (.buildSlice 68 len parts) V new ρ = if len * 3 ≤ 16777216 then (setsA 3 (List.replicate len (.agg [.val (.int .i64 0), .val (.int .i64 0), .val (.string ⟨#[]⟩)])) (parts.toList.map fun p => (p.1, ρ p.2))).map fun xs => (.msl new len, [(new, some (.row 71 3 xs))]) else none := by rw [xud _ _ _ _ 68 len parts 71 xni, xhj, x7v, xgd]; simp [xi, AV.one, Value.oneCell']
theorem lS_68 (sz : Nat) (xs : List AV) : xzb Tryd.prog 68 (.sl sz xs) = some (int xs.length) := len_sl _ xni sz xs
theorem lM_68 (l n : Nat) : xzb Tryd.prog 68 (.msl l n) = some (int n) := xmn _ xni l n
theorem ld_71 (y : AV) (off : Nat) : evalLd Tryd.prog 71 y off = ldAgg y off 3 := ld_agg _ xhj y off
theorem st_71 (V : Nat → Option AO) (l sz i off : Nat) (v : AV) : xob Tryd.prog 71 V (.loc l sz i off) v = if xi v 3 = true then (rowT (V l) sz i).bind fun p => (stAV p.2.2 off v).map fun x' => [(l, some (.row p.1 sz (p.2.1.set i x')))] else none := x9b _ xhj V l sz i off v
theorem bx_71 (x : Operand) (V : Nat → Option AO) (new : Nat) (ρ : Operand → AV) : evalOp Tryd.prog (.box 71 x) V new ρ = if xi (ρ x) 3 = true then some (.loc new 3 0 0, [(new, some (.row 71 3 [ρ x]))]) else none := by rw [E_box, xhj, x8c]
theorem al_71 (V : Nat → Option AO) (new : Nat) (ρ : Operand → AV) : evalOp Tryd.prog (.alloc 71) V new ρ = some (.loc new 3 0 0, [(new, some (.row 71 3 [.agg [.val (.int .i64 0), .val (.int .i64 0), .val (.string ⟨#[]⟩)]]))]) := by rw [xkg, xhj, x7v, xfd]; rfl
theorem x5db (l sz i off : Nat) : xf Tryd.prog 71 0 (.loc l sz i off) = some (.loc l sz i (off + 0)) := xm _ xfq aggN_3 (by decide) l sz i off
theorem xvcb (y : AV) (off : Nat) : xf Tryd.prog 71 0 (.ptr y off) = some (.ptr y (off + 0)) := xzc _ xfq aggN_3 (by decide) y off
theorem xwcb (l sz i off : Nat) : xf Tryd.prog 71 1 (.loc l sz i off) = some (.loc l sz i (off + 1)) := xm _ xyq aggN_3 (by decide) l sz i off
theorem xkdb (y : AV) (off : Nat) : xf Tryd.prog 71 1 (.ptr y off) = some (.ptr y (off + 1)) := xzc _ xyq aggN_3 (by decide) y off
theorem xpeb (l sz i off : Nat) : xf Tryd.prog 71 2 (.loc l sz i off) = some (.loc l sz i (off + 2)) := xm _ x5y aggN_9 (by decide) l sz i off
theorem lay_71 : layOf Tryd.prog 71 = some ([.val (.int .i64 0), .val (.int .i64 0), .val (.string ⟨#[]⟩)], .str [(0, 1), (1, 1), (2, 1)]) := by kernel_rfl
theorem bd_71 (parts : List (Nat × AV)) : xwb Tryd.prog 71 parts = (fillA (fun i => [(0, 1), (1, 1), (2, 1)][i]?) [.val (.int .i64 0), .val (.int .i64 0), .val (.string ⟨#[]⟩)] parts).map .agg := by simp only [xwb, lay_71]; rfl
theorem ld_74 (y : AV) (off : Nat) : evalLd Tryd.prog 74 y off = ldAgg y off 3 := ld_agg _ xfl y off
theorem st_74 (V : Nat → Option AO) (l sz i off : Nat) (v : AV) : xob Tryd.prog 74 V (.loc l sz i off) v = if xi v 3 = true then (rowT (V l) sz i).bind fun p => (stAV p.2.2 off v).map fun x' => [(l, some (.row p.1 sz (p.2.1.set i x')))] else none := x9b _ xfl V l sz i off v
theorem bx_74 (x : Operand) (V : Nat → Option AO) (new : Nat) (ρ : Operand → AV) : evalOp Tryd.prog (.box 74 x) V new ρ = if xi (ρ x) 3 = true then some (.loc new 3 0 0, [(new, some (.row 74 3 [ρ x]))]) else none := by rw [E_box, xfl, x8c]
theorem al_74 (V : Nat → Option AO) (new : Nat) (ρ : Operand → AV) : evalOp Tryd.prog (.alloc 74) V new ρ = some (.loc new 3 0 0, [(new, some (.row 74 3 [.agg [.val (.int .i64 0), .val (.int .i64 0), .val (.string ⟨#[]⟩)]]))]) := by rw [xkg, xfl, xbcb, xfd]; rfl
theorem xzcb (l sz i off : Nat) : xf Tryd.prog 74 0 (.loc l sz i off) = some (.loc l sz i (off + 0)) := xm _ x5j aggN_3 (by decide) l sz i off
theorem x8bb (y : AV) (off : Nat) : xf Tryd.prog 74 0 (.ptr y off) = some (.ptr y (off + 0)) := xzc _ x5j aggN_3 (by decide) y off
theorem x0cb (l sz i off : Nat) : xf Tryd.prog 74 1 (.loc l sz i off) = some (.loc l sz i (off + 1)) := xm _ xnl aggN_3 (by decide) l sz i off
theorem x7bb (y : AV) (off : Nat) : xf Tryd.prog 74 1 (.ptr y off) = some (.ptr y (off + 1)) := xzc _ xnl aggN_3 (by decide) y off
theorem xtdb (l sz i off : Nat) : xf Tryd.prog 74 2 (.loc l sz i off) = some (.loc l sz i (off + 2)) := xm _ x1l aggN_9 (by decide) l sz i off
theorem xveb (y : AV) (off : Nat) : xf Tryd.prog 74 2 (.ptr y off) = some (.ptr y (off + 2)) := xzc _ x1l aggN_9 (by decide) y off
theorem ld_75 (y : AV) (off : Nat) : evalLd Tryd.prog 75 y off = ldOne y off := ld_one _ xx2 y off
theorem iS_75 (xs : List AV) (k : IntKind) (n : Int) : xdb Tryd.prog 75 (.sl 2 xs) (.val (.int k n)) = if 0 ≤ n then (xs[n.toNat]?).map fun z => .ptr z 0 else none := xwc _ xdl xrh xs k n
theorem iM_75 (l len : Nat) (k : IntKind) (n : Int) : xdb Tryd.prog 75 (.msl l len) (.val (.int k n)) = if 0 ≤ n ∧ n < len then some (.loc l 2 n.toNat 0) else none := xjf _ xdl xrh l len k n
theorem ap_75 (V : Nat → Option AO) (s x : AV) (new : Nat) : xfc Tryd.prog 75 V s x new = appK 32 112 2 new (oldsOf V s 112 2) (newsOf V x 2) := xtf _ V xdl xrh x3y x0t rfl s x new
theorem bS_75 (len : Nat) (parts : Array (Nat × Operand)) (V : Nat → Option AO) (new : Nat) (ρ : Operand → AV) : evalOp Tryd.prog (.buildSlice 75 len parts) V new ρ = if len * 2 ≤ 16777216 then (setsA 2 (List.replicate len (.agg [.val (.int .i64 0), .val (.slice none 0 0)])) (parts.toList.map fun p => (p.1, ρ p.2))).map fun xs => (.msl new len, [(new, some (.row 112 2 xs))]) else none := by rw [xud _ _ _ _ 75 len parts 112 xdl, xrh, x0t, xgd]; simp [xi, AV.one, Value.oneCell']
theorem ld_77 (y : AV) (off : Nat) : evalLd Tryd.prog 77 y off = ldAgg y off 8 := ld_agg _ xas y off
theorem st_77 (V : Nat → Option AO) (l sz i off : Nat) (v : AV) : xob Tryd.prog 77 V (.loc l sz i off) v = if xi v 8 = true then (rowT (V l) sz i).bind fun p => (stAV p.2.2 off v).map fun x' => [(l, some (.row p.1 sz (p.2.1.set i x')))] else none := x9b _ xas V l sz i off v
theorem bx_77 (x : Operand) (V : Nat → Option AO) (new : Nat) (ρ : Operand → AV) : evalOp Tryd.prog (.box 77 x) V new ρ = if xi (ρ x) 8 = true then some (.loc new 8 0 0, [(new, some (.row 77 8 [ρ x]))]) else none := by rw [E_box, xas, x8c]
theorem al_77 (V : Nat → Option AO) (new : Nat) (ρ : Operand → AV) : evalOp Tryd.prog (.alloc 77) V new ρ = some (.loc new 8 0 0, [(new, some (.row 77 8 [.agg [.val (.int .i64 0), .val (.int .i64 0), .val (.int .i64 0), .val (.int .i64 0), .val (.slice none 0 0), .val (.slice none 0 0), .val (.slice none 0 0), .val (.slice none 0 0)]]))]) := by rw [xkg, xas, x8cb, xfd]; rfl
theorem x2cb (l sz i off : Nat) : xf Tryd.prog 77 0 (.loc l sz i off) = some (.loc l sz i (off + 0)) := xm _ x70 xel (by decide) l sz i off
theorem xldb (l sz i off : Nat) : xf Tryd.prog 77 1 (.loc l sz i off) = some (.loc l sz i (off + 6)) := xm _ x0y xgn (by decide) l sz i off
theorem xddb (l sz i off : Nat) : xf Tryd.prog 77 2 (.loc l sz i off) = some (.loc l sz i (off + 7)) := xm _ xb0 xx2 (by decide) l sz i off
theorem lay_77 : layOf Tryd.prog 77 = some ([.val (.int .i64 0), .val (.int .i64 0), .val (.int .i64 0), .val (.int .i64 0), .val (.slice none 0 0), .val (.slice none 0 0), .val (.slice none 0 0), .val (.slice none 0 0)], .str [(0, 6), (6, 1), (7, 1)]) := by kernel_rfl
theorem bd_77 (parts : List (Nat × AV)) : xwb Tryd.prog 77 parts = (fillA (fun i => [(0, 6), (6, 1), (7, 1)][i]?) [.val (.int .i64 0), .val (.int .i64 0), .val (.int .i64 0), .val (.int .i64 0), .val (.slice none 0 0), .val (.slice none 0 0), .val (.slice none 0 0), .val (.slice none 0 0)] parts).map .agg := by simp only [xwb, lay_77]; rfl
theorem ld_79 (y : AV) (off : Nat) : evalLd Tryd.prog 79 y off = ldOne y off := ld_one _ xr2 y off
theorem xdz : mapOf Tryd.prog 79 = some (.int .i64, 3) := by kernel_rfl
theorem lk_79 (V : Nat → Option AO) (c : Bool) (l : Nat) (kv : Value) : xrd Tryd.prog 79 c V (.mp l) (.val kv) = lookK c (.int .i64) (zeroOf Tryd.prog 3) kv (V l) := x5eb _ V xdz c l kv
theorem mu_79 (V : Nat → Option AO) (l : Nat) (kv : Value) (x : AV) : xhd Tryd.prog 79 V (.mp l) (.val kv) x = mupdK (.int .i64) kv x l (V l) := xycb _ V xdz l kv x
theorem mm_79 (new : Nat) : xzf Tryd.prog 79 new = some (.mp new, [(new, some (.map [] []))]) := by kernel_rfl
theorem ld_94 (y : AV) (off : Nat) : evalLd Tryd.prog 94 y off = ldOne y off := ld_one _ xlv y off
theorem st_94 (V : Nat → Option AO) (l sz i off : Nat) (v : AV) : xob Tryd.prog 94 V (.loc l sz i off) v = if xi v 1 = true then (rowT (V l) sz i).bind fun p => (stAV p.2.2 off v).map fun x' => [(l, some (.row p.1 sz (p.2.1.set i x')))] else none := x9b _ xlv V l sz i off v
theorem ap_94 (V : Nat → Option AO) (s x : AV) (new : Nat) : xfc Tryd.prog 94 V s x new = appK 16 114 2 new (oldsOf V s 114 2) (newsOf V x 2) := xtf _ V xmu xt0 xv0 x20 rfl s x new
theorem bS_94 (len : Nat) (parts : Array (Nat × Operand)) (V : Nat → Option AO) (new : Nat) (ρ : Operand → AV) : evalOp Tryd.prog (.buildSlice 94 len parts) V new ρ = if len * 2 ≤ 16777216 then (setsA 2 (List.replicate len (.agg [.val (.int .i64 0), .val (.int .i64 0)])) (parts.toList.map fun p => (p.1, ρ p.2))).map fun xs => (.msl new len, [(new, some (.row 114 2 xs))]) else none := by rw [xud _ _ _ _ 94 len parts 114 xmu, xt0, x20, xgd]; simp [xi, AV.one, Value.oneCell']
theorem ld_101 (y : AV) (off : Nat) : evalLd Tryd.prog 101 y off = ldOne y off := ld_one _ x1y y off
theorem bx_101 (x : Operand) (V : Nat → Option AO) (new : Nat) (ρ : Operand → AV) : evalOp Tryd.prog (.box 101 x) V new ρ = if xi (ρ x) 1 = true then some (.loc new 1 0 0, [(new, some (.row 101 1 [ρ x]))]) else none := by rw [E_box, x1y, x8c]
theorem ld_112 (y : AV) (off : Nat) : evalLd Tryd.prog 112 y off = ldAgg y off 2 := ld_agg _ xrh y off
theorem st_112 (V : Nat → Option AO) (l sz i off : Nat) (v : AV) : xob Tryd.prog 112 V (.loc l sz i off) v = if xi v 2 = true then (rowT (V l) sz i).bind fun p => (stAV p.2.2 off v).map fun x' => [(l, some (.row p.1 sz (p.2.1.set i x')))] else none := x9b _ xrh V l sz i off v
theorem bx_112 (x : Operand) (V : Nat → Option AO) (new : Nat) (ρ : Operand → AV) : evalOp Tryd.prog (.box 112 x) V new ρ = if xi (ρ x) 2 = true then some (.loc new 2 0 0, [(new, some (.row 112 2 [ρ x]))]) else none := by rw [E_box, xrh, x8c]
theorem al_112 (V : Nat → Option AO) (new : Nat) (ρ : Operand → AV) : evalOp Tryd.prog (.alloc 112) V new ρ = some (.loc new 2 0 0, [(new, some (.row 112 2 [.agg [.val (.int .i64 0), .val (.slice none 0 0)]]))]) := by rw [xkg, xrh, x0t, xfd]; rfl
theorem xrbb (l sz i off : Nat) : xf Tryd.prog 112 0 (.loc l sz i off) = some (.loc l sz i (off + 0)) := xm _ x7x aggN_3 (by decide) l sz i off
theorem xs9 (l sz i off : Nat) : xf Tryd.prog 112 1 (.loc l sz i off) = some (.loc l sz i (off + 1)) := xm _ x2o x4r (by decide) l sz i off
theorem xi8 (y : AV) (off : Nat) : xf Tryd.prog 112 1 (.ptr y off) = some (.ptr y (off + 1)) := xzc _ x2o x4r (by decide) y off
theorem x8eb : layOf Tryd.prog 112 = some ([.val (.int .i64 0), .val (.slice none 0 0)], .str [(0, 1), (1, 1)]) := by kernel_rfl
theorem bd_112 (parts : List (Nat × AV)) : xwb Tryd.prog 112 parts = (fillA (fun i => [(0, 1), (1, 1)][i]?) [.val (.int .i64 0), .val (.slice none 0 0)] parts).map .agg := by simp only [xwb, x8eb]; rfl
theorem xyeb : layOf Tryd.prog 114 = some ([.val (.int .i64 0), .val (.int .i64 0)], .arr 1) := by kernel_rfl
theorem bd_114 (parts : List (Nat × AV)) : xwb Tryd.prog 114 parts = (fillA (fun i => some (i * 1, 1)) [.val (.int .i64 0), .val (.int .i64 0)] parts).map .agg := by simp only [xwb, xyeb]; rfl
theorem ld_116 (y : AV) (off : Nat) : evalLd Tryd.prog 116 y off = ldAgg y off 6 := ld_agg _ xro y off
theorem st_116 (V : Nat → Option AO) (l sz i off : Nat) (v : AV) : xob Tryd.prog 116 V (.loc l sz i off) v = if xi v 6 = true then (rowT (V l) sz i).bind fun p => (stAV p.2.2 off v).map fun x' => [(l, some (.row p.1 sz (p.2.1.set i x')))] else none := x9b _ xro V l sz i off v
theorem bx_116 (x : Operand) (V : Nat → Option AO) (new : Nat) (ρ : Operand → AV) : evalOp Tryd.prog (.box 116 x) V new ρ = if xi (ρ x) 6 = true then some (.loc new 6 0 0, [(new, some (.row 116 6 [ρ x]))]) else none := by rw [E_box, xro, x8c]
theorem al_116 (V : Nat → Option AO) (new : Nat) (ρ : Operand → AV) : evalOp Tryd.prog (.alloc 116) V new ρ = some (.loc new 6 0 0, [(new, some (.row 116 6 [.agg [.val (.int .i64 0), .val (.int .i64 0), .val (.int .i64 0), .val (.int .i64 0), .val (.slice none 0 0), .val (.slice none 0 0)]]))]) := by rw [xkg, xro, x29, xfd]; rfl
theorem xv9 (l sz i off : Nat) : xf Tryd.prog 116 0 (.loc l sz i off) = some (.loc l sz i (off + 0)) := xm _ xsy xel (by decide) l sz i off
theorem xmdb : layOf Tryd.prog 116 = some ([.val (.int .i64 0), .val (.int .i64 0), .val (.int .i64 0), .val (.int .i64 0), .val (.slice none 0 0), .val (.slice none 0 0)], .str [(0, 6)]) := by kernel_rfl
theorem bd_116 (parts : List (Nat × AV)) : xwb Tryd.prog 116 parts = (fillA (fun i => [(0, 6)][i]?) [.val (.int .i64 0), .val (.int .i64 0), .val (.int .i64 0), .val (.int .i64 0), .val (.slice none 0 0), .val (.slice none 0 0)] parts).map .agg := by simp only [xwb, xmdb]; rfl
theorem bx_122 (x : Operand) (V : Nat → Option AO) (new : Nat) (ρ : Operand → AV) : evalOp Tryd.prog (.box 122 x) V new ρ = if xi (ρ x) 4 = true then some (.loc new 4 0 0, [(new, some (.row 122 4 [ρ x]))]) else none := by rw [E_box, xj8, x8c]
theorem xnbb (l sz i off : Nat) : xf Tryd.prog 122 0 (.loc l sz i off) = some (.loc l sz i (off + 0)) := xm _ x5o xck (by decide) l sz i off
theorem xw9 (y : AV) (off : Nat) : xf Tryd.prog 122 0 (.ptr y off) = some (.ptr y (off + 0)) := xzc _ x5o xck (by decide) y off
theorem xlbb (l sz i off : Nat) : xf Tryd.prog 122 1 (.loc l sz i off) = some (.loc l sz i (off + 1)) := xm _ x3o xgn (by decide) l sz i off
theorem xhbb (y : AV) (off : Nat) : xf Tryd.prog 122 1 (.ptr y off) = some (.ptr y (off + 1)) := xzc _ x3o xgn (by decide) y off
theorem xh8 (l sz i off : Nat) : xf Tryd.prog 122 2 (.loc l sz i off) = some (.loc l sz i (off + 2)) := xm _ xcy xr2 (by decide) l sz i off
theorem x88 (l sz i off : Nat) : xf Tryd.prog 122 3 (.loc l sz i off) = some (.loc l sz i (off + 3)) := xm _ xmy xlv (by decide) l sz i off
theorem xxcb : layOf Tryd.prog 122 = some ([.val (.slice none 0 0), .val (.slice none 0 0), .val (.map none), .val (.slice none 0 0)], .str [(0, 1), (1, 1), (2, 1), (3, 1)]) := by kernel_rfl
theorem bd_122 (parts : List (Nat × AV)) : xwb Tryd.prog 122 parts = (fillA (fun i => [(0, 1), (1, 1), (2, 1), (3, 1)][i]?) [.val (.slice none 0 0), .val (.slice none 0 0), .val (.map none), .val (.slice none 0 0)] parts).map .agg := by simp only [xwb, xxcb]; rfl
theorem iS_142 (xs : List AV) (k : IntKind) (n : Int) : xdb Tryd.prog 142 (.sl 1 xs) (.val (.int k n)) = if 0 ≤ n then (xs[n.toNat]?).map fun z => .ptr z 0 else none := xwc _ xxs xck xs k n
theorem lS_142 (sz : Nat) (xs : List AV) : xzb Tryd.prog 142 (.sl sz xs) = some (int xs.length) := len_sl _ xxs sz xs
end Go.Proofs.YtmacnoajlofdbaaDoor.AL

