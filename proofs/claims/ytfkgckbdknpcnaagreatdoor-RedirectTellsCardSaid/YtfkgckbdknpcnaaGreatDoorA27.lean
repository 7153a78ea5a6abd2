/- A law of the given program is proved: part 27 of 51. -/
import Derived.Test.YtfkgckbdknpcnaaGreatDoorA26
set_option linter.all false
/- AL: the evaluator's rules with the facts of this seat's types, printed by rules.py. -/
set_option linter.unusedSimpArgs false
set_option linter.unusedVariables false
namespace Go.Proofs.YtfkgckbdknpcnaaGreatDoor.AL
open Go Go.Proofs
set_option maxRecDepth 100000
theorem mixed : Tryz.prog.follows .mixedOrders = true := by kernel_rfl
theorem zero_3 : zeroOf Tryz.prog 3 = some (.val (.int .i64 0)) := by kernel_rfl
theorem zero_4 : zeroOf Tryz.prog 4 = some (.val (.bool false)) := by kernel_rfl
theorem zero_9 : zeroOf Tryz.prog 9 = some (.val (.string ⟨#[]⟩)) := by kernel_rfl
theorem xp6 : zeroOf Tryz.prog 36 = some (.agg [.val (.int .i64 0), .val (.int .i64 0), .val (.int .i64 0), .val (.int .i64 0)]) := by kernel_rfl
theorem xou : zeroOf Tryz.prog 41 = some (.agg [.val (.int .i64 0), .val (.int .i64 0)]) := by kernel_rfl
theorem xogb : zeroOf Tryz.prog 54 = some (.agg [.val (.int .i64 0), .val (.int .i64 0), .val (.int .i64 0), .val (.int .i64 0), .val (.slice none 0 0), .val (.slice none 0 0), .val (.slice none 0 0), .val (.slice none 0 0)]) := by kernel_rfl
theorem xsgb : zeroOf Tryz.prog 58 = some (.val (.slice none 0 0)) := by kernel_rfl
theorem xdgb : zeroOf Tryz.prog 68 = some (.agg [.val (.int .i64 0), .val (.int .i64 0), .val (.int .i64 0), .val (.int .i64 0), .val (.slice none 0 0), .val (.slice none 0 0), .val (.int .i64 0), .val (.int .i64 0), .val (.string ⟨#[]⟩), .val (.int .i64 0), .val (.int .i64 0), .val (.int .i64 0), .val (.int .i64 0)]) := by kernel_rfl
theorem xpz : zeroOf Tryz.prog 77 = some (.agg [.val (.int .i64 0), .val (.int .i64 0), .val (.string ⟨#[]⟩)]) := by kernel_rfl
theorem xsy : zeroOf Tryz.prog 80 = some (.agg [.val (.int .i64 0), .val (.slice none 0 0)]) := by kernel_rfl
theorem xofb : zeroOf Tryz.prog 87 = some (.agg [.val (.int .i64 0), .val (.int .i64 0), .val (.string ⟨#[]⟩)]) := by kernel_rfl
theorem xndb : zeroOf Tryz.prog 109 = some (.agg [.val (.int .i64 0), .val (.int .i64 0), .val (.int .i64 0), .val (.int .i64 0), .val (.slice none 0 0), .val (.slice none 0 0)]) := by kernel_rfl
theorem xo4 : zeroOf Tryz.prog 136 = some (.agg [.val (.int .i64 0), .val (.int .i64 0)]) := by kernel_rfl
theorem ld_1 (y : AV) (off : Nat) : evalLd Tryz.prog 1 y off = ldOne y off := ld_one _ aggN_1 y off
theorem ld_2 (y : AV) (off : Nat) : evalLd Tryz.prog 2 y off = ldOne y off := ld_one _ aggN_2 y off
theorem ld_3 (y : AV) (off : Nat) : evalLd Tryz.prog 3 y off = ldOne y off := ld_one _ aggN_3 y off
theorem st_3 (V : Nat → Option AO) (l sz i off : Nat) (v : AV) : x4b Tryz.prog 3 V (.loc l sz i off) v = if xj v 1 = true then (rowT (V l) sz i).bind fun p => (stAV p.2.2 off v).map fun x' => [(l, some (.row p.1 sz (p.2.1.set i x')))] else none := xcd _ aggN_3 V l sz i off v
theorem bx_3 (x : Operand) (V : Nat → Option AO) (new : Nat) (ρ : Operand → AV) : evalOp Tryz.prog (.box 3 x) V new ρ = if xj (ρ x) 1 = true then some (.loc new 1 0 0, [(new, some (.row 3 1 [ρ x]))]) else none := by rw [E_box, aggN_3, x0d]
theorem ld_4 (y : AV) (off : Nat) : evalLd Tryz.prog 4 y off = ldOne y off := ld_one _ aggN_4 y off
theorem st_4 (V : Nat → Option AO) (l sz i off : Nat) (v : AV) : x4b Tryz.prog 4 V (.loc l sz i off) v = if xj v 1 = true then (rowT (V l) sz i).bind fun p => (stAV p.2.2 off v).map fun x' => [(l, some (.row p.1 sz (p.2.1.set i x')))] else none := xcd _ aggN_4 V l sz i off v
theorem bq_4 (a b : Bool) : binK Tryz.prog .eql 4 (bool a) (bool b) = brR (a == b) := x6eb x4eb a b
theorem ld_9 (y : AV) (off : Nat) : evalLd Tryz.prog 9 y off = ldOne y off := ld_one _ aggN_9 y off
theorem st_9 (V : Nat → Option AO) (l sz i off : Nat) (v : AV) : x4b Tryz.prog 9 V (.loc l sz i off) v = if xj v 1 = true then (rowT (V l) sz i).bind fun p => (stAV p.2.2 off v).map fun x' => [(l, some (.row p.1 sz (p.2.1.set i x')))] else none := xcd _ aggN_9 V l sz i off v
theorem lB_9 (s : ByteArray) : xzb Tryz.prog 9 (.val (.string s)) = some (int s.size) := x2gb _ x03 s
theorem iB_9 (s : ByteArray) (k : IntKind) (n : Int) : x3i Tryz.prog 9 (.val (.string s)) (.val (.int k n)) = if 0 ≤ n then (s[n.toNat]?).map fun b => u8 b else none := xa9 _ x03 s k n
theorem ld_24 (y : AV) (off : Nat) : evalLd Tryz.prog 24 y off = ldOne y off := ld_one _ xfz y off
theorem iS_24 (xs : List AV) (k : IntKind) (n : Int) : xdb Tryz.prog 24 (.sl 13 xs) (.val (.int k n)) = if 0 ≤ n then (xs[n.toNat]?).map fun z => .ptr z 0 else none := xzc _ xqq xan xs k n
theorem lS_24 (sz : Nat) (xs : List AV) : xzb Tryz.prog 24 (.sl sz xs) = some (int xs.length) := len_sl _ xqq sz xs
theorem ld_26 (y : AV) (off : Nat) : evalLd Tryz.prog 26 y off = ldAgg y off 1 := ld_agg _ x4k y off
theorem bx_26 (x : Operand) (V : Nat → Option AO) (new : Nat) (ρ : Operand → AV) : evalOp Tryz.prog (.box 26 x) V new ρ = if xj (ρ x) 1 = true then some (.loc new 1 0 0, [(new, some (.row 26 1 [ρ x]))]) else none := by rw [E_box, x4k, x0d]
theorem xthb (l sz i off : Nat) : xh Tryz.prog 26 0 (.loc l sz i off) = some (.loc l sz i (off + 0)) := xw _ xml xfz (by decide) l sz i off
theorem x0gb (y : AV) (off : Nat) : xh Tryz.prog 26 0 (.ptr y off) = some (.ptr y (off + 0)) := xed _ xml xfz (by decide) y off
theorem ld_27 (y : AV) (off : Nat) : evalLd Tryz.prog 27 y off = ldOne y off := ld_one _ xs6 y off
theorem iS_27 (xs : List AV) (k : IntKind) (n : Int) : xdb Tryz.prog 27 (.sl 1 xs) (.val (.int k n)) = if 0 ≤ n then (xs[n.toNat]?).map fun z => .ptr z 0 else none := xzc _ x4p x4k xs k n
theorem lS_27 (sz : Nat) (xs : List AV) : xzb Tryz.prog 27 (.sl sz xs) = some (int xs.length) := len_sl _ x4p sz xs
theorem ld_29 (y : AV) (off : Nat) : evalLd Tryz.prog 29 y off = ldAgg y off 6 := ld_agg _ xku y off
theorem bx_29 (x : Operand) (V : Nat → Option AO) (new : Nat) (ρ : Operand → AV) : evalOp Tryz.prog (.box 29 x) V new ρ = if xj (ρ x) 6 = true then some (.loc new 6 0 0, [(new, some (.row 29 6 [ρ x]))]) else none := by rw [E_box, xku, x0d]
theorem x4hb (l sz i off : Nat) : xh Tryz.prog 29 1 (.loc l sz i off) = some (.loc l sz i (off + 4)) := xw _ xdu x4k (by decide) l sz i off
theorem xvgb (l sz i off : Nat) : xh Tryz.prog 29 2 (.loc l sz i off) = some (.loc l sz i (off + 5)) := xw _ xet xs6 (by decide) l sz i off
theorem iS_30 (xs : List AV) (k : IntKind) (n : Int) : xdb Tryz.prog 30 (.sl 1 xs) (.val (.int k n)) = if 0 ≤ n then (xs[n.toNat]?).map fun z => .ptr z 0 else none := xzc _ xbe aggN_9 xs k n
theorem iM_30 (l len : Nat) (k : IntKind) (n : Int) : xdb Tryz.prog 30 (.msl l len) (.val (.int k n)) = if 0 ≤ n ∧ n < len then some (.loc l 1 n.toNat 0) else none := xrg _ xbe aggN_9 l len k n
theorem ap_30 (V : Nat → Option AO) (s x : AV) (new : Nat) : xuc Tryz.prog 30 V s x new = appK 16 9 1 new (oldsOf V s 9 1) (newsOf V x 1) := xyh _ V xbe aggN_9 x77 zero_9 rfl s x new
theorem bS_30 (len : Nat) (parts : Array (Nat × Operand)) (V : Nat → Option AO) (new : Nat) (ρ : Operand → AV) : evalOp Tryz.prog (.buildSlice 30 len parts) V new ρ = if len * 1 ≤ 16777216 then (setsA 1 (List.replicate len (.val (.string ⟨#[]⟩))) (parts.toList.map fun p => (p.1, ρ p.2))).map fun xs => (.msl new len, [(new, some (.row 9 1 xs))]) else none := by rw [x8e _ _ _ _ 30 len parts 9 xbe, aggN_9, zero_9, x8d]; simp [xj, AV.one, Value.oneCell']
theorem lS_30 (sz : Nat) (xs : List AV) : xzb Tryz.prog 30 (.sl sz xs) = some (int xs.length) := len_sl _ xbe sz xs
theorem lM_30 (l n : Nat) : xzb Tryz.prog 30 (.msl l n) = some (int n) := x9m _ xbe l n
theorem iS_34 (xs : List AV) (k : IntKind) (n : Int) : xdb Tryz.prog 34 (.sl 4 xs) (.val (.int k n)) = if 0 ≤ n then (xs[n.toNat]?).map fun z => .ptr z 0 else none := xzc _ x1m xqu xs k n
theorem ap_34 (V : Nat → Option AO) (s x : AV) (new : Nat) : xuc Tryz.prog 34 V s x new = appK 32 36 4 new (oldsOf V s 36 4) (newsOf V x 4) := xyh _ V x1m xqu xk5 xp6 rfl s x new
theorem bS_34 (len : Nat) (parts : Array (Nat × Operand)) (V : Nat → Option AO) (new : Nat) (ρ : Operand → AV) : evalOp Tryz.prog (.buildSlice 34 len parts) V new ρ = if len * 4 ≤ 16777216 then (setsA 4 (List.replicate len (.agg [.val (.int .i64 0), .val (.int .i64 0), .val (.int .i64 0), .val (.int .i64 0)])) (parts.toList.map fun p => (p.1, ρ p.2))).map fun xs => (.msl new len, [(new, some (.row 36 4 xs))]) else none := by rw [x8e _ _ _ _ 34 len parts 36 x1m, xqu, xp6, x8d]; simp [xj, AV.one, Value.oneCell']
theorem lS_34 (sz : Nat) (xs : List AV) : xzb Tryz.prog 34 (.sl sz xs) = some (int xs.length) := len_sl _ x1m sz xs
theorem ld_36 (y : AV) (off : Nat) : evalLd Tryz.prog 36 y off = ldAgg y off 4 := ld_agg _ xqu y off
theorem lay_36 : layOf Tryz.prog 36 = some ([.val (.int .i64 0), .val (.int .i64 0), .val (.int .i64 0), .val (.int .i64 0)], .str [(0, 1), (1, 1), (2, 1), (3, 1)]) := by kernel_rfl
theorem bd_36 (parts : List (Nat × AV)) : x5b Tryz.prog 36 parts = (fillA (fun i => [(0, 1), (1, 1), (2, 1), (3, 1)][i]?) [.val (.int .i64 0), .val (.int .i64 0), .val (.int .i64 0), .val (.int .i64 0)] parts).map .agg := by simp only [x5b, lay_36]; rfl
theorem ld_39 (y : AV) (off : Nat) : evalLd Tryz.prog 39 y off = ldOne y off := ld_one _ xnu y off
theorem st_39 (V : Nat → Option AO) (l sz i off : Nat) (v : AV) : x4b Tryz.prog 39 V (.loc l sz i off) v = if xj v 1 = true then (rowT (V l) sz i).bind fun p => (stAV p.2.2 off v).map fun x' => [(l, some (.row p.1 sz (p.2.1.set i x')))] else none := xcd _ xnu V l sz i off v
theorem iS_39 (xs : List AV) (k : IntKind) (n : Int) : xdb Tryz.prog 39 (.sl 2 xs) (.val (.int k n)) = if 0 ≤ n then (xs[n.toNat]?).map fun z => .ptr z 0 else none := xzc _ xyj xyk xs k n
theorem ap_39 (V : Nat → Option AO) (s x : AV) (new : Nat) : xuc Tryz.prog 39 V s x new = appK 16 41 2 new (oldsOf V s 41 2) (newsOf V x 2) := xyh _ V xyj xyk xuv xou rfl s x new
theorem bS_39 (len : Nat) (parts : Array (Nat × Operand)) (V : Nat → Option AO) (new : Nat) (ρ : Operand → AV) : evalOp Tryz.prog (.buildSlice 39 len parts) V new ρ = if len * 2 ≤ 16777216 then (setsA 2 (List.replicate len (.agg [.val (.int .i64 0), .val (.int .i64 0)])) (parts.toList.map fun p => (p.1, ρ p.2))).map fun xs => (.msl new len, [(new, some (.row 41 2 xs))]) else none := by rw [x8e _ _ _ _ 39 len parts 41 xyj, xyk, xou, x8d]; simp [xj, AV.one, Value.oneCell']
theorem lS_39 (sz : Nat) (xs : List AV) : xzb Tryz.prog 39 (.sl sz xs) = some (int xs.length) := len_sl _ xyj sz xs
theorem lM_39 (l n : Nat) : xzb Tryz.prog 39 (.msl l n) = some (int n) := x9m _ xyj l n
theorem ld_41 (y : AV) (off : Nat) : evalLd Tryz.prog 41 y off = ldAgg y off 2 := ld_agg _ xyk y off
theorem st_41 (V : Nat → Option AO) (l sz i off : Nat) (v : AV) : x4b Tryz.prog 41 V (.loc l sz i off) v = if xj v 2 = true then (rowT (V l) sz i).bind fun p => (stAV p.2.2 off v).map fun x' => [(l, some (.row p.1 sz (p.2.1.set i x')))] else none := xcd _ xyk V l sz i off v
theorem bx_41 (x : Operand) (V : Nat → Option AO) (new : Nat) (ρ : Operand → AV) : evalOp Tryz.prog (.box 41 x) V new ρ = if xj (ρ x) 2 = true then some (.loc new 2 0 0, [(new, some (.row 41 2 [ρ x]))]) else none := by rw [E_box, xyk, x0d]
theorem al_41 (V : Nat → Option AO) (new : Nat) (ρ : Operand → AV) : evalOp Tryz.prog (.alloc 41) V new ρ = some (.loc new 2 0 0, [(new, some (.row 41 2 [.agg [.val (.int .i64 0), .val (.int .i64 0)]]))]) := by rw [xxk, xyk, xou, x5f]; rfl
theorem xzfb (l sz i off : Nat) : xh Tryz.prog 41 0 (.loc l sz i off) = some (.loc l sz i (off + 0)) := xw _ xy3 aggN_3 (by decide) l sz i off
theorem x5gb (l sz i off : Nat) : xh Tryz.prog 41 1 (.loc l sz i off) = some (.loc l sz i (off + 1)) := xw _ x32 aggN_3 (by decide) l sz i off
theorem lay_41 : layOf Tryz.prog 41 = some ([.val (.int .i64 0), .val (.int .i64 0)], .str [(0, 1), (1, 1)]) := by kernel_rfl
theorem bd_41 (parts : List (Nat × AV)) : x5b Tryz.prog 41 parts = (fillA (fun i => [(0, 1), (1, 1)][i]?) [.val (.int .i64 0), .val (.int .i64 0)] parts).map .agg := by simp only [x5b, lay_41]; rfl
theorem ld_51 (y : AV) (off : Nat) : evalLd Tryz.prog 51 y off = ldOne y off := ld_one _ xlp y off
theorem st_51 (V : Nat → Option AO) (l sz i off : Nat) (v : AV) : x4b Tryz.prog 51 V (.loc l sz i off) v = if xj v 1 = true then (rowT (V l) sz i).bind fun p => (stAV p.2.2 off v).map fun x' => [(l, some (.row p.1 sz (p.2.1.set i x')))] else none := xcd _ xlp V l sz i off v
theorem iS_51 (xs : List AV) (k : IntKind) (n : Int) : xdb Tryz.prog 51 (.sl 3 xs) (.val (.int k n)) = if 0 ≤ n then (xs[n.toNat]?).map fun z => .ptr z 0 else none := xzc _ xxj xsk xs k n
theorem iM_51 (l len : Nat) (k : IntKind) (n : Int) : xdb Tryz.prog 51 (.msl l len) (.val (.int k n)) = if 0 ≤ n ∧ n < len then some (.loc l 3 n.toNat 0) else none := xrg _ xxj xsk l len k n
theorem ap_51 (V : Nat → Option AO) (s x : AV) (new : Nat) : xuc Tryz.prog 51 V s x new = appK 32 77 3 new (oldsOf V s 77 3) (newsOf V x 3) := xyh _ V xxj xsk x85 xpz rfl s x new
theorem bS_51 (len : Nat) (parts : Array (Nat × Operand)) (V : Nat → Option AO) (new : Nat) (ρ : Operand → AV) : evalOp Tryz.prog (.buildSlice 51 len parts) V new ρ = if len * 3 ≤ 16777216 then (setsA 3 (List.replicate len (.agg [.val (.int .i64 0), .val (.int .i64 0), .val (.string ⟨#[]⟩)])) (parts.toList.map fun p => (p.1, ρ p.2))).map fun xs => (.msl new len, [(new, some (.row 77 3 xs))]) else none := by rw [x8e _ _ _ _ 51 len parts 77 xxj, xsk, xpz, x8d]; simp [xj, AV.one, Value.oneCell']
theorem lS_51 (sz : Nat) (xs : List AV) : xzb Tryz.prog 51 (.sl sz xs) = some (int xs.length) := len_sl _ xxj sz xs
theorem lM_51 (l n : Nat) : xzb Tryz.prog 51 (.msl l n) = some (int n) := x9m _ xxj l n
theorem ld_52 (y : AV) (off : Nat) : evalLd Tryz.prog 52 y off = ldOne y off := ld_one _ xq6 y off
theorem iS_52 (xs : List AV) (k : IntKind) (n : Int) : xdb Tryz.prog 52 (.sl 2 xs) (.val (.int k n)) = if 0 ≤ n then (xs[n.toNat]?).map fun z => .ptr z 0 else none := xzc _ x9k xuk xs k n
theorem iM_52 (l len : Nat) (k : IntKind) (n : Int) : xdb Tryz.prog 52 (.msl l len) (.val (.int k n)) = if 0 ≤ n ∧ n < len then some (.loc l 2 n.toNat 0) else none := xrg _ x9k xuk l len k n
theorem ap_52 (V : Nat → Option AO) (s x : AV) (new : Nat) : xuc Tryz.prog 52 V s x new = appK 32 80 2 new (oldsOf V s 80 2) (newsOf V x 2) := xyh _ V x9k xuk x55 xsy rfl s x new
theorem bS_52 (len : Nat) (parts : Array (Nat × Operand)) (V : Nat → Option AO) (new : Nat) (ρ : Operand → AV) : evalOp Tryz.prog (.buildSlice 52 len parts) V new ρ = if len * 2 ≤ 16777216 then (setsA 2 (List.replicate len (.agg [.val (.int .i64 0), .val (.slice none 0 0)])) (parts.toList.map fun p => (p.1, ρ p.2))).map fun xs => (.msl new len, [(new, some (.row 80 2 xs))]) else none := by rw [x8e _ _ _ _ 52 len parts 80 x9k, xuk, xsy, x8d]; simp [xj, AV.one, Value.oneCell']
theorem lS_52 (sz : Nat) (xs : List AV) : xzb Tryz.prog 52 (.sl sz xs) = some (int xs.length) := len_sl _ x9k sz xs
theorem ld_54 (y : AV) (off : Nat) : evalLd Tryz.prog 54 y off = ldAgg y off 8 := ld_agg _ xru y off
theorem st_54 (V : Nat → Option AO) (l sz i off : Nat) (v : AV) : x4b Tryz.prog 54 V (.loc l sz i off) v = if xj v 8 = true then (rowT (V l) sz i).bind fun p => (stAV p.2.2 off v).map fun x' => [(l, some (.row p.1 sz (p.2.1.set i x')))] else none := xcd _ xru V l sz i off v
theorem bx_54 (x : Operand) (V : Nat → Option AO) (new : Nat) (ρ : Operand → AV) : evalOp Tryz.prog (.box 54 x) V new ρ = if xj (ρ x) 8 = true then some (.loc new 8 0 0, [(new, some (.row 54 8 [ρ x]))]) else none := by rw [E_box, xru, x0d]
theorem al_54 (V : Nat → Option AO) (new : Nat) (ρ : Operand → AV) : evalOp Tryz.prog (.alloc 54) V new ρ = some (.loc new 8 0 0, [(new, some (.row 54 8 [.agg [.val (.int .i64 0), .val (.int .i64 0), .val (.int .i64 0), .val (.int .i64 0), .val (.slice none 0 0), .val (.slice none 0 0), .val (.slice none 0 0), .val (.slice none 0 0)]]))]) := by rw [xxk, xru, xogb, x5f]; rfl
theorem xphb (l sz i off : Nat) : xh Tryz.prog 54 0 (.loc l sz i off) = some (.loc l sz i (off + 0)) := xw _ xx4 xku (by decide) l sz i off
theorem xkgb (l sz i off : Nat) : xh Tryz.prog 54 1 (.loc l sz i off) = some (.loc l sz i (off + 6)) := xw _ x22 xlp (by decide) l sz i off
theorem xlhb (l sz i off : Nat) : xh Tryz.prog 54 2 (.loc l sz i off) = some (.loc l sz i (off + 7)) := xw _ xd4 xq6 (by decide) l sz i off
theorem lay_54 : layOf Tryz.prog 54 = some ([.val (.int .i64 0), .val (.int .i64 0), .val (.int .i64 0), .val (.int .i64 0), .val (.slice none 0 0), .val (.slice none 0 0), .val (.slice none 0 0), .val (.slice none 0 0)], .str [(0, 6), (6, 1), (7, 1)]) := by kernel_rfl
theorem bd_54 (parts : List (Nat × AV)) : x5b Tryz.prog 54 parts = (fillA (fun i => [(0, 6), (6, 1), (7, 1)][i]?) [.val (.int .i64 0), .val (.int .i64 0), .val (.int .i64 0), .val (.int .i64 0), .val (.slice none 0 0), .val (.slice none 0 0), .val (.slice none 0 0), .val (.slice none 0 0)] parts).map .agg := by simp only [x5b, lay_54]; rfl
theorem ld_56 (y : AV) (off : Nat) : evalLd Tryz.prog 56 y off = ldOne y off := ld_one _ xw6 y off
theorem xh4 : mapOf Tryz.prog 56 = some (.int .i64, 3) := by kernel_rfl
theorem lk_56 (V : Nat → Option AO) (c : Bool) (l : Nat) (kv : Value) : xfe Tryz.prog 56 c V (.mp l) (.val kv) = lookK c (.int .i64) (zeroOf Tryz.prog 3) kv (V l) := x4fb _ V xh4 c l kv
theorem mu_56 (V : Nat → Option AO) (l : Nat) (kv : Value) (x : AV) : xud Tryz.prog 56 V (.mp l) (.val kv) x = mupdK (.int .i64) kv x l (V l) := x9gb _ V xh4 l kv x
theorem mm_56 (new : Nat) : x3g Tryz.prog 56 new = some (.mp new, [(new, some (.map [] []))]) := by kernel_rfl
theorem ld_58 (y : AV) (off : Nat) : evalLd Tryz.prog 58 y off = ldOne y off := ld_one _ x7y y off
theorem st_58 (V : Nat → Option AO) (l sz i off : Nat) (v : AV) : x4b Tryz.prog 58 V (.loc l sz i off) v = if xj v 1 = true then (rowT (V l) sz i).bind fun p => (stAV p.2.2 off v).map fun x' => [(l, some (.row p.1 sz (p.2.1.set i x')))] else none := xcd _ x7y V l sz i off v
theorem al_58 (V : Nat → Option AO) (new : Nat) (ρ : Operand → AV) : evalOp Tryz.prog (.alloc 58) V new ρ = some (.loc new 1 0 0, [(new, some (.row 58 1 [.val (.slice none 0 0)]))]) := by rw [xxk, x7y, xsgb, x5f]; rfl
theorem iS_58 (xs : List AV) (k : IntKind) (n : Int) : xdb Tryz.prog 58 (.sl 1 xs) (.val (.int k n)) = if 0 ≤ n then (xs[n.toNat]?).map fun z => .ptr z 0 else none := xzc _ xkl aggN_4 xs k n
theorem iM_58 (l len : Nat) (k : IntKind) (n : Int) : xdb Tryz.prog 58 (.msl l len) (.val (.int k n)) = if 0 ≤ n ∧ n < len then some (.loc l 1 n.toNat 0) else none := xrg _ xkl aggN_4 l len k n
theorem mk_58 (ka kb : IntKind) (a c : Int) (new : Nat) : xke Tryz.prog 58 (.val (.int ka a)) (.val (.int kb c)) new = if 0 ≤ a ∧ a ≤ c ∧ (1 : Int) * c ≤ 281474976710656 ∧ c ≤ 9223372036854775807 then some (.msl new a.toNat, [(new, some (.row 4 1 (List.replicate a.toNat (.val (.bool false)))))]) else none := by have h := xk3 _ xkl aggN_4 x47 zero_4 rfl ka kb a c new; exact h
theorem lS_58 (sz : Nat) (xs : List AV) : xzb Tryz.prog 58 (.sl sz xs) = some (int xs.length) := len_sl _ xkl sz xs
theorem lM_58 (l n : Nat) : xzb Tryz.prog 58 (.msl l n) = some (int n) := x9m _ xkl l n
theorem ld_61 (y : AV) (off : Nat) : evalLd Tryz.prog 61 y off = ldOne y off := ld_one _ xl6 y off
theorem lS_61 (sz : Nat) (xs : List AV) : xzb Tryz.prog 61 (.sl sz xs) = some (int xs.length) := len_sl _ x57 sz xs
theorem ld_62 (y : AV) (off : Nat) : evalLd Tryz.prog 62 y off = ldOne y off := ld_one _ xjy y off
theorem iS_62 (xs : List AV) (k : IntKind) (n : Int) : xdb Tryz.prog 62 (.sl 3 xs) (.val (.int k n)) = if 0 ≤ n then (xs[n.toNat]?).map fun z => .ptr z 0 else none := xzc _ x0m xcn xs k n
theorem lS_62 (sz : Nat) (xs : List AV) : xzb Tryz.prog 62 (.sl sz xs) = some (int xs.length) := len_sl _ x0m sz xs
theorem lN_62  : xzb Tryz.prog 62 nilS = some (int 0) := xgfb _ x0m
theorem ld_66 (y : AV) (off : Nat) : evalLd Tryz.prog 66 y off = ldAgg y off 7 := ld_agg _ xwu y off
theorem bx_66 (x : Operand) (V : Nat → Option AO) (new : Nat) (ρ : Operand → AV) : evalOp Tryz.prog (.box 66 x) V new ρ = if xj (ρ x) 7 = true then some (.loc new 7 0 0, [(new, some (.row 66 7 [ρ x]))]) else none := by rw [E_box, xwu, x0d]
theorem xbhb (l sz i off : Nat) : xh Tryz.prog 66 0 (.loc l sz i off) = some (.loc l sz i (off + 0)) := xw _ x3n aggN_3 (by decide) l sz i off
theorem xzgb (l sz i off : Nat) : xh Tryz.prog 66 1 (.loc l sz i off) = some (.loc l sz i (off + 1)) := xw _ x9t aggN_3 (by decide) l sz i off
theorem x3hb (l sz i off : Nat) : xh Tryz.prog 66 2 (.loc l sz i off) = some (.loc l sz i (off + 2)) := xw _ xbs aggN_9 (by decide) l sz i off
theorem ld_68 (y : AV) (off : Nat) : evalLd Tryz.prog 68 y off = ldAgg y off 13 := ld_agg _ xan y off
theorem st_68 (V : Nat → Option AO) (l sz i off : Nat) (v : AV) : x4b Tryz.prog 68 V (.loc l sz i off) v = if xj v 13 = true then (rowT (V l) sz i).bind fun p => (stAV p.2.2 off v).map fun x' => [(l, some (.row p.1 sz (p.2.1.set i x')))] else none := xcd _ xan V l sz i off v
theorem bx_68 (x : Operand) (V : Nat → Option AO) (new : Nat) (ρ : Operand → AV) : evalOp Tryz.prog (.box 68 x) V new ρ = if xj (ρ x) 13 = true then some (.loc new 13 0 0, [(new, some (.row 68 13 [ρ x]))]) else none := by rw [E_box, xan, x0d]
theorem al_68 (V : Nat → Option AO) (new : Nat) (ρ : Operand → AV) : evalOp Tryz.prog (.alloc 68) V new ρ = some (.loc new 13 0 0, [(new, some (.row 68 13 [.agg [.val (.int .i64 0), .val (.int .i64 0), .val (.int .i64 0), .val (.int .i64 0), .val (.slice none 0 0), .val (.slice none 0 0), .val (.int .i64 0), .val (.int .i64 0), .val (.string ⟨#[]⟩), .val (.int .i64 0), .val (.int .i64 0), .val (.int .i64 0), .val (.int .i64 0)]]))]) := by rw [xxk, xan, xdgb, x5f]; rfl
theorem xlfb (l sz i off : Nat) : xh Tryz.prog 68 0 (.loc l sz i off) = some (.loc l sz i (off + 0)) := xw _ xvl aggN_3 (by decide) l sz i off
theorem x6hb (x : AV) : x6e Tryz.prog 68 0 x = partO 0 x := xzz xvl aggN_3 x
theorem xghb (l sz i off : Nat) : xh Tryz.prog 68 2 (.loc l sz i off) = some (.loc l sz i (off + 2)) := xw _ x8s aggN_3 (by decide) l sz i off
theorem xnhb (l sz i off : Nat) : xh Tryz.prog 68 4 (.loc l sz i off) = some (.loc l sz i (off + 4)) := xw _ x0s xl6 (by decide) l sz i off
theorem xmgb (l sz i off : Nat) : xh Tryz.prog 68 5 (.loc l sz i off) = some (.loc l sz i (off + 5)) := xw _ xhn xjy (by decide) l sz i off
theorem x8gb (x : AV) : x6e Tryz.prog 68 5 x = partO 5 x := xzz xhn xjy x
theorem xrhb (l sz i off : Nat) : xh Tryz.prog 68 6 (.loc l sz i off) = some (.loc l sz i (off + 6)) := xw _ xmn xwu (by decide) l sz i off
theorem xvhb (x : AV) : x6e Tryz.prog 68 6 x = partA 6 7 x := xe8 xmn xwu x
theorem lay_68 : layOf Tryz.prog 68 = some ([.val (.int .i64 0), .val (.int .i64 0), .val (.int .i64 0), .val (.int .i64 0), .val (.slice none 0 0), .val (.slice none 0 0), .val (.int .i64 0), .val (.int .i64 0), .val (.string ⟨#[]⟩), .val (.int .i64 0), .val (.int .i64 0), .val (.int .i64 0), .val (.int .i64 0)], .str [(0, 1), (1, 1), (2, 1), (3, 1), (4, 1), (5, 1), (6, 7)]) := by kernel_rfl
theorem bd_68 (parts : List (Nat × AV)) : x5b Tryz.prog 68 parts = (fillA (fun i => [(0, 1), (1, 1), (2, 1), (3, 1), (4, 1), (5, 1), (6, 7)][i]?) [.val (.int .i64 0), .val (.int .i64 0), .val (.int .i64 0), .val (.int .i64 0), .val (.slice none 0 0), .val (.slice none 0 0), .val (.int .i64 0), .val (.int .i64 0), .val (.string ⟨#[]⟩), .val (.int .i64 0), .val (.int .i64 0), .val (.int .i64 0), .val (.int .i64 0)] parts).map .agg := by simp only [x5b, lay_68]; rfl
theorem iS_73 (xs : List AV) (k : IntKind) (n : Int) : xdb Tryz.prog 73 (.sl 1 xs) (.val (.int k n)) = if 0 ≤ n then (xs[n.toNat]?).map fun z => .ptr z 0 else none := xzc _ xkj aggN_3 xs k n
theorem iM_73 (l len : Nat) (k : IntKind) (n : Int) : xdb Tryz.prog 73 (.msl l len) (.val (.int k n)) = if 0 ≤ n ∧ n < len then some (.loc l 1 n.toNat 0) else none := xrg _ xkj aggN_3 l len k n
theorem ap_73 (V : Nat → Option AO) (s x : AV) (new : Nat) : xuc Tryz.prog 73 V s x new = appK 8 3 1 new (oldsOf V s 3 1) (newsOf V x 1) := xyh _ V xkj aggN_3 xc8 zero_3 rfl s x new
theorem bS_73 (len : Nat) (parts : Array (Nat × Operand)) (V : Nat → Option AO) (new : Nat) (ρ : Operand → AV) : evalOp Tryz.prog (.buildSlice 73 len parts) V new ρ = if len * 1 ≤ 16777216 then (setsA 1 (List.replicate len (.val (.int .i64 0))) (parts.toList.map fun p => (p.1, ρ p.2))).map fun xs => (.msl new len, [(new, some (.row 3 1 xs))]) else none := by rw [x8e _ _ _ _ 73 len parts 3 xkj, aggN_3, zero_3, x8d]; simp [xj, AV.one, Value.oneCell']
theorem lS_73 (sz : Nat) (xs : List AV) : xzb Tryz.prog 73 (.sl sz xs) = some (int xs.length) := len_sl _ xkj sz xs
theorem lM_73 (l n : Nat) : xzb Tryz.prog 73 (.msl l n) = some (int n) := x9m _ xkj l n
theorem ld_77 (y : AV) (off : Nat) : evalLd Tryz.prog 77 y off = ldAgg y off 3 := ld_agg _ xsk y off
theorem st_77 (V : Nat → Option AO) (l sz i off : Nat) (v : AV) : x4b Tryz.prog 77 V (.loc l sz i off) v = if xj v 3 = true then (rowT (V l) sz i).bind fun p => (stAV p.2.2 off v).map fun x' => [(l, some (.row p.1 sz (p.2.1.set i x')))] else none := xcd _ xsk V l sz i off v
theorem bx_77 (x : Operand) (V : Nat → Option AO) (new : Nat) (ρ : Operand → AV) : evalOp Tryz.prog (.box 77 x) V new ρ = if xj (ρ x) 3 = true then some (.loc new 3 0 0, [(new, some (.row 77 3 [ρ x]))]) else none := by rw [E_box, xsk, x0d]
theorem al_77 (V : Nat → Option AO) (new : Nat) (ρ : Operand → AV) : evalOp Tryz.prog (.alloc 77) V new ρ = some (.loc new 3 0 0, [(new, some (.row 77 3 [.agg [.val (.int .i64 0), .val (.int .i64 0), .val (.string ⟨#[]⟩)]]))]) := by rw [xxk, xsk, xpz, x5f]; rfl
theorem xffb (l sz i off : Nat) : xh Tryz.prog 77 0 (.loc l sz i off) = some (.loc l sz i (off + 0)) := xw _ x7s aggN_3 (by decide) l sz i off
theorem xhfb (y : AV) (off : Nat) : xh Tryz.prog 77 0 (.ptr y off) = some (.ptr y (off + 0)) := xed _ x7s aggN_3 (by decide) y off
theorem xbib (l sz i off : Nat) : xh Tryz.prog 77 1 (.loc l sz i off) = some (.loc l sz i (off + 1)) := xw _ xft aggN_3 (by decide) l sz i off
theorem xshb (y : AV) (off : Nat) : xh Tryz.prog 77 1 (.ptr y off) = some (.ptr y (off + 1)) := xed _ xft aggN_3 (by decide) y off
theorem x9fb (l sz i off : Nat) : xh Tryz.prog 77 2 (.loc l sz i off) = some (.loc l sz i (off + 2)) := xw _ xjt aggN_9 (by decide) l sz i off
theorem xsfb (y : AV) (off : Nat) : xh Tryz.prog 77 2 (.ptr y off) = some (.ptr y (off + 2)) := xed _ xjt aggN_9 (by decide) y off
theorem lay_77 : layOf Tryz.prog 77 = some ([.val (.int .i64 0), .val (.int .i64 0), .val (.string ⟨#[]⟩)], .str [(0, 1), (1, 1), (2, 1)]) := by kernel_rfl
theorem bd_77 (parts : List (Nat × AV)) : x5b Tryz.prog 77 parts = (fillA (fun i => [(0, 1), (1, 1), (2, 1)][i]?) [.val (.int .i64 0), .val (.int .i64 0), .val (.string ⟨#[]⟩)] parts).map .agg := by simp only [x5b, lay_77]; rfl
theorem ld_80 (y : AV) (off : Nat) : evalLd Tryz.prog 80 y off = ldAgg y off 2 := ld_agg _ xuk y off
theorem st_80 (V : Nat → Option AO) (l sz i off : Nat) (v : AV) : x4b Tryz.prog 80 V (.loc l sz i off) v = if xj v 2 = true then (rowT (V l) sz i).bind fun p => (stAV p.2.2 off v).map fun x' => [(l, some (.row p.1 sz (p.2.1.set i x')))] else none := xcd _ xuk V l sz i off v
theorem bx_80 (x : Operand) (V : Nat → Option AO) (new : Nat) (ρ : Operand → AV) : evalOp Tryz.prog (.box 80 x) V new ρ = if xj (ρ x) 2 = true then some (.loc new 2 0 0, [(new, some (.row 80 2 [ρ x]))]) else none := by rw [E_box, xuk, x0d]
theorem al_80 (V : Nat → Option AO) (new : Nat) (ρ : Operand → AV) : evalOp Tryz.prog (.alloc 80) V new ρ = some (.loc new 2 0 0, [(new, some (.row 80 2 [.agg [.val (.int .i64 0), .val (.slice none 0 0)]]))]) := by rw [xxk, xuk, xsy, x5f]; rfl
theorem x9hb (l sz i off : Nat) : xh Tryz.prog 80 0 (.loc l sz i off) = some (.loc l sz i (off + 0)) := xw _ xv4 aggN_3 (by decide) l sz i off
theorem xngb (l sz i off : Nat) : xh Tryz.prog 80 1 (.loc l sz i off) = some (.loc l sz i (off + 1)) := xw _ xbt xnu (by decide) l sz i off
theorem xkhb (y : AV) (off : Nat) : xh Tryz.prog 80 1 (.ptr y off) = some (.ptr y (off + 1)) := xed _ xbt xnu (by decide) y off
theorem lay_80 : layOf Tryz.prog 80 = some ([.val (.int .i64 0), .val (.slice none 0 0)], .str [(0, 1), (1, 1)]) := by kernel_rfl
theorem bd_80 (parts : List (Nat × AV)) : x5b Tryz.prog 80 parts = (fillA (fun i => [(0, 1), (1, 1)][i]?) [.val (.int .i64 0), .val (.slice none 0 0)] parts).map .agg := by simp only [x5b, lay_80]; rfl
theorem ld_87 (y : AV) (off : Nat) : evalLd Tryz.prog 87 y off = ldAgg y off 3 := ld_agg _ xcn y off
theorem st_87 (V : Nat → Option AO) (l sz i off : Nat) (v : AV) : x4b Tryz.prog 87 V (.loc l sz i off) v = if xj v 3 = true then (rowT (V l) sz i).bind fun p => (stAV p.2.2 off v).map fun x' => [(l, some (.row p.1 sz (p.2.1.set i x')))] else none := xcd _ xcn V l sz i off v
theorem bx_87 (x : Operand) (V : Nat → Option AO) (new : Nat) (ρ : Operand → AV) : evalOp Tryz.prog (.box 87 x) V new ρ = if xj (ρ x) 3 = true then some (.loc new 3 0 0, [(new, some (.row 87 3 [ρ x]))]) else none := by rw [E_box, xcn, x0d]
theorem al_87 (V : Nat → Option AO) (new : Nat) (ρ : Operand → AV) : evalOp Tryz.prog (.alloc 87) V new ρ = some (.loc new 3 0 0, [(new, some (.row 87 3 [.agg [.val (.int .i64 0), .val (.int .i64 0), .val (.string ⟨#[]⟩)]]))]) := by rw [xxk, xcn, xofb, x5f]; rfl
theorem xxhb (l sz i off : Nat) : xh Tryz.prog 87 0 (.loc l sz i off) = some (.loc l sz i (off + 0)) := xw _ xpl aggN_3 (by decide) l sz i off
theorem xihb (y : AV) (off : Nat) : xh Tryz.prog 87 0 (.ptr y off) = some (.ptr y (off + 0)) := xed _ xpl aggN_3 (by decide) y off
theorem xmfb (l sz i off : Nat) : xh Tryz.prog 87 1 (.loc l sz i off) = some (.loc l sz i (off + 1)) := xw _ xjn aggN_3 (by decide) l sz i off
theorem xjfb (y : AV) (off : Nat) : xh Tryz.prog 87 1 (.ptr y off) = some (.ptr y (off + 1)) := xed _ xjn aggN_3 (by decide) y off
theorem xpfb (l sz i off : Nat) : xh Tryz.prog 87 2 (.loc l sz i off) = some (.loc l sz i (off + 2)) := xw _ xyn aggN_9 (by decide) l sz i off
theorem xyfb (y : AV) (off : Nat) : xh Tryz.prog 87 2 (.ptr y off) = some (.ptr y (off + 2)) := xed _ xyn aggN_9 (by decide) y off
theorem ld_91 (y : AV) (off : Nat) : evalLd Tryz.prog 91 y off = ldOne y off := ld_one _ xi6 y off
theorem bx_91 (x : Operand) (V : Nat → Option AO) (new : Nat) (ρ : Operand → AV) : evalOp Tryz.prog (.box 91 x) V new ρ = if xj (ρ x) 1 = true then some (.loc new 1 0 0, [(new, some (.row 91 1 [ρ x]))]) else none := by rw [E_box, xi6, x0d]
theorem ld_109 (y : AV) (off : Nat) : evalLd Tryz.prog 109 y off = ldAgg y off 6 := ld_agg _ x6p y off
theorem st_109 (V : Nat → Option AO) (l sz i off : Nat) (v : AV) : x4b Tryz.prog 109 V (.loc l sz i off) v = if xj v 6 = true then (rowT (V l) sz i).bind fun p => (stAV p.2.2 off v).map fun x' => [(l, some (.row p.1 sz (p.2.1.set i x')))] else none := xcd _ x6p V l sz i off v
theorem bx_109 (x : Operand) (V : Nat → Option AO) (new : Nat) (ρ : Operand → AV) : evalOp Tryz.prog (.box 109 x) V new ρ = if xj (ρ x) 6 = true then some (.loc new 6 0 0, [(new, some (.row 109 6 [ρ x]))]) else none := by rw [E_box, x6p, x0d]
theorem al_109 (V : Nat → Option AO) (new : Nat) (ρ : Operand → AV) : evalOp Tryz.prog (.alloc 109) V new ρ = some (.loc new 6 0 0, [(new, some (.row 109 6 [.agg [.val (.int .i64 0), .val (.int .i64 0), .val (.int .i64 0), .val (.int .i64 0), .val (.slice none 0 0), .val (.slice none 0 0)]]))]) := by rw [xxk, x6p, xndb, x5f]; rfl
theorem xteb (l sz i off : Nat) : xh Tryz.prog 109 0 (.loc l sz i off) = some (.loc l sz i (off + 0)) := xw _ xp1 xku (by decide) l sz i off
theorem xfgb : layOf Tryz.prog 109 = some ([.val (.int .i64 0), .val (.int .i64 0), .val (.int .i64 0), .val (.int .i64 0), .val (.slice none 0 0), .val (.slice none 0 0)], .str [(0, 6)]) := by kernel_rfl
theorem bd_109 (parts : List (Nat × AV)) : x5b Tryz.prog 109 parts = (fillA (fun i => [(0, 6)][i]?) [.val (.int .i64 0), .val (.int .i64 0), .val (.int .i64 0), .val (.int .i64 0), .val (.slice none 0 0), .val (.slice none 0 0)] parts).map .agg := by simp only [x5b, xfgb]; rfl
theorem ld_113 (y : AV) (off : Nat) : evalLd Tryz.prog 113 y off = ldOne y off := ld_one _ xow y off
theorem st_113 (V : Nat → Option AO) (l sz i off : Nat) (v : AV) : x4b Tryz.prog 113 V (.loc l sz i off) v = if xj v 1 = true then (rowT (V l) sz i).bind fun p => (stAV p.2.2 off v).map fun x' => [(l, some (.row p.1 sz (p.2.1.set i x')))] else none := xcd _ xow V l sz i off v
theorem ap_113 (V : Nat → Option AO) (s x : AV) (new : Nat) : xuc Tryz.prog 113 V s x new = appK 16 136 2 new (oldsOf V s 136 2) (newsOf V x 2) := xyh _ V xcv xw2 xr2 xo4 rfl s x new
theorem bS_113 (len : Nat) (parts : Array (Nat × Operand)) (V : Nat → Option AO) (new : Nat) (ρ : Operand → AV) : evalOp Tryz.prog (.buildSlice 113 len parts) V new ρ = if len * 2 ≤ 16777216 then (setsA 2 (List.replicate len (.agg [.val (.int .i64 0), .val (.int .i64 0)])) (parts.toList.map fun p => (p.1, ρ p.2))).map fun xs => (.msl new len, [(new, some (.row 136 2 xs))]) else none := by rw [x8e _ _ _ _ 113 len parts 136 xcv, xw2, xo4, x8d]; simp [xj, AV.one, Value.oneCell']
theorem bx_115 (x : Operand) (V : Nat → Option AO) (new : Nat) (ρ : Operand → AV) : evalOp Tryz.prog (.box 115 x) V new ρ = if xj (ρ x) 4 = true then some (.loc new 4 0 0, [(new, some (.row 115 4 [ρ x]))]) else none := by rw [E_box, xmeb, x0d]
theorem xudb (l sz i off : Nat) : xh Tryz.prog 115 0 (.loc l sz i off) = some (.loc l sz i (off + 0)) := xw _ x2q x4k (by decide) l sz i off
theorem xqeb (y : AV) (off : Nat) : xh Tryz.prog 115 0 (.ptr y off) = some (.ptr y (off + 0)) := xed _ x2q x4k (by decide) y off
theorem xlcb (l sz i off : Nat) : xh Tryz.prog 115 1 (.loc l sz i off) = some (.loc l sz i (off + 1)) := xw _ xir xlp (by decide) l sz i off
theorem xicb (y : AV) (off : Nat) : xh Tryz.prog 115 1 (.ptr y off) = some (.ptr y (off + 1)) := xed _ xir xlp (by decide) y off
theorem xydb (l sz i off : Nat) : xh Tryz.prog 115 2 (.loc l sz i off) = some (.loc l sz i (off + 2)) := xw _ xy1 xw6 (by decide) l sz i off
theorem xjeb (l sz i off : Nat) : xh Tryz.prog 115 3 (.loc l sz i off) = some (.loc l sz i (off + 3)) := xw _ x90 xow (by decide) l sz i off
theorem x5hb : layOf Tryz.prog 115 = some ([.val (.slice none 0 0), .val (.slice none 0 0), .val (.map none), .val (.slice none 0 0)], .str [(0, 1), (1, 1), (2, 1), (3, 1)]) := by kernel_rfl
theorem bd_115 (parts : List (Nat × AV)) : x5b Tryz.prog 115 parts = (fillA (fun i => [(0, 1), (1, 1), (2, 1), (3, 1)][i]?) [.val (.slice none 0 0), .val (.slice none 0 0), .val (.map none), .val (.slice none 0 0)] parts).map .agg := by simp only [x5b, x5hb]; rfl
theorem xnfb : layOf Tryz.prog 136 = some ([.val (.int .i64 0), .val (.int .i64 0)], .arr 1) := by kernel_rfl
theorem bd_136 (parts : List (Nat × AV)) : x5b Tryz.prog 136 parts = (fillA (fun i => some (i * 1, 1)) [.val (.int .i64 0), .val (.int .i64 0)] parts).map .agg := by simp only [x5b, xnfb]; rfl
theorem iS_146 (xs : List AV) (k : IntKind) (n : Int) : xdb Tryz.prog 146 (.sl 1 xs) (.val (.int k n)) = if 0 ≤ n then (xs[n.toNat]?).map fun z => .ptr z 0 else none := xzc _ xqv x4k xs k n
theorem lS_146 (sz : Nat) (xs : List AV) : xzb Tryz.prog 146 (.sl sz xs) = some (int xs.length) := len_sl _ xqv sz xs
end Go.Proofs.YtfkgckbdknpcnaaGreatDoor.AL

