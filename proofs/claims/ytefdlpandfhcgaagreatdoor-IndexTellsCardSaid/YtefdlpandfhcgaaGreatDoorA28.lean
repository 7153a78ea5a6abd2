/- A law of the given program is proved: part 28 of 50. -/
import Derived.Test.YtefdlpandfhcgaaGreatDoorA27
set_option linter.all false
/- AL: the evaluator's rules with the facts of this seat's types, printed by rules.py. -/
set_option linter.unusedSimpArgs false
set_option linter.unusedVariables false
namespace Go.Proofs.YtefdlpandfhcgaaGreatDoor.AL
open Go Go.Proofs
set_option maxRecDepth 100000
theorem mixed : Tryz.prog.follows .mixedOrders = true := by kernel_rfl
theorem zero_3 : zeroOf Tryz.prog 3 = some (.val (.int .i64 0)) := by kernel_rfl
theorem zero_4 : zeroOf Tryz.prog 4 = some (.val (.bool false)) := by kernel_rfl
theorem xi8 : zeroOf Tryz.prog 31 = some (.agg [.val (.int .i64 0), .val (.int .i64 0), .val (.string ⟨#[]⟩)]) := by kernel_rfl
theorem x1y : zeroOf Tryz.prog 37 = some (.agg [.val (.int .i64 0), .val (.int .i64 0), .val (.int .i64 0), .val (.int .i64 0)]) := by kernel_rfl
theorem xi7 : zeroOf Tryz.prog 48 = some (.agg [.val (.int .i64 0), .val (.int .i64 0), .val (.int .i64 0)]) := by kernel_rfl
theorem xv7 : zeroOf Tryz.prog 52 = some (.agg [.val (.int .i64 0), .val (.int .i64 0), .val (.int .i64 0), .val (.int .i64 0), .val (.slice none 0 0), .val (.slice none 0 0), .val (.int .i64 0), .val (.int .i64 0), .val (.string ⟨#[]⟩), .val (.int .i64 0), .val (.int .i64 0), .val (.int .i64 0), .val (.int .i64 0)]) := by kernel_rfl
theorem x29 : zeroOf Tryz.prog 53 = some (.val (.slice none 0 0)) := by kernel_rfl
theorem xz8 : zeroOf Tryz.prog 55 = some (.agg [.val (.int .i64 0), .val (.int .i64 0), .val (.int .i64 0), .val (.int .i64 0), .val (.slice none 0 0), .val (.slice none 0 0), .val (.slice none 0 0)]) := by kernel_rfl
theorem xgt : zeroOf Tryz.prog 85 = some (.agg [.val (.int .i64 0), .val (.int .i64 0), .val (.string ⟨#[]⟩)]) := by kernel_rfl
theorem x18 : zeroOf Tryz.prog 92 = some (.agg [.val (.int .i64 0), .val (.int .i64 0), .val (.int .i64 0)]) := by kernel_rfl
theorem xo7 : zeroOf Tryz.prog 93 = some (.agg [.val (.int .i64 0), .val (.int .i64 0), .val (.int .i64 0), .val (.int .i64 0)]) := by kernel_rfl
theorem xy7 : zeroOf Tryz.prog 94 = some (.agg [.val (.int .i64 0), .val (.int .i64 0), .val (.int .i64 0), .val (.int .i64 0), .val (.int .i64 0), .val (.int .i64 0), .val (.int .i64 0), .val (.int .i64 0), .val (.int .i64 0), .val (.int .i64 0), .val (.int .i64 0), .val (.int .i64 0)]) := by kernel_rfl
theorem xux : zeroOf Tryz.prog 120 = some (.agg [.val (.int .i64 0), .val (.int .i64 0)]) := by kernel_rfl
theorem ld_1 (y : AV) (off : Nat) : evalLd Tryz.prog 1 y off = ldOne y off := ld_one _ aggN_1 y off
theorem ld_2 (y : AV) (off : Nat) : evalLd Tryz.prog 2 y off = ldOne y off := ld_one _ aggN_2 y off
theorem ld_3 (y : AV) (off : Nat) : evalLd Tryz.prog 3 y off = ldOne y off := ld_one _ aggN_3 y off
theorem st_3 (V : Nat → Option AO) (l sz i off : Nat) (v : AV) : x6b Tryz.prog 3 V (.loc l sz i off) v = if xi v 1 = true then (rowT (V l) sz i).bind fun p => (stAV p.2.2 off v).map fun x' => [(l, some (.row p.1 sz (p.2.1.set i x')))] else none := xhd _ aggN_3 V l sz i off v
theorem bx_3 (x : Operand) (V : Nat → Option AO) (new : Nat) (ρ : Operand → AV) : evalOp Tryz.prog (.box 3 x) V new ρ = if xi (ρ x) 1 = true then some (.loc new 1 0 0, [(new, some (.row 3 1 [ρ x]))]) else none := by rw [E_box, aggN_3, xfd]
theorem ld_4 (y : AV) (off : Nat) : evalLd Tryz.prog 4 y off = ldOne y off := ld_one _ aggN_4 y off
theorem st_4 (V : Nat → Option AO) (l sz i off : Nat) (v : AV) : x6b Tryz.prog 4 V (.loc l sz i off) v = if xi v 1 = true then (rowT (V l) sz i).bind fun p => (stAV p.2.2 off v).map fun x' => [(l, some (.row p.1 sz (p.2.1.set i x')))] else none := xhd _ aggN_4 V l sz i off v
theorem bq_4 (a b : Bool) : binK Tryz.prog .eql 4 (bool a) (bool b) = brR (a == b) := x05 xa5 a b
theorem ld_9 (y : AV) (off : Nat) : evalLd Tryz.prog 9 y off = ldOne y off := ld_one _ aggN_9 y off
theorem lB_9 (s : ByteArray) : xdc Tryz.prog 9 (.val (.string s)) = some (int s.size) := x48 _ x1v s
theorem iB_9 (s : ByteArray) (k : IntKind) (n : Int) : xh Tryz.prog 9 (.val (.string s)) (.val (.int k n)) = if 0 ≤ n then (s[n.toNat]?).map fun b => u8 b else none := xh2 _ x1v s k n
theorem ld_24 (y : AV) (off : Nat) : evalLd Tryz.prog 24 y off = ldOne y off := ld_one _ xht y off
theorem iS_24 (xs : List AV) (k : IntKind) (n : Int) : xjb Tryz.prog 24 (.sl 13 xs) (.val (.int k n)) = if 0 ≤ n then (xs[n.toNat]?).map fun z => .ptr z 0 else none := x0d _ xwm x4j xs k n
theorem lS_24 (sz : Nat) (xs : List AV) : xdc Tryz.prog 24 (.sl sz xs) = some (int xs.length) := len_sl _ xwm sz xs
theorem ld_26 (y : AV) (off : Nat) : evalLd Tryz.prog 26 y off = ldAgg y off 1 := ld_agg _ x5i y off
theorem bx_26 (x : Operand) (V : Nat → Option AO) (new : Nat) (ρ : Operand → AV) : evalOp Tryz.prog (.box 26 x) V new ρ = if xi (ρ x) 1 = true then some (.loc new 1 0 0, [(new, some (.row 26 1 [ρ x]))]) else none := by rw [E_box, x5i, xfd]
theorem xq8 (l sz i off : Nat) : xe Tryz.prog 26 0 (.loc l sz i off) = some (.loc l sz i (off + 0)) := xv _ xji xht (by decide) l sz i off
theorem x27 (y : AV) (off : Nat) : xe Tryz.prog 26 0 (.ptr y off) = some (.ptr y (off + 0)) := xee _ xji xht (by decide) y off
theorem ld_27 (y : AV) (off : Nat) : evalLd Tryz.prog 27 y off = ldOne y off := ld_one _ xaz y off
theorem iS_27 (xs : List AV) (k : IntKind) (n : Int) : xjb Tryz.prog 27 (.sl 1 xs) (.val (.int k n)) = if 0 ≤ n then (xs[n.toNat]?).map fun z => .ptr z 0 else none := x0d _ xym x5i xs k n
theorem lS_27 (sz : Nat) (xs : List AV) : xdc Tryz.prog 27 (.sl sz xs) = some (int xs.length) := len_sl _ xym sz xs
theorem ld_29 (y : AV) (off : Nat) : evalLd Tryz.prog 29 y off = ldAgg y off 6 := ld_agg _ x0s y off
theorem bx_29 (x : Operand) (V : Nat → Option AO) (new : Nat) (ρ : Operand → AV) : evalOp Tryz.prog (.box 29 x) V new ρ = if xi (ρ x) 6 = true then some (.loc new 6 0 0, [(new, some (.row 29 6 [ρ x]))]) else none := by rw [E_box, x0s, xfd]
theorem xr8 (l sz i off : Nat) : xe Tryz.prog 29 1 (.loc l sz i off) = some (.loc l sz i (off + 4)) := xv _ xqp x5i (by decide) l sz i off
theorem xkab (l sz i off : Nat) : xe Tryz.prog 29 2 (.loc l sz i off) = some (.loc l sz i (off + 5)) := xv _ xxo xaz (by decide) l sz i off
theorem ld_31 (y : AV) (off : Nat) : evalLd Tryz.prog 31 y off = ldAgg y off 3 := ld_agg _ x3j y off
theorem st_31 (V : Nat → Option AO) (l sz i off : Nat) (v : AV) : x6b Tryz.prog 31 V (.loc l sz i off) v = if xi v 3 = true then (rowT (V l) sz i).bind fun p => (stAV p.2.2 off v).map fun x' => [(l, some (.row p.1 sz (p.2.1.set i x')))] else none := xhd _ x3j V l sz i off v
theorem bx_31 (x : Operand) (V : Nat → Option AO) (new : Nat) (ρ : Operand → AV) : evalOp Tryz.prog (.box 31 x) V new ρ = if xi (ρ x) 3 = true then some (.loc new 3 0 0, [(new, some (.row 31 3 [ρ x]))]) else none := by rw [E_box, x3j, xfd]
theorem al_31 (V : Nat → Option AO) (new : Nat) (ρ : Operand → AV) : evalOp Tryz.prog (.alloc 31) V new ρ = some (.loc new 3 0 0, [(new, some (.row 31 3 [.agg [.val (.int .i64 0), .val (.int .i64 0), .val (.string ⟨#[]⟩)]]))]) := by rw [xoh, x3j, xi8, xvd]; rfl
theorem x78 (l sz i off : Nat) : xe Tryz.prog 31 0 (.loc l sz i off) = some (.loc l sz i (off + 0)) := xv _ x3g aggN_3 (by decide) l sz i off
theorem xmab (y : AV) (off : Nat) : xe Tryz.prog 31 0 (.ptr y off) = some (.ptr y (off + 0)) := xee _ x3g aggN_3 (by decide) y off
theorem xo8 (l sz i off : Nat) : xe Tryz.prog 31 1 (.loc l sz i off) = some (.loc l sz i (off + 1)) := xv _ xsk aggN_3 (by decide) l sz i off
theorem x79 (y : AV) (off : Nat) : xe Tryz.prog 31 1 (.ptr y off) = some (.ptr y (off + 1)) := xee _ xsk aggN_3 (by decide) y off
theorem xj7 (l sz i off : Nat) : xe Tryz.prog 31 2 (.loc l sz i off) = some (.loc l sz i (off + 2)) := xv _ xbk aggN_9 (by decide) l sz i off
theorem x87 (y : AV) (off : Nat) : xe Tryz.prog 31 2 (.ptr y off) = some (.ptr y (off + 2)) := xee _ xbk aggN_9 (by decide) y off
theorem iS_35 (xs : List AV) (k : IntKind) (n : Int) : xjb Tryz.prog 35 (.sl 4 xs) (.val (.int k n)) = if 0 ≤ n then (xs[n.toNat]?).map fun z => .ptr z 0 else none := x0d _ xvj x1p xs k n
theorem ap_35 (V : Nat → Option AO) (s x : AV) (new : Nat) : x0e Tryz.prog 35 V s x new = appK 32 37 4 new (oldsOf V s 37 4) (newsOf V x 4) := xnp _ V xvj x1p xiy x1y rfl s x new
theorem bS_35 (len : Nat) (parts : Array (Nat × Operand)) (V : Nat → Option AO) (new : Nat) (ρ : Operand → AV) : evalOp Tryz.prog (.buildSlice 35 len parts) V new ρ = if len * 4 ≤ 16777216 then (setsA 4 (List.replicate len (.agg [.val (.int .i64 0), .val (.int .i64 0), .val (.int .i64 0), .val (.int .i64 0)])) (parts.toList.map fun p => (p.1, ρ p.2))).map fun xs => (.msl new len, [(new, some (.row 37 4 xs))]) else none := by rw [xli _ _ _ _ 35 len parts 37 xvj, x1p, x1y, xmg]; simp [xi, AV.one, Value.oneCell']
theorem lS_35 (sz : Nat) (xs : List AV) : xdc Tryz.prog 35 (.sl sz xs) = some (int xs.length) := len_sl _ xvj sz xs
theorem ld_37 (y : AV) (off : Nat) : evalLd Tryz.prog 37 y off = ldAgg y off 4 := ld_agg _ x1p y off
theorem lay_37 : layOf Tryz.prog 37 = some ([.val (.int .i64 0), .val (.int .i64 0), .val (.int .i64 0), .val (.int .i64 0)], .str [(0, 1), (1, 1), (2, 1), (3, 1)]) := by kernel_rfl
theorem bd_37 (parts : List (Nat × AV)) : xwb Tryz.prog 37 parts = (fillA (fun i => [(0, 1), (1, 1), (2, 1), (3, 1)][i]?) [.val (.int .i64 0), .val (.int .i64 0), .val (.int .i64 0), .val (.int .i64 0)] parts).map .agg := by simp only [xwb, lay_37]; rfl
theorem ld_45 (y : AV) (off : Nat) : evalLd Tryz.prog 45 y off = ldOne y off := ld_one _ x5s y off
theorem iS_45 (xs : List AV) (k : IntKind) (n : Int) : xjb Tryz.prog 45 (.sl 3 xs) (.val (.int k n)) = if 0 ≤ n then (xs[n.toNat]?).map fun z => .ptr z 0 else none := x0d _ xuj x3j xs k n
theorem lS_45 (sz : Nat) (xs : List AV) : xdc Tryz.prog 45 (.sl sz xs) = some (int xs.length) := len_sl _ xuj sz xs
theorem lN_45  : xdc Tryz.prog 45 nilS = some (int 0) := x19 _ xuj
theorem ld_46 (y : AV) (off : Nat) : evalLd Tryz.prog 46 y off = ldOne y off := ld_one _ x3y y off
theorem lS_46 (sz : Nat) (xs : List AV) : xdc Tryz.prog 46 (.sl sz xs) = some (int xs.length) := len_sl _ x8z sz xs
theorem ld_48 (y : AV) (off : Nat) : evalLd Tryz.prog 48 y off = ldAgg y off 3 := ld_agg _ xbm y off
theorem st_48 (V : Nat → Option AO) (l sz i off : Nat) (v : AV) : x6b Tryz.prog 48 V (.loc l sz i off) v = if xi v 3 = true then (rowT (V l) sz i).bind fun p => (stAV p.2.2 off v).map fun x' => [(l, some (.row p.1 sz (p.2.1.set i x')))] else none := xhd _ xbm V l sz i off v
theorem bx_48 (x : Operand) (V : Nat → Option AO) (new : Nat) (ρ : Operand → AV) : evalOp Tryz.prog (.box 48 x) V new ρ = if xi (ρ x) 3 = true then some (.loc new 3 0 0, [(new, some (.row 48 3 [ρ x]))]) else none := by rw [E_box, xbm, xfd]
theorem al_48 (V : Nat → Option AO) (new : Nat) (ρ : Operand → AV) : evalOp Tryz.prog (.alloc 48) V new ρ = some (.loc new 3 0 0, [(new, some (.row 48 3 [.agg [.val (.int .i64 0), .val (.int .i64 0), .val (.int .i64 0)]]))]) := by rw [xoh, xbm, xi7, xvd]; rfl
theorem xx8 (l sz i off : Nat) : xe Tryz.prog 48 0 (.loc l sz i off) = some (.loc l sz i (off + 0)) := xv _ xok aggN_3 (by decide) l sz i off
theorem x89 (l sz i off : Nat) : xe Tryz.prog 48 1 (.loc l sz i off) = some (.loc l sz i (off + 1)) := xv _ x9n aggN_3 (by decide) l sz i off
theorem xrab (l sz i off : Nat) : xe Tryz.prog 48 2 (.loc l sz i off) = some (.loc l sz i (off + 2)) := xv _ x2o aggN_3 (by decide) l sz i off
theorem lay_48 : layOf Tryz.prog 48 = some ([.val (.int .i64 0), .val (.int .i64 0), .val (.int .i64 0)], .str [(0, 1), (1, 1), (2, 1)]) := by kernel_rfl
theorem bd_48 (parts : List (Nat × AV)) : xwb Tryz.prog 48 parts = (fillA (fun i => [(0, 1), (1, 1), (2, 1)][i]?) [.val (.int .i64 0), .val (.int .i64 0), .val (.int .i64 0)] parts).map .agg := by simp only [xwb, lay_48]; rfl
theorem ld_50 (y : AV) (off : Nat) : evalLd Tryz.prog 50 y off = ldAgg y off 7 := ld_agg _ x2s y off
theorem bx_50 (x : Operand) (V : Nat → Option AO) (new : Nat) (ρ : Operand → AV) : evalOp Tryz.prog (.box 50 x) V new ρ = if xi (ρ x) 7 = true then some (.loc new 7 0 0, [(new, some (.row 50 7 [ρ x]))]) else none := by rw [E_box, x2s, xfd]
theorem xr9 (l sz i off : Nat) : xe Tryz.prog 50 0 (.loc l sz i off) = some (.loc l sz i (off + 0)) := xv _ xlk aggN_3 (by decide) l sz i off
theorem xe8 (l sz i off : Nat) : xe Tryz.prog 50 2 (.loc l sz i off) = some (.loc l sz i (off + 2)) := xv _ x8o aggN_9 (by decide) l sz i off
theorem xk9 (l sz i off : Nat) : xe Tryz.prog 50 3 (.loc l sz i off) = some (.loc l sz i (off + 3)) := xv _ x7n xbm (by decide) l sz i off
theorem ld_52 (y : AV) (off : Nat) : evalLd Tryz.prog 52 y off = ldAgg y off 13 := ld_agg _ x4j y off
theorem st_52 (V : Nat → Option AO) (l sz i off : Nat) (v : AV) : x6b Tryz.prog 52 V (.loc l sz i off) v = if xi v 13 = true then (rowT (V l) sz i).bind fun p => (stAV p.2.2 off v).map fun x' => [(l, some (.row p.1 sz (p.2.1.set i x')))] else none := xhd _ x4j V l sz i off v
theorem bx_52 (x : Operand) (V : Nat → Option AO) (new : Nat) (ρ : Operand → AV) : evalOp Tryz.prog (.box 52 x) V new ρ = if xi (ρ x) 13 = true then some (.loc new 13 0 0, [(new, some (.row 52 13 [ρ x]))]) else none := by rw [E_box, x4j, xfd]
theorem al_52 (V : Nat → Option AO) (new : Nat) (ρ : Operand → AV) : evalOp Tryz.prog (.alloc 52) V new ρ = some (.loc new 13 0 0, [(new, some (.row 52 13 [.agg [.val (.int .i64 0), .val (.int .i64 0), .val (.int .i64 0), .val (.int .i64 0), .val (.slice none 0 0), .val (.slice none 0 0), .val (.int .i64 0), .val (.int .i64 0), .val (.string ⟨#[]⟩), .val (.int .i64 0), .val (.int .i64 0), .val (.int .i64 0), .val (.int .i64 0)]]))]) := by rw [xoh, x4j, xv7, xvd]; rfl
theorem xaab (l sz i off : Nat) : xe Tryz.prog 52 0 (.loc l sz i off) = some (.loc l sz i (off + 0)) := xv _ xwi aggN_3 (by decide) l sz i off
theorem xeab (x : AV) : xzf Tryz.prog 52 0 x = partO 0 x := xuu xwi aggN_3 x
theorem xlab (l sz i off : Nat) : xe Tryz.prog 52 2 (.loc l sz i off) = some (.loc l sz i (off + 2)) := xv _ xao aggN_3 (by decide) l sz i off
theorem xvab (l sz i off : Nat) : xe Tryz.prog 52 3 (.loc l sz i off) = some (.loc l sz i (off + 3)) := xv _ xko aggN_3 (by decide) l sz i off
theorem xqab (l sz i off : Nat) : xe Tryz.prog 52 4 (.loc l sz i off) = some (.loc l sz i (off + 4)) := xv _ xap x3y (by decide) l sz i off
theorem x47 (l sz i off : Nat) : xe Tryz.prog 52 5 (.loc l sz i off) = some (.loc l sz i (off + 5)) := xv _ xdk x5s (by decide) l sz i off
theorem xd9 (x : AV) : xzf Tryz.prog 52 5 x = partO 5 x := xuu xdk x5s x
theorem xb9 (l sz i off : Nat) : xe Tryz.prog 52 6 (.loc l sz i off) = some (.loc l sz i (off + 6)) := xv _ xgo x2s (by decide) l sz i off
theorem lay_52 : layOf Tryz.prog 52 = some ([.val (.int .i64 0), .val (.int .i64 0), .val (.int .i64 0), .val (.int .i64 0), .val (.slice none 0 0), .val (.slice none 0 0), .val (.int .i64 0), .val (.int .i64 0), .val (.string ⟨#[]⟩), .val (.int .i64 0), .val (.int .i64 0), .val (.int .i64 0), .val (.int .i64 0)], .str [(0, 1), (1, 1), (2, 1), (3, 1), (4, 1), (5, 1), (6, 7)]) := by kernel_rfl
theorem bd_52 (parts : List (Nat × AV)) : xwb Tryz.prog 52 parts = (fillA (fun i => [(0, 1), (1, 1), (2, 1), (3, 1), (4, 1), (5, 1), (6, 7)][i]?) [.val (.int .i64 0), .val (.int .i64 0), .val (.int .i64 0), .val (.int .i64 0), .val (.slice none 0 0), .val (.slice none 0 0), .val (.int .i64 0), .val (.int .i64 0), .val (.string ⟨#[]⟩), .val (.int .i64 0), .val (.int .i64 0), .val (.int .i64 0), .val (.int .i64 0)] parts).map .agg := by simp only [xwb, lay_52]; rfl
theorem ld_53 (y : AV) (off : Nat) : evalLd Tryz.prog 53 y off = ldOne y off := ld_one _ x0p y off
theorem st_53 (V : Nat → Option AO) (l sz i off : Nat) (v : AV) : x6b Tryz.prog 53 V (.loc l sz i off) v = if xi v 1 = true then (rowT (V l) sz i).bind fun p => (stAV p.2.2 off v).map fun x' => [(l, some (.row p.1 sz (p.2.1.set i x')))] else none := xhd _ x0p V l sz i off v
theorem al_53 (V : Nat → Option AO) (new : Nat) (ρ : Operand → AV) : evalOp Tryz.prog (.alloc 53) V new ρ = some (.loc new 1 0 0, [(new, some (.row 53 1 [.val (.slice none 0 0)]))]) := by rw [xoh, x0p, x29, xvd]; rfl
theorem iS_53 (xs : List AV) (k : IntKind) (n : Int) : xjb Tryz.prog 53 (.sl 1 xs) (.val (.int k n)) = if 0 ≤ n then (xs[n.toNat]?).map fun z => .ptr z 0 else none := x0d _ xtj aggN_4 xs k n
theorem iM_53 (l len : Nat) (k : IntKind) (n : Int) : xjb Tryz.prog 53 (.msl l len) (.val (.int k n)) = if 0 ≤ n ∧ n < len then some (.loc l 1 n.toNat 0) else none := xmn _ xtj aggN_4 l len k n
theorem mk_53 (ka kb : IntKind) (a c : Int) (new : Nat) : xmd Tryz.prog 53 (.val (.int ka a)) (.val (.int kb c)) new = if 0 ≤ a ∧ a ≤ c ∧ (1 : Int) * c ≤ 281474976710656 ∧ c ≤ 9223372036854775807 then some (.msl new a.toNat, [(new, some (.row 4 1 (List.replicate a.toNat (.val (.bool false)))))]) else none := by have h := x8w _ xtj aggN_4 xr0 zero_4 rfl ka kb a c new; exact h
theorem lM_53 (l n : Nat) : xdc Tryz.prog 53 (.msl l n) = some (int n) := x2y _ xtj l n
theorem ld_55 (y : AV) (off : Nat) : evalLd Tryz.prog 55 y off = ldAgg y off 7 := ld_agg _ xwp y off
theorem st_55 (V : Nat → Option AO) (l sz i off : Nat) (v : AV) : x6b Tryz.prog 55 V (.loc l sz i off) v = if xi v 7 = true then (rowT (V l) sz i).bind fun p => (stAV p.2.2 off v).map fun x' => [(l, some (.row p.1 sz (p.2.1.set i x')))] else none := xhd _ xwp V l sz i off v
theorem bx_55 (x : Operand) (V : Nat → Option AO) (new : Nat) (ρ : Operand → AV) : evalOp Tryz.prog (.box 55 x) V new ρ = if xi (ρ x) 7 = true then some (.loc new 7 0 0, [(new, some (.row 55 7 [ρ x]))]) else none := by rw [E_box, xwp, xfd]
theorem al_55 (V : Nat → Option AO) (new : Nat) (ρ : Operand → AV) : evalOp Tryz.prog (.alloc 55) V new ρ = some (.loc new 7 0 0, [(new, some (.row 55 7 [.agg [.val (.int .i64 0), .val (.int .i64 0), .val (.int .i64 0), .val (.int .i64 0), .val (.slice none 0 0), .val (.slice none 0 0), .val (.slice none 0 0)]]))]) := by rw [xoh, xwp, xz8, xvd]; rfl
theorem xl9 (l sz i off : Nat) : xe Tryz.prog 55 0 (.loc l sz i off) = some (.loc l sz i (off + 0)) := xv _ xwx x0s (by decide) l sz i off
theorem xu8 (l sz i off : Nat) : xe Tryz.prog 55 1 (.loc l sz i off) = some (.loc l sz i (off + 6)) := xv _ xew x0p (by decide) l sz i off
theorem iS_67 (xs : List AV) (k : IntKind) (n : Int) : xjb Tryz.prog 67 (.sl 1 xs) (.val (.int k n)) = if 0 ≤ n then (xs[n.toNat]?).map fun z => .ptr z 0 else none := x0d _ xtm aggN_3 xs k n
theorem bS_67 (len : Nat) (parts : Array (Nat × Operand)) (V : Nat → Option AO) (new : Nat) (ρ : Operand → AV) : evalOp Tryz.prog (.buildSlice 67 len parts) V new ρ = if len * 1 ≤ 16777216 then (setsA 1 (List.replicate len (.val (.int .i64 0))) (parts.toList.map fun p => (p.1, ρ p.2))).map fun xs => (.msl new len, [(new, some (.row 3 1 xs))]) else none := by rw [xli _ _ _ _ 67 len parts 3 xtm, aggN_3, zero_3, xmg]; simp [xi, AV.one, Value.oneCell']
theorem lS_67 (sz : Nat) (xs : List AV) : xdc Tryz.prog 67 (.sl sz xs) = some (int xs.length) := len_sl _ xtm sz xs
theorem bx_80 (x : Operand) (V : Nat → Option AO) (new : Nat) (ρ : Operand → AV) : evalOp Tryz.prog (.box 80 x) V new ρ = if xi (ρ x) 2 = true then some (.loc new 2 0 0, [(new, some (.row 80 2 [ρ x]))]) else none := by rw [E_box, xf8, xfd]
theorem x88 (l sz i off : Nat) : xe Tryz.prog 80 0 (.loc l sz i off) = some (.loc l sz i (off + 0)) := xv _ xxx aggN_3 (by decide) l sz i off
theorem x08 (l sz i off : Nat) : xe Tryz.prog 80 1 (.loc l sz i off) = some (.loc l sz i (off + 1)) := xv _ xvv aggN_3 (by decide) l sz i off
theorem lay_80 : layOf Tryz.prog 80 = some ([.val (.int .i64 0), .val (.int .i64 0)], .str [(0, 1), (1, 1)]) := by kernel_rfl
theorem bd_80 (parts : List (Nat × AV)) : xwb Tryz.prog 80 parts = (fillA (fun i => [(0, 1), (1, 1)][i]?) [.val (.int .i64 0), .val (.int .i64 0)] parts).map .agg := by simp only [xwb, lay_80]; rfl
theorem ld_82 (y : AV) (off : Nat) : evalLd Tryz.prog 82 y off = ldOne y off := ld_one _ xzp y off
theorem st_82 (V : Nat → Option AO) (l sz i off : Nat) (v : AV) : x6b Tryz.prog 82 V (.loc l sz i off) v = if xi v 1 = true then (rowT (V l) sz i).bind fun p => (stAV p.2.2 off v).map fun x' => [(l, some (.row p.1 sz (p.2.1.set i x')))] else none := xhd _ xzp V l sz i off v
theorem iS_82 (xs : List AV) (k : IntKind) (n : Int) : xjb Tryz.prog 82 (.sl 3 xs) (.val (.int k n)) = if 0 ≤ n then (xs[n.toNat]?).map fun z => .ptr z 0 else none := x0d _ xqh x7h xs k n
theorem iM_82 (l len : Nat) (k : IntKind) (n : Int) : xjb Tryz.prog 82 (.msl l len) (.val (.int k n)) = if 0 ≤ n ∧ n < len then some (.loc l 3 n.toNat 0) else none := xmn _ xqh x7h l len k n
theorem ap_82 (V : Nat → Option AO) (s x : AV) (new : Nat) : x0e Tryz.prog 82 V s x new = appK 32 85 3 new (oldsOf V s 85 3) (newsOf V x 3) := xnp _ V xqh x7h xwy xgt rfl s x new
theorem bS_82 (len : Nat) (parts : Array (Nat × Operand)) (V : Nat → Option AO) (new : Nat) (ρ : Operand → AV) : evalOp Tryz.prog (.buildSlice 82 len parts) V new ρ = if len * 3 ≤ 16777216 then (setsA 3 (List.replicate len (.agg [.val (.int .i64 0), .val (.int .i64 0), .val (.string ⟨#[]⟩)])) (parts.toList.map fun p => (p.1, ρ p.2))).map fun xs => (.msl new len, [(new, some (.row 85 3 xs))]) else none := by rw [xli _ _ _ _ 82 len parts 85 xqh, x7h, xgt, xmg]; simp [xi, AV.one, Value.oneCell']
theorem lS_82 (sz : Nat) (xs : List AV) : xdc Tryz.prog 82 (.sl sz xs) = some (int xs.length) := len_sl _ xqh sz xs
theorem lM_82 (l n : Nat) : xdc Tryz.prog 82 (.msl l n) = some (int n) := x2y _ xqh l n
theorem ld_85 (y : AV) (off : Nat) : evalLd Tryz.prog 85 y off = ldAgg y off 3 := ld_agg _ x7h y off
theorem st_85 (V : Nat → Option AO) (l sz i off : Nat) (v : AV) : x6b Tryz.prog 85 V (.loc l sz i off) v = if xi v 3 = true then (rowT (V l) sz i).bind fun p => (stAV p.2.2 off v).map fun x' => [(l, some (.row p.1 sz (p.2.1.set i x')))] else none := xhd _ x7h V l sz i off v
theorem bx_85 (x : Operand) (V : Nat → Option AO) (new : Nat) (ρ : Operand → AV) : evalOp Tryz.prog (.box 85 x) V new ρ = if xi (ρ x) 3 = true then some (.loc new 3 0 0, [(new, some (.row 85 3 [ρ x]))]) else none := by rw [E_box, x7h, xfd]
theorem al_85 (V : Nat → Option AO) (new : Nat) (ρ : Operand → AV) : evalOp Tryz.prog (.alloc 85) V new ρ = some (.loc new 3 0 0, [(new, some (.row 85 3 [.agg [.val (.int .i64 0), .val (.int .i64 0), .val (.string ⟨#[]⟩)]]))]) := by rw [xoh, x7h, xgt, xvd]; rfl
theorem xb8 (l sz i off : Nat) : xe Tryz.prog 85 0 (.loc l sz i off) = some (.loc l sz i (off + 0)) := xv _ xno aggN_3 (by decide) l sz i off
theorem x77 (y : AV) (off : Nat) : xe Tryz.prog 85 0 (.ptr y off) = some (.ptr y (off + 0)) := xee _ xno aggN_3 (by decide) y off
theorem lay_85 : layOf Tryz.prog 85 = some ([.val (.int .i64 0), .val (.int .i64 0), .val (.string ⟨#[]⟩)], .str [(0, 1), (1, 1), (2, 1)]) := by kernel_rfl
theorem bd_85 (parts : List (Nat × AV)) : xwb Tryz.prog 85 parts = (fillA (fun i => [(0, 1), (1, 1), (2, 1)][i]?) [.val (.int .i64 0), .val (.int .i64 0), .val (.string ⟨#[]⟩)] parts).map .agg := by simp only [xwb, lay_85]; rfl
theorem ld_89 (y : AV) (off : Nat) : evalLd Tryz.prog 89 y off = ldOne y off := ld_one _ x8y y off
theorem bx_89 (x : Operand) (V : Nat → Option AO) (new : Nat) (ρ : Operand → AV) : evalOp Tryz.prog (.box 89 x) V new ρ = if xi (ρ x) 1 = true then some (.loc new 1 0 0, [(new, some (.row 89 1 [ρ x]))]) else none := by rw [E_box, x8y, xfd]
theorem al_92 (V : Nat → Option AO) (new : Nat) (ρ : Operand → AV) : evalOp Tryz.prog (.alloc 92) V new ρ = some (.loc new 3 0 0, [(new, some (.row 92 3 [.agg [.val (.int .i64 0), .val (.int .i64 0), .val (.int .i64 0)]]))]) := by rw [xoh, xtab, x18, xvd]; rfl
theorem iL_92 (l sz i off : Nat) (k : IntKind) (n : Int) : xjb Tryz.prog 92 (.loc l sz i off) (.val (.int k n)) = if 0 ≤ n ∧ n < (3 : Nat) then some (.loc l sz i (off + n.toNat * 1)) else none := xcm _ xpz x13 aggN_3 l sz i off k n
theorem st_93 (V : Nat → Option AO) (l sz i off : Nat) (v : AV) : x6b Tryz.prog 93 V (.loc l sz i off) v = if xi v 4 = true then (rowT (V l) sz i).bind fun p => (stAV p.2.2 off v).map fun x' => [(l, some (.row p.1 sz (p.2.1.set i x')))] else none := xhd _ x5b V l sz i off v
theorem al_93 (V : Nat → Option AO) (new : Nat) (ρ : Operand → AV) : evalOp Tryz.prog (.alloc 93) V new ρ = some (.loc new 4 0 0, [(new, some (.row 93 4 [.agg [.val (.int .i64 0), .val (.int .i64 0), .val (.int .i64 0), .val (.int .i64 0)]]))]) := by rw [xoh, x5b, xo7, xvd]; rfl
theorem lay_93 : layOf Tryz.prog 93 = some ([.val (.int .i64 0), .val (.int .i64 0), .val (.int .i64 0), .val (.int .i64 0)], .arr 1) := by kernel_rfl
theorem bd_93 (parts : List (Nat × AV)) : xwb Tryz.prog 93 parts = (fillA (fun i => some (i * 1, 1)) [.val (.int .i64 0), .val (.int .i64 0), .val (.int .i64 0), .val (.int .i64 0)] parts).map .agg := by simp only [xwb, lay_93]; rfl
theorem iL_93 (l sz i off : Nat) (k : IntKind) (n : Int) : xjb Tryz.prog 93 (.loc l sz i off) (.val (.int k n)) = if 0 ≤ n ∧ n < (4 : Nat) then some (.loc l sz i (off + n.toNat * 1)) else none := xcm _ xd0 xw2 aggN_3 l sz i off k n
theorem ld_94 (y : AV) (off : Nat) : evalLd Tryz.prog 94 y off = ldAgg y off 12 := ld_agg _ xzs y off
theorem st_94 (V : Nat → Option AO) (l sz i off : Nat) (v : AV) : x6b Tryz.prog 94 V (.loc l sz i off) v = if xi v 12 = true then (rowT (V l) sz i).bind fun p => (stAV p.2.2 off v).map fun x' => [(l, some (.row p.1 sz (p.2.1.set i x')))] else none := xhd _ xzs V l sz i off v
theorem al_94 (V : Nat → Option AO) (new : Nat) (ρ : Operand → AV) : evalOp Tryz.prog (.alloc 94) V new ρ = some (.loc new 12 0 0, [(new, some (.row 94 12 [.agg [.val (.int .i64 0), .val (.int .i64 0), .val (.int .i64 0), .val (.int .i64 0), .val (.int .i64 0), .val (.int .i64 0), .val (.int .i64 0), .val (.int .i64 0), .val (.int .i64 0), .val (.int .i64 0), .val (.int .i64 0), .val (.int .i64 0)]]))]) := by rw [xoh, xzs, xy7, xvd]; rfl
theorem lay_94 : layOf Tryz.prog 94 = some ([.val (.int .i64 0), .val (.int .i64 0), .val (.int .i64 0), .val (.int .i64 0), .val (.int .i64 0), .val (.int .i64 0), .val (.int .i64 0), .val (.int .i64 0), .val (.int .i64 0), .val (.int .i64 0), .val (.int .i64 0), .val (.int .i64 0)], .arr 4) := by kernel_rfl
theorem bd_94 (parts : List (Nat × AV)) : xwb Tryz.prog 94 parts = (fillA (fun i => some (i * 4, 4)) [.val (.int .i64 0), .val (.int .i64 0), .val (.int .i64 0), .val (.int .i64 0), .val (.int .i64 0), .val (.int .i64 0), .val (.int .i64 0), .val (.int .i64 0), .val (.int .i64 0), .val (.int .i64 0), .val (.int .i64 0), .val (.int .i64 0)] parts).map .agg := by simp only [xwb, lay_94]; rfl
theorem ld_103 (y : AV) (off : Nat) : evalLd Tryz.prog 103 y off = ldOne y off := ld_one _ xir y off
theorem st_103 (V : Nat → Option AO) (l sz i off : Nat) (v : AV) : x6b Tryz.prog 103 V (.loc l sz i off) v = if xi v 1 = true then (rowT (V l) sz i).bind fun p => (stAV p.2.2 off v).map fun x' => [(l, some (.row p.1 sz (p.2.1.set i x')))] else none := xhd _ xir V l sz i off v
theorem ap_103 (V : Nat → Option AO) (s x : AV) (new : Nat) : x0e Tryz.prog 103 V s x new = appK 16 120 2 new (oldsOf V s 120 2) (newsOf V x 2) := xnp _ V xaq xvw x3x xux rfl s x new
theorem bS_103 (len : Nat) (parts : Array (Nat × Operand)) (V : Nat → Option AO) (new : Nat) (ρ : Operand → AV) : evalOp Tryz.prog (.buildSlice 103 len parts) V new ρ = if len * 2 ≤ 16777216 then (setsA 2 (List.replicate len (.agg [.val (.int .i64 0), .val (.int .i64 0)])) (parts.toList.map fun p => (p.1, ρ p.2))).map fun xs => (.msl new len, [(new, some (.row 120 2 xs))]) else none := by rw [xli _ _ _ _ 103 len parts 120 xaq, xvw, xux, xmg]; simp [xi, AV.one, Value.oneCell']
theorem ld_108 (y : AV) (off : Nat) : evalLd Tryz.prog 108 y off = ldOne y off := ld_one _ xzv y off
theorem xku : mapOf Tryz.prog 108 = some (.int .i64, 3) := by kernel_rfl
theorem lk_108 (V : Nat → Option AO) (c : Bool) (l : Nat) (kv : Value) : xxd Tryz.prog 108 c V (.mp l) (.val kv) = lookK c (.int .i64) (zeroOf Tryz.prog 3) kv (V l) := x99 _ V xku c l kv
theorem mu_108 (V : Nat → Option AO) (l : Nat) (kv : Value) (x : AV) : xjd Tryz.prog 108 V (.mp l) (.val kv) x = mupdK (.int .i64) kv x l (V l) := xoab _ V xku l kv x
theorem mm_108 (new : Nat) : xog Tryz.prog 108 new = some (.mp new, [(new, some (.map [] []))]) := by kernel_rfl
theorem bx_110 (x : Operand) (V : Nat → Option AO) (new : Nat) (ρ : Operand → AV) : evalOp Tryz.prog (.box 110 x) V new ρ = if xi (ρ x) 4 = true then some (.loc new 4 0 0, [(new, some (.row 110 4 [ρ x]))]) else none := by rw [E_box, xx5, xfd]
theorem x35 (l sz i off : Nat) : xe Tryz.prog 110 0 (.loc l sz i off) = some (.loc l sz i (off + 0)) := xv _ xcn x5i (by decide) l sz i off
theorem xb4 (y : AV) (off : Nat) : xe Tryz.prog 110 0 (.ptr y off) = some (.ptr y (off + 0)) := xee _ xcn x5i (by decide) y off
theorem xt4 (l sz i off : Nat) : xe Tryz.prog 110 1 (.loc l sz i off) = some (.loc l sz i (off + 1)) := xv _ xkn xzp (by decide) l sz i off
theorem xv4 (y : AV) (off : Nat) : xe Tryz.prog 110 1 (.ptr y off) = some (.ptr y (off + 1)) := xee _ xkn xzp (by decide) y off
theorem x25 (l sz i off : Nat) : xe Tryz.prog 110 2 (.loc l sz i off) = some (.loc l sz i (off + 2)) := xv _ xpv xzv (by decide) l sz i off
theorem xf4 (l sz i off : Nat) : xe Tryz.prog 110 3 (.loc l sz i off) = some (.loc l sz i (off + 3)) := xv _ xlv xir (by decide) l sz i off
theorem xg8 : layOf Tryz.prog 110 = some ([.val (.slice none 0 0), .val (.slice none 0 0), .val (.map none), .val (.slice none 0 0)], .str [(0, 1), (1, 1), (2, 1), (3, 1)]) := by kernel_rfl
theorem bd_110 (parts : List (Nat × AV)) : xwb Tryz.prog 110 parts = (fillA (fun i => [(0, 1), (1, 1), (2, 1), (3, 1)][i]?) [.val (.slice none 0 0), .val (.slice none 0 0), .val (.map none), .val (.slice none 0 0)] parts).map .agg := by simp only [xwb, xg8]; rfl
theorem xr7 : layOf Tryz.prog 120 = some ([.val (.int .i64 0), .val (.int .i64 0)], .arr 1) := by kernel_rfl
theorem bd_120 (parts : List (Nat × AV)) : xwb Tryz.prog 120 parts = (fillA (fun i => some (i * 1, 1)) [.val (.int .i64 0), .val (.int .i64 0)] parts).map .agg := by simp only [xwb, xr7]; rfl
end Go.Proofs.YtefdlpandfhcgaaGreatDoor.AL

