/- A law of the given program is proved: part 27 of 47. -/
import Derived.Test.YtjmnoaoeediodaaDoorC26
set_option linter.all false
/- AL: the evaluator's rules with the facts of this seat's types, printed by rules.py. -/
set_option linter.unusedSimpArgs false
set_option linter.unusedVariables false
namespace Go.Proofs.YtjmnoaoeediodaaDoor.AL
open Go Go.Proofs
set_option maxRecDepth 100000
theorem mixed : Tryd.prog.follows .mixedOrders = true := by kernel_rfl
theorem zero_4 : zeroOf Tryd.prog 4 = some (.val (.bool false)) := by kernel_rfl
theorem zero_5 : zeroOf Tryd.prog 5 = some (.val (.int .u8 0)) := by kernel_rfl
theorem zero_9 : zeroOf Tryd.prog 9 = some (.val (.string ⟨#[]⟩)) := by kernel_rfl
theorem xhu : zeroOf Tryd.prog 23 = some (.agg [.val (.int .i64 0), .val (.int .i64 0), .val (.int .i64 0), .val (.int .i64 0)]) := by kernel_rfl
theorem xpp : zeroOf Tryd.prog 36 = some (.agg [.val (.int .i64 0), .val (.int .i64 0), .val (.int .i64 0), .val (.bool false)]) := by kernel_rfl
theorem xe2 : zeroOf Tryd.prog 39 = some (.agg [.val (.int .i64 0), .val (.slice none 0 0), .val (.bool false)]) := by kernel_rfl
theorem xn2 : zeroOf Tryd.prog 56 = some (.agg [.val (.pointer none), .val (.pointer none), .val (.pointer none)]) := by kernel_rfl
theorem ld_1 (y : AV) (off : Nat) : evalLd Tryd.prog 1 y off = ldOne y off := ld_one _ aggN_1 y off
theorem ld_2 (y : AV) (off : Nat) : evalLd Tryd.prog 2 y off = ldOne y off := ld_one _ aggN_2 y off
theorem ld_3 (y : AV) (off : Nat) : evalLd Tryd.prog 3 y off = ldOne y off := ld_one _ aggN_3 y off
theorem st_3 (V : Nat → Option AO) (l sz i off : Nat) (v : AV) : xqc Tryd.prog 3 V (.loc l sz i off) v = if xn v 1 = true then (rowT (V l) sz i).bind fun p => (stAV p.2.2 off v).map fun x' => [(l, some (.row p.1 sz (p.2.1.set i x')))] else none := xef _ aggN_3 V l sz i off v
theorem ld_4 (y : AV) (off : Nat) : evalLd Tryd.prog 4 y off = ldOne y off := ld_one _ aggN_4 y off
theorem st_4 (V : Nat → Option AO) (l sz i off : Nat) (v : AV) : xqc Tryd.prog 4 V (.loc l sz i off) v = if xn v 1 = true then (rowT (V l) sz i).bind fun p => (stAV p.2.2 off v).map fun x' => [(l, some (.row p.1 sz (p.2.1.set i x')))] else none := xef _ aggN_4 V l sz i off v
theorem bq_4 (a b : Bool) : binK Tryd.prog .eql 4 (bool a) (bool b) = brR (a == b) := xly xsr a b
theorem bn_4 (a b : Bool) : binK Tryd.prog .neq 4 (bool a) (bool b) = brR (!(a == b)) := xwz xsr a b
theorem ld_9 (y : AV) (off : Nat) : evalLd Tryd.prog 9 y off = ldOne y off := ld_one _ aggN_9 y off
theorem lB_9 (s : ByteArray) : xdd Tryd.prog 9 (.val (.string s)) = some (int s.size) := xh2 _ xns s
theorem iB_9 (s : ByteArray) (k : IntKind) (n : Int) : xkf Tryd.prog 9 (.val (.string s)) (.val (.int k n)) = if 0 ≤ n then (s[n.toNat]?).map fun b => u8 b else none := xiw _ xns s k n
theorem ld_23 (y : AV) (off : Nat) : evalLd Tryd.prog 23 y off = ldAgg y off 4 := ld_agg _ xoi y off
theorem st_23 (V : Nat → Option AO) (l sz i off : Nat) (v : AV) : xqc Tryd.prog 23 V (.loc l sz i off) v = if xn v 4 = true then (rowT (V l) sz i).bind fun p => (stAV p.2.2 off v).map fun x' => [(l, some (.row p.1 sz (p.2.1.set i x')))] else none := xef _ xoi V l sz i off v
theorem bx_23 (x : Operand) (V : Nat → Option AO) (new : Nat) (ρ : Operand → AV) : evalOp Tryd.prog (.box 23 x) V new ρ = if xn (ρ x) 4 = true then some (.loc new 4 0 0, [(new, some (.row 23 4 [ρ x]))]) else none := by rw [E_box, xoi, x0i]
theorem al_23 (V : Nat → Option AO) (new : Nat) (ρ : Operand → AV) : evalOp Tryd.prog (.alloc 23) V new ρ = some (.loc new 4 0 0, [(new, some (.row 23 4 [.agg [.val (.int .i64 0), .val (.int .i64 0), .val (.int .i64 0), .val (.int .i64 0)]]))]) := by rw [xbn, xoi, xhu, xph]; rfl
theorem x80 (l sz i off : Nat) : xo Tryd.prog 23 0 (.loc l sz i off) = some (.loc l sz i (off + 0)) := xr _ xwg aggN_3 (by decide) l sz i off
theorem xq2 (l sz i off : Nat) : xo Tryd.prog 23 1 (.loc l sz i off) = some (.loc l sz i (off + 1)) := xr _ xyl aggN_3 (by decide) l sz i off
theorem xo0 (l sz i off : Nat) : xo Tryd.prog 23 2 (.loc l sz i off) = some (.loc l sz i (off + 2)) := xr _ x3l aggN_3 (by decide) l sz i off
theorem xs0 (l sz i off : Nat) : xo Tryd.prog 23 3 (.loc l sz i off) = some (.loc l sz i (off + 3)) := xr _ xxm aggN_3 (by decide) l sz i off
theorem lay_23 : layOf Tryd.prog 23 = some ([.val (.int .i64 0), .val (.int .i64 0), .val (.int .i64 0), .val (.int .i64 0)], .str [(0, 1), (1, 1), (2, 1), (3, 1)]) := by kernel_rfl
theorem bd_23 (parts : List (Nat × AV)) : xnc Tryd.prog 23 parts = (fillA (fun i => [(0, 1), (1, 1), (2, 1), (3, 1)][i]?) [.val (.int .i64 0), .val (.int .i64 0), .val (.int .i64 0), .val (.int .i64 0)] parts).map .agg := by simp only [xnc, lay_23]; rfl
theorem ld_30 (y : AV) (off : Nat) : evalLd Tryd.prog 30 y off = ldOne y off := ld_one _ x8m y off
theorem iS_30 (xs : List AV) (k : IntKind) (n : Int) : xjb Tryd.prog 30 (.sl 4 xs) (.val (.int k n)) = if 0 ≤ n then (xs[n.toNat]?).map fun z => .ptr z 0 else none := xti _ xlk xoi xs k n
theorem bS_30 (len : Nat) (parts : Array (Nat × Operand)) (V : Nat → Option AO) (new : Nat) (ρ : Operand → AV) : evalOp Tryd.prog (.buildSlice 30 len parts) V new ρ = if len * 4 ≤ 16777216 then (setsA 4 (List.replicate len (.agg [.val (.int .i64 0), .val (.int .i64 0), .val (.int .i64 0), .val (.int .i64 0)])) (parts.toList.map fun p => (p.1, ρ p.2))).map fun xs => (.msl new len, [(new, some (.row 23 4 xs))]) else none := by rw [xff _ _ _ _ 30 len parts 23 xlk, xoi, xhu, xle]; simp [xn, AV.one, Value.oneCell']
theorem lS_30 (sz : Nat) (xs : List AV) : xdd Tryd.prog 30 (.sl sz xs) = some (int xs.length) := len_sl _ xlk sz xs
theorem ld_32 (y : AV) (off : Nat) : evalLd Tryd.prog 32 y off = ldAgg y off 8 := ld_agg _ xgu y off
theorem bx_32 (x : Operand) (V : Nat → Option AO) (new : Nat) (ρ : Operand → AV) : evalOp Tryd.prog (.box 32 x) V new ρ = if xn (ρ x) 8 = true then some (.loc new 8 0 0, [(new, some (.row 32 8 [ρ x]))]) else none := by rw [E_box, xgu, x0i]
theorem xp1 (l sz i off : Nat) : xo Tryd.prog 32 0 (.loc l sz i off) = some (.loc l sz i (off + 0)) := xr _ xvg aggN_3 (by decide) l sz i off
theorem xj2 (l sz i off : Nat) : xo Tryd.prog 32 1 (.loc l sz i off) = some (.loc l sz i (off + 1)) := xr _ xwl x8m (by decide) l sz i off
theorem xp0 (l sz i off : Nat) : xo Tryd.prog 32 2 (.loc l sz i off) = some (.loc l sz i (off + 2)) := xr _ xnm x8m (by decide) l sz i off
theorem xs1 (l sz i off : Nat) : xo Tryd.prog 32 3 (.loc l sz i off) = some (.loc l sz i (off + 3)) := xr _ x6l x8m (by decide) l sz i off
theorem x51 (l sz i off : Nat) : xo Tryd.prog 32 4 (.loc l sz i off) = some (.loc l sz i (off + 4)) := xr _ x5l aggN_3 (by decide) l sz i off
theorem x81 (l sz i off : Nat) : xo Tryd.prog 32 5 (.loc l sz i off) = some (.loc l sz i (off + 5)) := xr _ x1l aggN_3 (by decide) l sz i off
theorem xv1 (l sz i off : Nat) : xo Tryd.prog 32 6 (.loc l sz i off) = some (.loc l sz i (off + 6)) := xr _ x4l aggN_3 (by decide) l sz i off
theorem xb1 (l sz i off : Nat) : xo Tryd.prog 32 7 (.loc l sz i off) = some (.loc l sz i (off + 7)) := xr _ xsm aggN_4 (by decide) l sz i off
theorem lay_32 : layOf Tryd.prog 32 = some ([.val (.int .i64 0), .val (.slice none 0 0), .val (.slice none 0 0), .val (.slice none 0 0), .val (.int .i64 0), .val (.int .i64 0), .val (.int .i64 0), .val (.bool false)], .str [(0, 1), (1, 1), (2, 1), (3, 1), (4, 1), (5, 1), (6, 1), (7, 1)]) := by kernel_rfl
theorem bd_32 (parts : List (Nat × AV)) : xnc Tryd.prog 32 parts = (fillA (fun i => [(0, 1), (1, 1), (2, 1), (3, 1), (4, 1), (5, 1), (6, 1), (7, 1)][i]?) [.val (.int .i64 0), .val (.slice none 0 0), .val (.slice none 0 0), .val (.slice none 0 0), .val (.int .i64 0), .val (.int .i64 0), .val (.int .i64 0), .val (.bool false)] parts).map .agg := by simp only [xnc, lay_32]; rfl
theorem ld_36 (y : AV) (off : Nat) : evalLd Tryd.prog 36 y off = ldAgg y off 4 := ld_agg _ xah y off
theorem st_36 (V : Nat → Option AO) (l sz i off : Nat) (v : AV) : xqc Tryd.prog 36 V (.loc l sz i off) v = if xn v 4 = true then (rowT (V l) sz i).bind fun p => (stAV p.2.2 off v).map fun x' => [(l, some (.row p.1 sz (p.2.1.set i x')))] else none := xef _ xah V l sz i off v
theorem bx_36 (x : Operand) (V : Nat → Option AO) (new : Nat) (ρ : Operand → AV) : evalOp Tryd.prog (.box 36 x) V new ρ = if xn (ρ x) 4 = true then some (.loc new 4 0 0, [(new, some (.row 36 4 [ρ x]))]) else none := by rw [E_box, xah, x0i]
theorem al_36 (V : Nat → Option AO) (new : Nat) (ρ : Operand → AV) : evalOp Tryd.prog (.alloc 36) V new ρ = some (.loc new 4 0 0, [(new, some (.row 36 4 [.agg [.val (.int .i64 0), .val (.int .i64 0), .val (.int .i64 0), .val (.bool false)]]))]) := by rw [xbn, xah, xpp, xph]; rfl
theorem xc1 (l sz i off : Nat) : xo Tryd.prog 36 0 (.loc l sz i off) = some (.loc l sz i (off + 0)) := xr _ xsg aggN_3 (by decide) l sz i off
theorem xc2 (l sz i off : Nat) : xo Tryd.prog 36 1 (.loc l sz i off) = some (.loc l sz i (off + 1)) := xr _ xjm aggN_3 (by decide) l sz i off
theorem xr1 (l sz i off : Nat) : xo Tryd.prog 36 2 (.loc l sz i off) = some (.loc l sz i (off + 2)) := xr _ xbm aggN_3 (by decide) l sz i off
theorem x21 (l sz i off : Nat) : xo Tryd.prog 36 3 (.loc l sz i off) = some (.loc l sz i (off + 3)) := xr _ xvm aggN_4 (by decide) l sz i off
theorem lay_36 : layOf Tryd.prog 36 = some ([.val (.int .i64 0), .val (.int .i64 0), .val (.int .i64 0), .val (.bool false)], .str [(0, 1), (1, 1), (2, 1), (3, 1)]) := by kernel_rfl
theorem bd_36 (parts : List (Nat × AV)) : xnc Tryd.prog 36 parts = (fillA (fun i => [(0, 1), (1, 1), (2, 1), (3, 1)][i]?) [.val (.int .i64 0), .val (.int .i64 0), .val (.int .i64 0), .val (.bool false)] parts).map .agg := by simp only [xnc, lay_36]; rfl
theorem ld_37 (y : AV) (off : Nat) : evalLd Tryd.prog 37 y off = ldOne y off := ld_one _ xqp y off
theorem st_37 (V : Nat → Option AO) (l sz i off : Nat) (v : AV) : xqc Tryd.prog 37 V (.loc l sz i off) v = if xn v 1 = true then (rowT (V l) sz i).bind fun p => (stAV p.2.2 off v).map fun x' => [(l, some (.row p.1 sz (p.2.1.set i x')))] else none := xef _ xqp V l sz i off v
theorem iS_37 (xs : List AV) (k : IntKind) (n : Int) : xjb Tryd.prog 37 (.sl 4 xs) (.val (.int k n)) = if 0 ≤ n then (xs[n.toNat]?).map fun z => .ptr z 0 else none := xti _ xfi xah xs k n
theorem ap_37 (V : Nat → Option AO) (s x : AV) (new : Nat) : xtf Tryd.prog 37 V s x new = appK 32 36 4 new (oldsOf V s 36 4) (newsOf V x 4) := xhx _ V xfi xah x0t xpp rfl s x new
theorem bS_37 (len : Nat) (parts : Array (Nat × Operand)) (V : Nat → Option AO) (new : Nat) (ρ : Operand → AV) : evalOp Tryd.prog (.buildSlice 37 len parts) V new ρ = if len * 4 ≤ 16777216 then (setsA 4 (List.replicate len (.agg [.val (.int .i64 0), .val (.int .i64 0), .val (.int .i64 0), .val (.bool false)])) (parts.toList.map fun p => (p.1, ρ p.2))).map fun xs => (.msl new len, [(new, some (.row 36 4 xs))]) else none := by rw [xff _ _ _ _ 37 len parts 36 xfi, xah, xpp, xle]; simp [xn, AV.one, Value.oneCell']
theorem lS_37 (sz : Nat) (xs : List AV) : xdd Tryd.prog 37 (.sl sz xs) = some (int xs.length) := len_sl _ xfi sz xs
theorem ld_39 (y : AV) (off : Nat) : evalLd Tryd.prog 39 y off = ldAgg y off 3 := ld_agg _ xcn y off
theorem st_39 (V : Nat → Option AO) (l sz i off : Nat) (v : AV) : xqc Tryd.prog 39 V (.loc l sz i off) v = if xn v 3 = true then (rowT (V l) sz i).bind fun p => (stAV p.2.2 off v).map fun x' => [(l, some (.row p.1 sz (p.2.1.set i x')))] else none := xef _ xcn V l sz i off v
theorem bx_39 (x : Operand) (V : Nat → Option AO) (new : Nat) (ρ : Operand → AV) : evalOp Tryd.prog (.box 39 x) V new ρ = if xn (ρ x) 3 = true then some (.loc new 3 0 0, [(new, some (.row 39 3 [ρ x]))]) else none := by rw [E_box, xcn, x0i]
theorem al_39 (V : Nat → Option AO) (new : Nat) (ρ : Operand → AV) : evalOp Tryd.prog (.alloc 39) V new ρ = some (.loc new 3 0 0, [(new, some (.row 39 3 [.agg [.val (.int .i64 0), .val (.slice none 0 0), .val (.bool false)]]))]) := by rw [xbn, xcn, xe2, xph]; rfl
theorem xt0 (l sz i off : Nat) : xo Tryd.prog 39 0 (.loc l sz i off) = some (.loc l sz i (off + 0)) := xr _ xhf aggN_3 (by decide) l sz i off
theorem xv0 (l sz i off : Nat) : xo Tryd.prog 39 1 (.loc l sz i off) = some (.loc l sz i (off + 1)) := xr _ xzl xqp (by decide) l sz i off
theorem xk1 (l sz i off : Nat) : xo Tryd.prog 39 2 (.loc l sz i off) = some (.loc l sz i (off + 2)) := xr _ x7l aggN_4 (by decide) l sz i off
theorem lay_39 : layOf Tryd.prog 39 = some ([.val (.int .i64 0), .val (.slice none 0 0), .val (.bool false)], .str [(0, 1), (1, 1), (2, 1)]) := by kernel_rfl
theorem bd_39 (parts : List (Nat × AV)) : xnc Tryd.prog 39 parts = (fillA (fun i => [(0, 1), (1, 1), (2, 1)][i]?) [.val (.int .i64 0), .val (.slice none 0 0), .val (.bool false)] parts).map .agg := by simp only [xnc, lay_39]; rfl
theorem iS_53 (xs : List AV) (k : IntKind) (n : Int) : xjb Tryd.prog 53 (.sl 1 xs) (.val (.int k n)) = if 0 ≤ n then (xs[n.toNat]?).map fun z => .ptr z 0 else none := xti _ xtk aggN_9 xs k n
theorem bS_53 (len : Nat) (parts : Array (Nat × Operand)) (V : Nat → Option AO) (new : Nat) (ρ : Operand → AV) : evalOp Tryd.prog (.buildSlice 53 len parts) V new ρ = if len * 1 ≤ 16777216 then (setsA 1 (List.replicate len (.val (.string ⟨#[]⟩))) (parts.toList.map fun p => (p.1, ρ p.2))).map fun xs => (.msl new len, [(new, some (.row 9 1 xs))]) else none := by rw [xff _ _ _ _ 53 len parts 9 xtk, aggN_9, zero_9, xle]; simp [xn, AV.one, Value.oneCell']
theorem lS_53 (sz : Nat) (xs : List AV) : xdd Tryd.prog 53 (.sl sz xs) = some (int xs.length) := len_sl _ xtk sz xs
theorem ld_55 (y : AV) (off : Nat) : evalLd Tryd.prog 55 y off = ldOne y off := ld_one _ xiu y off
theorem st_56 (V : Nat → Option AO) (l sz i off : Nat) (v : AV) : xqc Tryd.prog 56 V (.loc l sz i off) v = if xn v 3 = true then (rowT (V l) sz i).bind fun p => (stAV p.2.2 off v).map fun x' => [(l, some (.row p.1 sz (p.2.1.set i x')))] else none := xef _ xfu V l sz i off v
theorem al_56 (V : Nat → Option AO) (new : Nat) (ρ : Operand → AV) : evalOp Tryd.prog (.alloc 56) V new ρ = some (.loc new 3 0 0, [(new, some (.row 56 3 [.agg [.val (.pointer none), .val (.pointer none), .val (.pointer none)]]))]) := by rw [xbn, xfu, xn2, xph]; rfl
theorem lay_56 : layOf Tryd.prog 56 = some ([.val (.pointer none), .val (.pointer none), .val (.pointer none)], .arr 1) := by kernel_rfl
theorem bd_56 (parts : List (Nat × AV)) : xnc Tryd.prog 56 parts = (fillA (fun i => some (i * 1, 1)) [.val (.pointer none), .val (.pointer none), .val (.pointer none)] parts).map .agg := by simp only [xnc, lay_56]; rfl
theorem iL_56 (l sz i off : Nat) (k : IntKind) (n : Int) : xjb Tryd.prog 56 (.loc l sz i off) (.val (.int k n)) = if 0 ≤ n ∧ n < (3 : Nat) then some (.loc l sz i (off + n.toNat * 1)) else none := xzp _ xxv xpw xiu l sz i off k n
theorem bS_68 (len : Nat) (parts : Array (Nat × Operand)) (V : Nat → Option AO) (new : Nat) (ρ : Operand → AV) : evalOp Tryd.prog (.buildSlice 68 len parts) V new ρ = if len * 1 ≤ 16777216 then (setsA 1 (List.replicate len (.val (.int .u8 0))) (parts.toList.map fun p => (p.1, ρ p.2))).map fun xs => (.msl new len, [(new, some (.row 5 1 xs))]) else none := by rw [xff _ _ _ _ 68 len parts 5 x2v, aggN_5, zero_5, xle]; simp [xn, AV.one, Value.oneCell']
theorem iM_92 (l len : Nat) (k : IntKind) (n : Int) : xjb Tryd.prog 92 (.msl l len) (.val (.int k n)) = if 0 ≤ n ∧ n < len then some (.loc l 1 n.toNat 0) else none := xgr _ xrk aggN_4 l len k n
theorem bS_92 (len : Nat) (parts : Array (Nat × Operand)) (V : Nat → Option AO) (new : Nat) (ρ : Operand → AV) : evalOp Tryd.prog (.buildSlice 92 len parts) V new ρ = if len * 1 ≤ 16777216 then (setsA 1 (List.replicate len (.val (.bool false))) (parts.toList.map fun p => (p.1, ρ p.2))).map fun xs => (.msl new len, [(new, some (.row 4 1 xs))]) else none := by rw [xff _ _ _ _ 92 len parts 4 xrk, aggN_4, zero_4, xle]; simp [xn, AV.one, Value.oneCell']
theorem lM_92 (l n : Nat) : xdd Tryd.prog 92 (.msl l n) = some (int n) := xi2 _ xrk l n
end Go.Proofs.YtjmnoaoeediodaaDoor.AL

