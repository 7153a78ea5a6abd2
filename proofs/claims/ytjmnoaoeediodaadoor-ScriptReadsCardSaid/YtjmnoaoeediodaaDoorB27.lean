/- A law of the given program is proved: part 27 of 45. -/
import Derived.Test.YtjmnoaoeediodaaDoorB26
set_option linter.all false
/- AL: the evaluator's rules with the facts of this seat's types, printed by rules.py. -/
set_option linter.unusedSimpArgs false
set_option linter.unusedVariables false
namespace Go.Proofs.YtjmnoaoeediodaaDoor.AL
open Go Go.Proofs
set_option maxRecDepth 100000
theorem mixed : Tryd.prog.follows .mixedOrders = true := by kernel_rfl
theorem zero_4 : zeroOf Tryd.prog 4 = some (.val (.bool false)) := by kernel_rfl
theorem zero_5 : zeroOf Tryd.prog 5 = some (.val (.int .u8 0)) := by kernel_rfl
theorem zero_9 : zeroOf Tryd.prog 9 = some (.val (.string ⟨#[]⟩)) := by kernel_rfl
theorem xiy : zeroOf Tryd.prog 23 = some (.agg [.val (.int .i64 0), .val (.int .i64 0), .val (.int .i64 0), .val (.int .i64 0)]) := by kernel_rfl
theorem x3n : zeroOf Tryd.prog 36 = some (.agg [.val (.int .i64 0), .val (.int .i64 0), .val (.int .i64 0), .val (.bool false)]) := by kernel_rfl
theorem xky : zeroOf Tryd.prog 39 = some (.agg [.val (.int .i64 0), .val (.slice none 0 0), .val (.bool false)]) := by kernel_rfl
theorem x4x : zeroOf Tryd.prog 56 = some (.agg [.val (.pointer none), .val (.pointer none), .val (.pointer none)]) := by kernel_rfl
theorem ld_1 (y : AV) (off : Nat) : evalLd Tryd.prog 1 y off = ldOne y off := ld_one _ aggN_1 y off
theorem ld_2 (y : AV) (off : Nat) : evalLd Tryd.prog 2 y off = ldOne y off := ld_one _ aggN_2 y off
theorem ld_3 (y : AV) (off : Nat) : evalLd Tryd.prog 3 y off = ldOne y off := ld_one _ aggN_3 y off
theorem st_3 (V : Nat → Option AO) (l sz i off : Nat) (v : AV) : x3b Tryd.prog 3 V (.loc l sz i off) v = if xm v 1 = true then (rowT (V l) sz i).bind fun p => (stAV p.2.2 off v).map fun x' => [(l, some (.row p.1 sz (p.2.1.set i x')))] else none := xje _ aggN_3 V l sz i off v
theorem ld_4 (y : AV) (off : Nat) : evalLd Tryd.prog 4 y off = ldOne y off := ld_one _ aggN_4 y off
theorem st_4 (V : Nat → Option AO) (l sz i off : Nat) (v : AV) : x3b Tryd.prog 4 V (.loc l sz i off) v = if xm v 1 = true then (rowT (V l) sz i).bind fun p => (stAV p.2.2 off v).map fun x' => [(l, some (.row p.1 sz (p.2.1.set i x')))] else none := xje _ aggN_4 V l sz i off v
theorem bq_4 (a b : Bool) : binK Tryd.prog .eql 4 (bool a) (bool b) = brR (a == b) := xjw x0p a b
theorem bn_4 (a b : Bool) : binK Tryd.prog .neq 4 (bool a) (bool b) = brR (!(a == b)) := xkx x0p a b
theorem ld_9 (y : AV) (off : Nat) : evalLd Tryd.prog 9 y off = ldOne y off := ld_one _ aggN_9 y off
theorem lB_9 (s : ByteArray) : xuc Tryd.prog 9 (.val (.string s)) = some (int s.size) := x3y _ x4p s
theorem iB_9 (s : ByteArray) (k : IntKind) (n : Int) : xie Tryd.prog 9 (.val (.string s)) (.val (.int k n)) = if 0 ≤ n then (s[n.toNat]?).map fun b => u8 b else none := xut _ x4p s k n
theorem ld_23 (y : AV) (off : Nat) : evalLd Tryd.prog 23 y off = ldAgg y off 4 := ld_agg _ xal y off
theorem st_23 (V : Nat → Option AO) (l sz i off : Nat) (v : AV) : x3b Tryd.prog 23 V (.loc l sz i off) v = if xm v 4 = true then (rowT (V l) sz i).bind fun p => (stAV p.2.2 off v).map fun x' => [(l, some (.row p.1 sz (p.2.1.set i x')))] else none := xje _ xal V l sz i off v
theorem bx_23 (x : Operand) (V : Nat → Option AO) (new : Nat) (ρ : Operand → AV) : evalOp Tryd.prog (.box 23 x) V new ρ = if xm (ρ x) 4 = true then some (.loc new 4 0 0, [(new, some (.row 23 4 [ρ x]))]) else none := by rw [E_box, xal, x7j]
theorem al_23 (V : Nat → Option AO) (new : Nat) (ρ : Operand → AV) : evalOp Tryd.prog (.alloc 23) V new ρ = some (.loc new 4 0 0, [(new, some (.row 23 4 [.agg [.val (.int .i64 0), .val (.int .i64 0), .val (.int .i64 0), .val (.int .i64 0)]]))]) := by rw [x7k, xal, xiy, xhg]; rfl
theorem x4y (l sz i off : Nat) : xr Tryd.prog 23 0 (.loc l sz i off) = some (.loc l sz i (off + 0)) := xlb _ x7p aggN_3 (by decide) l sz i off
theorem xuy (l sz i off : Nat) : xr Tryd.prog 23 1 (.loc l sz i off) = some (.loc l sz i (off + 1)) := xlb _ xxp aggN_3 (by decide) l sz i off
theorem x7y (l sz i off : Nat) : xr Tryd.prog 23 2 (.loc l sz i off) = some (.loc l sz i (off + 2)) := xlb _ xup aggN_3 (by decide) l sz i off
theorem xyy (l sz i off : Nat) : xr Tryd.prog 23 3 (.loc l sz i off) = some (.loc l sz i (off + 3)) := xlb _ xfq aggN_3 (by decide) l sz i off
theorem lay_23 : layOf Tryd.prog 23 = some ([.val (.int .i64 0), .val (.int .i64 0), .val (.int .i64 0), .val (.int .i64 0)], .str [(0, 1), (1, 1), (2, 1), (3, 1)]) := by kernel_rfl
theorem bd_23 (parts : List (Nat × AV)) : xic Tryd.prog 23 parts = (fillA (fun i => [(0, 1), (1, 1), (2, 1), (3, 1)][i]?) [.val (.int .i64 0), .val (.int .i64 0), .val (.int .i64 0), .val (.int .i64 0)] parts).map .agg := by simp only [xic, lay_23]; rfl
theorem ld_36 (y : AV) (off : Nat) : evalLd Tryd.prog 36 y off = ldAgg y off 4 := ld_agg _ x5f y off
theorem st_36 (V : Nat → Option AO) (l sz i off : Nat) (v : AV) : x3b Tryd.prog 36 V (.loc l sz i off) v = if xm v 4 = true then (rowT (V l) sz i).bind fun p => (stAV p.2.2 off v).map fun x' => [(l, some (.row p.1 sz (p.2.1.set i x')))] else none := xje _ x5f V l sz i off v
theorem bx_36 (x : Operand) (V : Nat → Option AO) (new : Nat) (ρ : Operand → AV) : evalOp Tryd.prog (.box 36 x) V new ρ = if xm (ρ x) 4 = true then some (.loc new 4 0 0, [(new, some (.row 36 4 [ρ x]))]) else none := by rw [E_box, x5f, x7j]
theorem al_36 (V : Nat → Option AO) (new : Nat) (ρ : Operand → AV) : evalOp Tryd.prog (.alloc 36) V new ρ = some (.loc new 4 0 0, [(new, some (.row 36 4 [.agg [.val (.int .i64 0), .val (.int .i64 0), .val (.int .i64 0), .val (.bool false)]]))]) := by rw [x7k, x5f, x3n, xhg]; rfl
theorem x5y (l sz i off : Nat) : xr Tryd.prog 36 0 (.loc l sz i off) = some (.loc l sz i (off + 0)) := xlb _ xlf aggN_3 (by decide) l sz i off
theorem x0y (l sz i off : Nat) : xr Tryd.prog 36 1 (.loc l sz i off) = some (.loc l sz i (off + 1)) := xlb _ xhk aggN_3 (by decide) l sz i off
theorem xez (l sz i off : Nat) : xr Tryd.prog 36 2 (.loc l sz i off) = some (.loc l sz i (off + 2)) := xlb _ xzk aggN_3 (by decide) l sz i off
theorem xny (l sz i off : Nat) : xr Tryd.prog 36 3 (.loc l sz i off) = some (.loc l sz i (off + 3)) := xlb _ xsk aggN_4 (by decide) l sz i off
theorem lay_36 : layOf Tryd.prog 36 = some ([.val (.int .i64 0), .val (.int .i64 0), .val (.int .i64 0), .val (.bool false)], .str [(0, 1), (1, 1), (2, 1), (3, 1)]) := by kernel_rfl
theorem bd_36 (parts : List (Nat × AV)) : xic Tryd.prog 36 parts = (fillA (fun i => [(0, 1), (1, 1), (2, 1), (3, 1)][i]?) [.val (.int .i64 0), .val (.int .i64 0), .val (.int .i64 0), .val (.bool false)] parts).map .agg := by simp only [xic, lay_36]; rfl
theorem ld_37 (y : AV) (off : Nat) : evalLd Tryd.prog 37 y off = ldOne y off := ld_one _ xqn y off
theorem st_37 (V : Nat → Option AO) (l sz i off : Nat) (v : AV) : x3b Tryd.prog 37 V (.loc l sz i off) v = if xm v 1 = true then (rowT (V l) sz i).bind fun p => (stAV p.2.2 off v).map fun x' => [(l, some (.row p.1 sz (p.2.1.set i x')))] else none := xje _ xqn V l sz i off v
theorem iS_37 (xs : List AV) (k : IntKind) (n : Int) : x4 Tryd.prog 37 (.sl 4 xs) (.val (.int k n)) = if 0 ≤ n then (xs[n.toNat]?).map fun z => .ptr z 0 else none := x4k _ xyg x5f xs k n
theorem ap_37 (V : Nat → Option AO) (s x : AV) (new : Nat) : xne Tryd.prog 37 V s x new = appK 32 36 4 new (oldsOf V s 36 4) (newsOf V x 4) := xqu _ V xyg x5f xar x3n rfl s x new
theorem bS_37 (len : Nat) (parts : Array (Nat × Operand)) (V : Nat → Option AO) (new : Nat) (ρ : Operand → AV) : evalOp Tryd.prog (.buildSlice 37 len parts) V new ρ = if len * 4 ≤ 16777216 then (setsA 4 (List.replicate len (.agg [.val (.int .i64 0), .val (.int .i64 0), .val (.int .i64 0), .val (.bool false)])) (parts.toList.map fun p => (p.1, ρ p.2))).map fun xs => (.msl new len, [(new, some (.row 36 4 xs))]) else none := by rw [xof _ _ _ _ 37 len parts 36 xyg, x5f, x3n, x9d]; simp [xm, AV.one, Value.oneCell']
theorem lS_37 (sz : Nat) (xs : List AV) : xuc Tryd.prog 37 (.sl sz xs) = some (int xs.length) := len_sl _ xyg sz xs
theorem ld_39 (y : AV) (off : Nat) : evalLd Tryd.prog 39 y off = ldAgg y off 3 := ld_agg _ x5k y off
theorem st_39 (V : Nat → Option AO) (l sz i off : Nat) (v : AV) : x3b Tryd.prog 39 V (.loc l sz i off) v = if xm v 3 = true then (rowT (V l) sz i).bind fun p => (stAV p.2.2 off v).map fun x' => [(l, some (.row p.1 sz (p.2.1.set i x')))] else none := xje _ x5k V l sz i off v
theorem bx_39 (x : Operand) (V : Nat → Option AO) (new : Nat) (ρ : Operand → AV) : evalOp Tryd.prog (.box 39 x) V new ρ = if xm (ρ x) 3 = true then some (.loc new 3 0 0, [(new, some (.row 39 3 [ρ x]))]) else none := by rw [E_box, x5k, x7j]
theorem al_39 (V : Nat → Option AO) (new : Nat) (ρ : Operand → AV) : evalOp Tryd.prog (.alloc 39) V new ρ = some (.loc new 3 0 0, [(new, some (.row 39 3 [.agg [.val (.int .i64 0), .val (.slice none 0 0), .val (.bool false)]]))]) := by rw [x7k, x5k, xky, xhg]; rfl
theorem x9x (l sz i off : Nat) : xr Tryd.prog 39 0 (.loc l sz i off) = some (.loc l sz i (off + 0)) := xlb _ xhe aggN_3 (by decide) l sz i off
theorem xdy (l sz i off : Nat) : xr Tryd.prog 39 1 (.loc l sz i off) = some (.loc l sz i (off + 1)) := xlb _ x1k xqn (by decide) l sz i off
theorem xwy (l sz i off : Nat) : xr Tryd.prog 39 2 (.loc l sz i off) = some (.loc l sz i (off + 2)) := xlb _ xmk aggN_4 (by decide) l sz i off
theorem lay_39 : layOf Tryd.prog 39 = some ([.val (.int .i64 0), .val (.slice none 0 0), .val (.bool false)], .str [(0, 1), (1, 1), (2, 1)]) := by kernel_rfl
theorem bd_39 (parts : List (Nat × AV)) : xic Tryd.prog 39 parts = (fillA (fun i => [(0, 1), (1, 1), (2, 1)][i]?) [.val (.int .i64 0), .val (.slice none 0 0), .val (.bool false)] parts).map .agg := by simp only [xic, lay_39]; rfl
theorem iS_53 (xs : List AV) (k : IntKind) (n : Int) : x4 Tryd.prog 53 (.sl 1 xs) (.val (.int k n)) = if 0 ≤ n then (xs[n.toNat]?).map fun z => .ptr z 0 else none := x4k _ xwi aggN_9 xs k n
theorem bS_53 (len : Nat) (parts : Array (Nat × Operand)) (V : Nat → Option AO) (new : Nat) (ρ : Operand → AV) : evalOp Tryd.prog (.buildSlice 53 len parts) V new ρ = if len * 1 ≤ 16777216 then (setsA 1 (List.replicate len (.val (.string ⟨#[]⟩))) (parts.toList.map fun p => (p.1, ρ p.2))).map fun xs => (.msl new len, [(new, some (.row 9 1 xs))]) else none := by rw [xof _ _ _ _ 53 len parts 9 xwi, aggN_9, zero_9, x9d]; simp [xm, AV.one, Value.oneCell']
theorem lS_53 (sz : Nat) (xs : List AV) : xuc Tryd.prog 53 (.sl sz xs) = some (int xs.length) := len_sl _ xwi sz xs
theorem ld_55 (y : AV) (off : Nat) : evalLd Tryd.prog 55 y off = ldOne y off := ld_one _ x2r y off
theorem st_56 (V : Nat → Option AO) (l sz i off : Nat) (v : AV) : x3b Tryd.prog 56 V (.loc l sz i off) v = if xm v 3 = true then (rowT (V l) sz i).bind fun p => (stAV p.2.2 off v).map fun x' => [(l, some (.row p.1 sz (p.2.1.set i x')))] else none := xje _ x8r V l sz i off v
theorem al_56 (V : Nat → Option AO) (new : Nat) (ρ : Operand → AV) : evalOp Tryd.prog (.alloc 56) V new ρ = some (.loc new 3 0 0, [(new, some (.row 56 3 [.agg [.val (.pointer none), .val (.pointer none), .val (.pointer none)]]))]) := by rw [x7k, x8r, x4x, xhg]; rfl
theorem lay_56 : layOf Tryd.prog 56 = some ([.val (.pointer none), .val (.pointer none), .val (.pointer none)], .arr 1) := by kernel_rfl
theorem bd_56 (parts : List (Nat × AV)) : xic Tryd.prog 56 parts = (fillA (fun i => some (i * 1, 1)) [.val (.pointer none), .val (.pointer none), .val (.pointer none)] parts).map .agg := by simp only [xic, lay_56]; rfl
theorem iL_56 (l sz i off : Nat) (k : IntKind) (n : Int) : x4 Tryd.prog 56 (.loc l sz i off) (.val (.int k n)) = if 0 ≤ n ∧ n < (3 : Nat) then some (.loc l sz i (off + n.toNat * 1)) else none := xun _ x4s xcu x2r l sz i off k n
theorem bS_68 (len : Nat) (parts : Array (Nat × Operand)) (V : Nat → Option AO) (new : Nat) (ρ : Operand → AV) : evalOp Tryd.prog (.buildSlice 68 len parts) V new ρ = if len * 1 ≤ 16777216 then (setsA 1 (List.replicate len (.val (.int .u8 0))) (parts.toList.map fun p => (p.1, ρ p.2))).map fun xs => (.msl new len, [(new, some (.row 5 1 xs))]) else none := by rw [xof _ _ _ _ 68 len parts 5 xhs, aggN_5, zero_5, x9d]; simp [xm, AV.one, Value.oneCell']
theorem iM_92 (l len : Nat) (k : IntKind) (n : Int) : x4 Tryd.prog 92 (.msl l len) (.val (.int k n)) = if 0 ≤ n ∧ n < len then some (.loc l 1 n.toNat 0) else none := x9o _ xzi aggN_4 l len k n
theorem bS_92 (len : Nat) (parts : Array (Nat × Operand)) (V : Nat → Option AO) (new : Nat) (ρ : Operand → AV) : evalOp Tryd.prog (.buildSlice 92 len parts) V new ρ = if len * 1 ≤ 16777216 then (setsA 1 (List.replicate len (.val (.bool false))) (parts.toList.map fun p => (p.1, ρ p.2))).map fun xs => (.msl new len, [(new, some (.row 4 1 xs))]) else none := by rw [xof _ _ _ _ 92 len parts 4 xzi, aggN_4, zero_4, x9d]; simp [xm, AV.one, Value.oneCell']
theorem lM_92 (l n : Nat) : xuc Tryd.prog 92 (.msl l n) = some (int n) := xpz _ xzi l n
end Go.Proofs.YtjmnoaoeediodaaDoor.AL

