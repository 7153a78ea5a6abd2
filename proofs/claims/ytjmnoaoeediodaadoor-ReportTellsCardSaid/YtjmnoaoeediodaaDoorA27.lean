/- A law of the given program is proved: part 27 of 40. -/
import Derived.Test.YtjmnoaoeediodaaDoorA26
set_option linter.all false
/- AL: the evaluator's rules with the facts of this seat's types, printed by rules.py. -/
set_option linter.unusedSimpArgs false
set_option linter.unusedVariables false
namespace Go.Proofs.YtjmnoaoeediodaaDoor.AL
open Go Go.Proofs
set_option maxRecDepth 100000
theorem mixed : Tryd.prog.follows .mixedOrders = true := by kernel_rfl
theorem zero_5 : zeroOf Tryd.prog 5 = some (.val (.int .u8 0)) := by kernel_rfl
theorem zero_9 : zeroOf Tryd.prog 9 = some (.val (.string ⟨#[]⟩)) := by kernel_rfl
theorem xio : zeroOf Tryd.prog 23 = some (.agg [.val (.int .i64 0), .val (.int .i64 0), .val (.int .i64 0), .val (.int .i64 0)]) := by kernel_rfl
theorem xlu : zeroOf Tryd.prog 56 = some (.agg [.val (.pointer none), .val (.pointer none), .val (.pointer none)]) := by kernel_rfl
theorem ld_1 (y : AV) (off : Nat) : evalLd Tryd.prog 1 y off = ldOne y off := ld_one _ aggN_1 y off
theorem ld_2 (y : AV) (off : Nat) : evalLd Tryd.prog 2 y off = ldOne y off := ld_one _ aggN_2 y off
theorem ld_3 (y : AV) (off : Nat) : evalLd Tryd.prog 3 y off = ldOne y off := ld_one _ aggN_3 y off
theorem st_3 (V : Nat → Option AO) (l sz i off : Nat) (v : AV) : xkc Tryd.prog 3 V (.loc l sz i off) v = if xh v 1 = true then (rowT (V l) sz i).bind fun p => (stAV p.2.2 off v).map fun x' => [(l, some (.row p.1 sz (p.2.1.set i x')))] else none := xai _ aggN_3 V l sz i off v
theorem ld_4 (y : AV) (off : Nat) : evalLd Tryd.prog 4 y off = ldOne y off := ld_one _ aggN_4 y off
theorem bq_4 (a b : Bool) : binK Tryd.prog .eql 4 (bool a) (bool b) = brR (a == b) := xir xgm a b
theorem bn_4 (a b : Bool) : binK Tryd.prog .neq 4 (bool a) (bool b) = brR (!(a == b)) := xys xgm a b
theorem ld_9 (y : AV) (off : Nat) : evalLd Tryd.prog 9 y off = ldOne y off := ld_one _ aggN_9 y off
theorem lB_9 (s : ByteArray) : x7c Tryd.prog 9 (.val (.string s)) = some (int s.size) := xgu _ xam s
theorem iB_9 (s : ByteArray) (k : IntKind) (n : Int) : xpd Tryd.prog 9 (.val (.string s)) (.val (.int k n)) = if 0 ≤ n then (s[n.toNat]?).map fun b => u8 b else none := x6q _ xam s k n
theorem ld_23 (y : AV) (off : Nat) : evalLd Tryd.prog 23 y off = ldAgg y off 4 := ld_agg _ xjf y off
theorem st_23 (V : Nat → Option AO) (l sz i off : Nat) (v : AV) : xkc Tryd.prog 23 V (.loc l sz i off) v = if xh v 4 = true then (rowT (V l) sz i).bind fun p => (stAV p.2.2 off v).map fun x' => [(l, some (.row p.1 sz (p.2.1.set i x')))] else none := xai _ xjf V l sz i off v
theorem bx_23 (x : Operand) (V : Nat → Option AO) (new : Nat) (ρ : Operand → AV) : evalOp Tryd.prog (.box 23 x) V new ρ = if xh (ρ x) 4 = true then some (.loc new 4 0 0, [(new, some (.row 23 4 [ρ x]))]) else none := by rw [E_box, xjf, x9k]
theorem al_23 (V : Nat → Option AO) (new : Nat) (ρ : Operand → AV) : evalOp Tryd.prog (.alloc 23) V new ρ = some (.loc new 4 0 0, [(new, some (.row 23 4 [.agg [.val (.int .i64 0), .val (.int .i64 0), .val (.int .i64 0), .val (.int .i64 0)]]))]) := by rw [x9n, xjf, xio, xhj]; rfl
theorem xot (l sz i off : Nat) : xi Tryd.prog 23 0 (.loc l sz i off) = some (.loc l sz i (off + 0)) := x9 _ xse aggN_3 (by decide) l sz i off
theorem xcu (l sz i off : Nat) : xi Tryd.prog 23 1 (.loc l sz i off) = some (.loc l sz i (off + 1)) := x9 _ xki aggN_3 (by decide) l sz i off
theorem xmu (l sz i off : Nat) : xi Tryd.prog 23 2 (.loc l sz i off) = some (.loc l sz i (off + 2)) := x9 _ xbi aggN_3 (by decide) l sz i off
theorem xjt (l sz i off : Nat) : xi Tryd.prog 23 3 (.loc l sz i off) = some (.loc l sz i (off + 3)) := x9 _ x6h aggN_3 (by decide) l sz i off
theorem lay_23 : layOf Tryd.prog 23 = some ([.val (.int .i64 0), .val (.int .i64 0), .val (.int .i64 0), .val (.int .i64 0)], .str [(0, 1), (1, 1), (2, 1), (3, 1)]) := by kernel_rfl
theorem bd_23 (parts : List (Nat × AV)) : xmc Tryd.prog 23 parts = (fillA (fun i => [(0, 1), (1, 1), (2, 1), (3, 1)][i]?) [.val (.int .i64 0), .val (.int .i64 0), .val (.int .i64 0), .val (.int .i64 0)] parts).map .agg := by simp only [xmc, lay_23]; rfl
theorem ld_30 (y : AV) (off : Nat) : evalLd Tryd.prog 30 y off = ldOne y off := ld_one _ xui y off
theorem iS_30 (xs : List AV) (k : IntKind) (n : Int) : xdb Tryd.prog 30 (.sl 4 xs) (.val (.int k n)) = if 0 ≤ n then (xs[n.toNat]?).map fun z => .ptr z 0 else none := xji _ xzg xjf xs k n
theorem bS_30 (len : Nat) (parts : Array (Nat × Operand)) (V : Nat → Option AO) (new : Nat) (ρ : Operand → AV) : evalOp Tryd.prog (.buildSlice 30 len parts) V new ρ = if len * 4 ≤ 16777216 then (setsA 4 (List.replicate len (.agg [.val (.int .i64 0), .val (.int .i64 0), .val (.int .i64 0), .val (.int .i64 0)])) (parts.toList.map fun p => (p.1, ρ p.2))).map fun xs => (.msl new len, [(new, some (.row 23 4 xs))]) else none := by rw [xsf _ _ _ _ 30 len parts 23 xzg, xjf, xio, x2d]; simp [xh, AV.one, Value.oneCell']
theorem lS_30 (sz : Nat) (xs : List AV) : x7c Tryd.prog 30 (.sl sz xs) = some (int xs.length) := len_sl _ xzg sz xs
theorem ld_32 (y : AV) (off : Nat) : evalLd Tryd.prog 32 y off = ldAgg y off 8 := ld_agg _ xho y off
theorem bx_32 (x : Operand) (V : Nat → Option AO) (new : Nat) (ρ : Operand → AV) : evalOp Tryd.prog (.box 32 x) V new ρ = if xh (ρ x) 8 = true then some (.loc new 8 0 0, [(new, some (.row 32 8 [ρ x]))]) else none := by rw [E_box, xho, x9k]
theorem x9t (l sz i off : Nat) : xi Tryd.prog 32 0 (.loc l sz i off) = some (.loc l sz i (off + 0)) := x9 _ xoe aggN_3 (by decide) l sz i off
theorem xku (l sz i off : Nat) : xi Tryd.prog 32 1 (.loc l sz i off) = some (.loc l sz i (off + 1)) := x9 _ x2h xui (by decide) l sz i off
theorem xpt (l sz i off : Nat) : xi Tryd.prog 32 2 (.loc l sz i off) = some (.loc l sz i (off + 2)) := x9 _ x7h xui (by decide) l sz i off
theorem x7t (l sz i off : Nat) : xi Tryd.prog 32 3 (.loc l sz i off) = some (.loc l sz i (off + 3)) := x9 _ xli xui (by decide) l sz i off
theorem xht (l sz i off : Nat) : xi Tryd.prog 32 4 (.loc l sz i off) = some (.loc l sz i (off + 4)) := x9 _ xii aggN_3 (by decide) l sz i off
theorem xlt (l sz i off : Nat) : xi Tryd.prog 32 5 (.loc l sz i off) = some (.loc l sz i (off + 5)) := x9 _ xrh aggN_3 (by decide) l sz i off
theorem xit (l sz i off : Nat) : xi Tryd.prog 32 6 (.loc l sz i off) = some (.loc l sz i (off + 6)) := x9 _ x8h aggN_3 (by decide) l sz i off
theorem xpu (l sz i off : Nat) : xi Tryd.prog 32 7 (.loc l sz i off) = some (.loc l sz i (off + 7)) := x9 _ xvh aggN_4 (by decide) l sz i off
theorem lay_32 : layOf Tryd.prog 32 = some ([.val (.int .i64 0), .val (.slice none 0 0), .val (.slice none 0 0), .val (.slice none 0 0), .val (.int .i64 0), .val (.int .i64 0), .val (.int .i64 0), .val (.bool false)], .str [(0, 1), (1, 1), (2, 1), (3, 1), (4, 1), (5, 1), (6, 1), (7, 1)]) := by kernel_rfl
theorem bd_32 (parts : List (Nat × AV)) : xmc Tryd.prog 32 parts = (fillA (fun i => [(0, 1), (1, 1), (2, 1), (3, 1), (4, 1), (5, 1), (6, 1), (7, 1)][i]?) [.val (.int .i64 0), .val (.slice none 0 0), .val (.slice none 0 0), .val (.slice none 0 0), .val (.int .i64 0), .val (.int .i64 0), .val (.int .i64 0), .val (.bool false)] parts).map .agg := by simp only [xmc, lay_32]; rfl
theorem iS_53 (xs : List AV) (k : IntKind) (n : Int) : xdb Tryd.prog 53 (.sl 1 xs) (.val (.int k n)) = if 0 ≤ n then (xs[n.toNat]?).map fun z => .ptr z 0 else none := xji _ xvg aggN_9 xs k n
theorem bS_53 (len : Nat) (parts : Array (Nat × Operand)) (V : Nat → Option AO) (new : Nat) (ρ : Operand → AV) : evalOp Tryd.prog (.buildSlice 53 len parts) V new ρ = if len * 1 ≤ 16777216 then (setsA 1 (List.replicate len (.val (.string ⟨#[]⟩))) (parts.toList.map fun p => (p.1, ρ p.2))).map fun xs => (.msl new len, [(new, some (.row 9 1 xs))]) else none := by rw [xsf _ _ _ _ 53 len parts 9 xvg, aggN_9, zero_9, x2d]; simp [xh, AV.one, Value.oneCell']
theorem lS_53 (sz : Nat) (xs : List AV) : x7c Tryd.prog 53 (.sl sz xs) = some (int xs.length) := len_sl _ xvg sz xs
theorem ld_55 (y : AV) (off : Nat) : evalLd Tryd.prog 55 y off = ldOne y off := ld_one _ xgo y off
theorem st_56 (V : Nat → Option AO) (l sz i off : Nat) (v : AV) : xkc Tryd.prog 56 V (.loc l sz i off) v = if xh v 3 = true then (rowT (V l) sz i).bind fun p => (stAV p.2.2 off v).map fun x' => [(l, some (.row p.1 sz (p.2.1.set i x')))] else none := xai _ xao V l sz i off v
theorem al_56 (V : Nat → Option AO) (new : Nat) (ρ : Operand → AV) : evalOp Tryd.prog (.alloc 56) V new ρ = some (.loc new 3 0 0, [(new, some (.row 56 3 [.agg [.val (.pointer none), .val (.pointer none), .val (.pointer none)]]))]) := by rw [x9n, xao, xlu, xhj]; rfl
theorem lay_56 : layOf Tryd.prog 56 = some ([.val (.pointer none), .val (.pointer none), .val (.pointer none)], .arr 1) := by kernel_rfl
theorem bd_56 (parts : List (Nat × AV)) : xmc Tryd.prog 56 parts = (fillA (fun i => some (i * 1, 1)) [.val (.pointer none), .val (.pointer none), .val (.pointer none)] parts).map .agg := by simp only [xmc, lay_56]; rfl
theorem iL_56 (l sz i off : Nat) (k : IntKind) (n : Int) : xdb Tryd.prog 56 (.loc l sz i off) (.val (.int k n)) = if 0 ≤ n ∧ n < (3 : Nat) then some (.loc l sz i (off + n.toNat * 1)) else none := xwk _ xno x4p xgo l sz i off k n
theorem bS_68 (len : Nat) (parts : Array (Nat × Operand)) (V : Nat → Option AO) (new : Nat) (ρ : Operand → AV) : evalOp Tryd.prog (.buildSlice 68 len parts) V new ρ = if len * 1 ≤ 16777216 then (setsA 1 (List.replicate len (.val (.int .u8 0))) (parts.toList.map fun p => (p.1, ρ p.2))).map fun xs => (.msl new len, [(new, some (.row 5 1 xs))]) else none := by rw [xsf _ _ _ _ 68 len parts 5 x2o, aggN_5, zero_5, x2d]; simp [xh, AV.one, Value.oneCell']
end Go.Proofs.YtjmnoaoeediodaaDoor.AL

