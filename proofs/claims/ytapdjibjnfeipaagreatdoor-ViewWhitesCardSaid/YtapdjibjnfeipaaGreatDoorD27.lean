/- A law of the given program is proved: part 27 of 51. -/
import Derived.Test.YtapdjibjnfeipaaGreatDoorD26
set_option linter.all false
/- AL: the evaluator's rules with the facts of this seat's types, printed by rules.py. -/
set_option linter.unusedSimpArgs false
set_option linter.unusedVariables false
namespace Go.Proofs.YtapdjibjnfeipaaGreatDoor.AL
open Go Go.Proofs
set_option maxRecDepth 100000
theorem mixed : Tryz.prog.follows .mixedOrders = true := by kernel_rfl
theorem zero_3 : zeroOf Tryz.prog 3 = some (.val (.int .i64 0)) := by kernel_rfl
theorem zero_9 : zeroOf Tryz.prog 9 = some (.val (.string ⟨#[]⟩)) := by kernel_rfl
theorem xu7 : zeroOf Tryz.prog 29 = some (.agg [.val (.int .i64 0), .val (.int .i64 0), .val (.int .i64 0), .val (.int .i64 0), .val (.slice none 0 0), .val (.slice none 0 0)]) := by kernel_rfl
theorem xqu : zeroOf Tryz.prog 32 = some (.agg [.val (.int .i64 0), .val (.slice none 0 0)]) := by kernel_rfl
theorem xwr : zeroOf Tryz.prog 45 = some (.agg [.val (.int .i64 0), .val (.int .i64 0)]) := by kernel_rfl
theorem xgv : zeroOf Tryz.prog 55 = some (.agg [.val (.int .i64 0), .val (.int .i64 0), .val (.string ⟨#[]⟩)]) := by kernel_rfl
theorem x0r : zeroOf Tryz.prog 68 = some (.agg [.val (.int .i64 0), .val (.int .i64 0), .val (.int .i64 0), .val (.int .i64 0), .val (.slice none 0 0), .val (.slice none 0 0), .val (.int .i64 0), .val (.int .i64 0), .val (.string ⟨#[]⟩), .val (.int .i64 0), .val (.int .i64 0), .val (.int .i64 0), .val (.int .i64 0)]) := by kernel_rfl
theorem xvu : zeroOf Tryz.prog 79 = some (.agg [.val (.int .i64 0), .val (.int .i64 0), .val (.string ⟨#[]⟩)]) := by kernel_rfl
theorem x35 : zeroOf Tryz.prog 92 = some (.agg [.val (.int .i64 0), .val (.int .i64 0), .val (.int .i64 0), .val (.int .i64 0), .val (.slice none 0 0), .val (.slice none 0 0)]) := by kernel_rfl
theorem x0y : zeroOf Tryz.prog 144 = some (.agg [.val (.int .i64 0), .val (.int .i64 0)]) := by kernel_rfl
theorem ld_1 (y : AV) (off : Nat) : evalLd Tryz.prog 1 y off = ldOne y off := ld_one _ aggN_1 y off
theorem ld_2 (y : AV) (off : Nat) : evalLd Tryz.prog 2 y off = ldOne y off := ld_one _ aggN_2 y off
theorem ld_3 (y : AV) (off : Nat) : evalLd Tryz.prog 3 y off = ldOne y off := ld_one _ aggN_3 y off
theorem st_3 (V : Nat → Option AO) (l sz i off : Nat) (v : AV) : xmb Tryz.prog 3 V (.loc l sz i off) v = if xd v 1 = true then (rowT (V l) sz i).bind fun p => (stAV p.2.2 off v).map fun x' => [(l, some (.row p.1 sz (p.2.1.set i x')))] else none := xbc _ aggN_3 V l sz i off v
theorem bx_3 (x : Operand) (V : Nat → Option AO) (new : Nat) (ρ : Operand → AV) : evalOp Tryz.prog (.box 3 x) V new ρ = if xd (ρ x) 1 = true then some (.loc new 1 0 0, [(new, some (.row 3 1 [ρ x]))]) else none := by rw [E_box, aggN_3, xyc]
theorem ld_9 (y : AV) (off : Nat) : evalLd Tryz.prog 9 y off = ldOne y off := ld_one _ aggN_9 y off
theorem st_9 (V : Nat → Option AO) (l sz i off : Nat) (v : AV) : xmb Tryz.prog 9 V (.loc l sz i off) v = if xd v 1 = true then (rowT (V l) sz i).bind fun p => (stAV p.2.2 off v).map fun x' => [(l, some (.row p.1 sz (p.2.1.set i x')))] else none := xbc _ aggN_9 V l sz i off v
theorem bx_9 (x : Operand) (V : Nat → Option AO) (new : Nat) (ρ : Operand → AV) : evalOp Tryz.prog (.box 9 x) V new ρ = if xd (ρ x) 1 = true then some (.loc new 1 0 0, [(new, some (.row 9 1 [ρ x]))]) else none := by rw [E_box, aggN_9, xyc]
theorem lB_9 (s : ByteArray) : xlb Tryz.prog 9 (.val (.string s)) = some (int s.size) := x16 _ xgy s
theorem iB_9 (s : ByteArray) (k : IntKind) (n : Int) : xkg Tryz.prog 9 (.val (.string s)) (.val (.int k n)) = if 0 ≤ n then (s[n.toNat]?).map fun b => u8 b else none := xg2 _ xgy s k n
theorem ld_24 (y : AV) (off : Nat) : evalLd Tryz.prog 24 y off = ldOne y off := ld_one _ xzr y off
theorem st_24 (V : Nat → Option AO) (l sz i off : Nat) (v : AV) : xmb Tryz.prog 24 V (.loc l sz i off) v = if xd v 1 = true then (rowT (V l) sz i).bind fun p => (stAV p.2.2 off v).map fun x' => [(l, some (.row p.1 sz (p.2.1.set i x')))] else none := xbc _ xzr V l sz i off v
theorem iS_24 (xs : List AV) (k : IntKind) (n : Int) : xx Tryz.prog 24 (.sl 13 xs) (.val (.int k n)) = if 0 ≤ n then (xs[n.toNat]?).map fun z => .ptr z 0 else none := xgc _ x2d x0e xs k n
theorem iM_24 (l len : Nat) (k : IntKind) (n : Int) : xx Tryz.prog 24 (.msl l len) (.val (.int k n)) = if 0 ≤ n ∧ n < len then some (.loc l 13 n.toNat 0) else none := xke _ x2d x0e l len k n
theorem ap_24 (V : Nat → Option AO) (s x : AV) (new : Nat) : xzb Tryz.prog 24 V s x new = appK 144 68 13 new (oldsOf V s 68 13) (newsOf V x 13) := xqe _ V x2d x0e xcs x0r rfl s x new
theorem bS_24 (len : Nat) (parts : Array (Nat × Operand)) (V : Nat → Option AO) (new : Nat) (ρ : Operand → AV) : evalOp Tryz.prog (.buildSlice 24 len parts) V new ρ = if len * 13 ≤ 16777216 then (setsA 13 (List.replicate len (.agg [.val (.int .i64 0), .val (.int .i64 0), .val (.int .i64 0), .val (.int .i64 0), .val (.slice none 0 0), .val (.slice none 0 0), .val (.int .i64 0), .val (.int .i64 0), .val (.string ⟨#[]⟩), .val (.int .i64 0), .val (.int .i64 0), .val (.int .i64 0), .val (.int .i64 0)])) (parts.toList.map fun p => (p.1, ρ p.2))).map fun xs => (.msl new len, [(new, some (.row 68 13 xs))]) else none := by rw [xwc _ _ _ _ 24 len parts 68 x2d, x0e, x0r, xic]; simp [xd, AV.one, Value.oneCell']
theorem lS_24 (sz : Nat) (xs : List AV) : xlb Tryz.prog 24 (.sl sz xs) = some (int xs.length) := len_sl _ x2d sz xs
theorem lM_24 (l n : Nat) : xlb Tryz.prog 24 (.msl l n) = some (int n) := x7l _ x2d l n
theorem ld_26 (y : AV) (off : Nat) : evalLd Tryz.prog 26 y off = ldAgg y off 1 := ld_agg _ x3h y off
theorem bx_26 (x : Operand) (V : Nat → Option AO) (new : Nat) (ρ : Operand → AV) : evalOp Tryz.prog (.box 26 x) V new ρ = if xd (ρ x) 1 = true then some (.loc new 1 0 0, [(new, some (.row 26 1 [ρ x]))]) else none := by rw [E_box, x3h, xyc]
theorem x25 (l sz i off : Nat) : xf Tryz.prog 26 0 (.loc l sz i off) = some (.loc l sz i (off + 0)) := xq _ xdj xzr (by decide) l sz i off
theorem xd6 (y : AV) (off : Nat) : xf Tryz.prog 26 0 (.ptr y off) = some (.ptr y (off + 0)) := x7b _ xdj xzr (by decide) y off
theorem ld_27 (y : AV) (off : Nat) : evalLd Tryz.prog 27 y off = ldOne y off := ld_one _ x4z y off
theorem iS_27 (xs : List AV) (k : IntKind) (n : Int) : xx Tryz.prog 27 (.sl 1 xs) (.val (.int k n)) = if 0 ≤ n then (xs[n.toNat]?).map fun z => .ptr z 0 else none := xgc _ xbp x3h xs k n
theorem lS_27 (sz : Nat) (xs : List AV) : xlb Tryz.prog 27 (.sl sz xs) = some (int xs.length) := len_sl _ xbp sz xs
theorem ld_29 (y : AV) (off : Nat) : evalLd Tryz.prog 29 y off = ldAgg y off 6 := ld_agg _ xfo y off
theorem st_29 (V : Nat → Option AO) (l sz i off : Nat) (v : AV) : xmb Tryz.prog 29 V (.loc l sz i off) v = if xd v 6 = true then (rowT (V l) sz i).bind fun p => (stAV p.2.2 off v).map fun x' => [(l, some (.row p.1 sz (p.2.1.set i x')))] else none := xbc _ xfo V l sz i off v
theorem bx_29 (x : Operand) (V : Nat → Option AO) (new : Nat) (ρ : Operand → AV) : evalOp Tryz.prog (.box 29 x) V new ρ = if xd (ρ x) 6 = true then some (.loc new 6 0 0, [(new, some (.row 29 6 [ρ x]))]) else none := by rw [E_box, xfo, xyc]
theorem al_29 (V : Nat → Option AO) (new : Nat) (ρ : Operand → AV) : evalOp Tryz.prog (.alloc 29) V new ρ = some (.loc new 6 0 0, [(new, some (.row 29 6 [.agg [.val (.int .i64 0), .val (.int .i64 0), .val (.int .i64 0), .val (.int .i64 0), .val (.slice none 0 0), .val (.slice none 0 0)]]))]) := by rw [xrg, xfo, xu7, xte]; rfl
theorem xh6 (l sz i off : Nat) : xf Tryz.prog 29 1 (.loc l sz i off) = some (.loc l sz i (off + 4)) := xq _ x4m x3h (by decide) l sz i off
theorem xv6 (y : AV) (off : Nat) : xf Tryz.prog 29 1 (.ptr y off) = some (.ptr y (off + 4)) := x7b _ x4m x3h (by decide) y off
theorem x86 (l sz i off : Nat) : xf Tryz.prog 29 2 (.loc l sz i off) = some (.loc l sz i (off + 5)) := xq _ xer x4z (by decide) l sz i off
theorem ld_30 (y : AV) (off : Nat) : evalLd Tryz.prog 30 y off = ldOne y off := ld_one _ x2r y off
theorem st_30 (V : Nat → Option AO) (l sz i off : Nat) (v : AV) : xmb Tryz.prog 30 V (.loc l sz i off) v = if xd v 1 = true then (rowT (V l) sz i).bind fun p => (stAV p.2.2 off v).map fun x' => [(l, some (.row p.1 sz (p.2.1.set i x')))] else none := xbc _ x2r V l sz i off v
theorem bx_30 (x : Operand) (V : Nat → Option AO) (new : Nat) (ρ : Operand → AV) : evalOp Tryz.prog (.box 30 x) V new ρ = if xd (ρ x) 1 = true then some (.loc new 1 0 0, [(new, some (.row 30 1 [ρ x]))]) else none := by rw [E_box, x2r, xyc]
theorem iS_30 (xs : List AV) (k : IntKind) (n : Int) : xx Tryz.prog 30 (.sl 2 xs) (.val (.int k n)) = if 0 ≤ n then (xs[n.toNat]?).map fun z => .ptr z 0 else none := xgc _ xbh x4h xs k n
theorem ap_30 (V : Nat → Option AO) (s x : AV) (new : Nat) : xzb Tryz.prog 30 V s x new = appK 16 45 2 new (oldsOf V s 45 2) (newsOf V x 2) := xqe _ V xbh x4h x1s xwr rfl s x new
theorem bS_30 (len : Nat) (parts : Array (Nat × Operand)) (V : Nat → Option AO) (new : Nat) (ρ : Operand → AV) : evalOp Tryz.prog (.buildSlice 30 len parts) V new ρ = if len * 2 ≤ 16777216 then (setsA 2 (List.replicate len (.agg [.val (.int .i64 0), .val (.int .i64 0)])) (parts.toList.map fun p => (p.1, ρ p.2))).map fun xs => (.msl new len, [(new, some (.row 45 2 xs))]) else none := by rw [xwc _ _ _ _ 30 len parts 45 xbh, x4h, xwr, xic]; simp [xd, AV.one, Value.oneCell']
theorem lS_30 (sz : Nat) (xs : List AV) : xlb Tryz.prog 30 (.sl sz xs) = some (int xs.length) := len_sl _ xbh sz xs
theorem lM_30 (l n : Nat) : xlb Tryz.prog 30 (.msl l n) = some (int n) := x7l _ xbh l n
theorem ld_32 (y : AV) (off : Nat) : evalLd Tryz.prog 32 y off = ldAgg y off 2 := ld_agg _ xvi y off
theorem st_32 (V : Nat → Option AO) (l sz i off : Nat) (v : AV) : xmb Tryz.prog 32 V (.loc l sz i off) v = if xd v 2 = true then (rowT (V l) sz i).bind fun p => (stAV p.2.2 off v).map fun x' => [(l, some (.row p.1 sz (p.2.1.set i x')))] else none := xbc _ xvi V l sz i off v
theorem bx_32 (x : Operand) (V : Nat → Option AO) (new : Nat) (ρ : Operand → AV) : evalOp Tryz.prog (.box 32 x) V new ρ = if xd (ρ x) 2 = true then some (.loc new 2 0 0, [(new, some (.row 32 2 [ρ x]))]) else none := by rw [E_box, xvi, xyc]
theorem al_32 (V : Nat → Option AO) (new : Nat) (ρ : Operand → AV) : evalOp Tryz.prog (.alloc 32) V new ρ = some (.loc new 2 0 0, [(new, some (.row 32 2 [.agg [.val (.int .i64 0), .val (.slice none 0 0)]]))]) := by rw [xrg, xvi, xqu, xte]; rfl
theorem xo7 (l sz i off : Nat) : xf Tryz.prog 32 0 (.loc l sz i off) = some (.loc l sz i (off + 0)) := xq _ xgr aggN_3 (by decide) l sz i off
theorem xd8 (y : AV) (off : Nat) : xf Tryz.prog 32 0 (.ptr y off) = some (.ptr y (off + 0)) := x7b _ xgr aggN_3 (by decide) y off
theorem xf6 (l sz i off : Nat) : xf Tryz.prog 32 1 (.loc l sz i off) = some (.loc l sz i (off + 1)) := xq _ xqy x2r (by decide) l sz i off
theorem lay_32 : layOf Tryz.prog 32 = some ([.val (.int .i64 0), .val (.slice none 0 0)], .str [(0, 1), (1, 1)]) := by kernel_rfl
theorem bd_32 (parts : List (Nat × AV)) : xqb Tryz.prog 32 parts = (fillA (fun i => [(0, 1), (1, 1)][i]?) [.val (.int .i64 0), .val (.slice none 0 0)] parts).map .agg := by simp only [xqb, lay_32]; rfl
theorem iS_42 (xs : List AV) (k : IntKind) (n : Int) : xx Tryz.prog 42 (.sl 1 xs) (.val (.int k n)) = if 0 ≤ n then (xs[n.toNat]?).map fun z => .ptr z 0 else none := xgc _ x9c aggN_9 xs k n
theorem iM_42 (l len : Nat) (k : IntKind) (n : Int) : xx Tryz.prog 42 (.msl l len) (.val (.int k n)) = if 0 ≤ n ∧ n < len then some (.loc l 1 n.toNat 0) else none := xke _ x9c aggN_9 l len k n
theorem ap_42 (V : Nat → Option AO) (s x : AV) (new : Nat) : xzb Tryz.prog 42 V s x new = appK 16 9 1 new (oldsOf V s 9 1) (newsOf V x 1) := xqe _ V x9c aggN_9 x9t zero_9 rfl s x new
theorem bS_42 (len : Nat) (parts : Array (Nat × Operand)) (V : Nat → Option AO) (new : Nat) (ρ : Operand → AV) : evalOp Tryz.prog (.buildSlice 42 len parts) V new ρ = if len * 1 ≤ 16777216 then (setsA 1 (List.replicate len (.val (.string ⟨#[]⟩))) (parts.toList.map fun p => (p.1, ρ p.2))).map fun xs => (.msl new len, [(new, some (.row 9 1 xs))]) else none := by rw [xwc _ _ _ _ 42 len parts 9 x9c, aggN_9, zero_9, xic]; simp [xd, AV.one, Value.oneCell']
theorem lS_42 (sz : Nat) (xs : List AV) : xlb Tryz.prog 42 (.sl sz xs) = some (int xs.length) := len_sl _ x9c sz xs
theorem lM_42 (l n : Nat) : xlb Tryz.prog 42 (.msl l n) = some (int n) := x7l _ x9c l n
theorem ld_45 (y : AV) (off : Nat) : evalLd Tryz.prog 45 y off = ldAgg y off 2 := ld_agg _ x4h y off
theorem st_45 (V : Nat → Option AO) (l sz i off : Nat) (v : AV) : xmb Tryz.prog 45 V (.loc l sz i off) v = if xd v 2 = true then (rowT (V l) sz i).bind fun p => (stAV p.2.2 off v).map fun x' => [(l, some (.row p.1 sz (p.2.1.set i x')))] else none := xbc _ x4h V l sz i off v
theorem bx_45 (x : Operand) (V : Nat → Option AO) (new : Nat) (ρ : Operand → AV) : evalOp Tryz.prog (.box 45 x) V new ρ = if xd (ρ x) 2 = true then some (.loc new 2 0 0, [(new, some (.row 45 2 [ρ x]))]) else none := by rw [E_box, x4h, xyc]
theorem al_45 (V : Nat → Option AO) (new : Nat) (ρ : Operand → AV) : evalOp Tryz.prog (.alloc 45) V new ρ = some (.loc new 2 0 0, [(new, some (.row 45 2 [.agg [.val (.int .i64 0), .val (.int .i64 0)]]))]) := by rw [xrg, x4h, xwr, xte]; rfl
theorem xs7 (l sz i off : Nat) : xf Tryz.prog 45 0 (.loc l sz i off) = some (.loc l sz i (off + 0)) := xq _ x8x aggN_3 (by decide) l sz i off
theorem xw7 (l sz i off : Nat) : xf Tryz.prog 45 1 (.loc l sz i off) = some (.loc l sz i (off + 1)) := xq _ xny aggN_3 (by decide) l sz i off
theorem lay_45 : layOf Tryz.prog 45 = some ([.val (.int .i64 0), .val (.int .i64 0)], .str [(0, 1), (1, 1)]) := by kernel_rfl
theorem bd_45 (parts : List (Nat × AV)) : xqb Tryz.prog 45 parts = (fillA (fun i => [(0, 1), (1, 1)][i]?) [.val (.int .i64 0), .val (.int .i64 0)] parts).map .agg := by simp only [xqb, lay_45]; rfl
theorem ld_55 (y : AV) (off : Nat) : evalLd Tryz.prog 55 y off = ldAgg y off 3 := ld_agg _ x3f y off
theorem st_55 (V : Nat → Option AO) (l sz i off : Nat) (v : AV) : xmb Tryz.prog 55 V (.loc l sz i off) v = if xd v 3 = true then (rowT (V l) sz i).bind fun p => (stAV p.2.2 off v).map fun x' => [(l, some (.row p.1 sz (p.2.1.set i x')))] else none := xbc _ x3f V l sz i off v
theorem bx_55 (x : Operand) (V : Nat → Option AO) (new : Nat) (ρ : Operand → AV) : evalOp Tryz.prog (.box 55 x) V new ρ = if xd (ρ x) 3 = true then some (.loc new 3 0 0, [(new, some (.row 55 3 [ρ x]))]) else none := by rw [E_box, x3f, xyc]
theorem al_55 (V : Nat → Option AO) (new : Nat) (ρ : Operand → AV) : evalOp Tryz.prog (.alloc 55) V new ρ = some (.loc new 3 0 0, [(new, some (.row 55 3 [.agg [.val (.int .i64 0), .val (.int .i64 0), .val (.string ⟨#[]⟩)]]))]) := by rw [xrg, x3f, xgv, xte]; rfl
theorem x75 (l sz i off : Nat) : xf Tryz.prog 55 0 (.loc l sz i off) = some (.loc l sz i (off + 0)) := xq _ x1i aggN_3 (by decide) l sz i off
theorem x67 (y : AV) (off : Nat) : xf Tryz.prog 55 0 (.ptr y off) = some (.ptr y (off + 0)) := x7b _ x1i aggN_3 (by decide) y off
theorem xb8 (l sz i off : Nat) : xf Tryz.prog 55 1 (.loc l sz i off) = some (.loc l sz i (off + 1)) := xq _ xbn aggN_3 (by decide) l sz i off
theorem x97 (y : AV) (off : Nat) : xf Tryz.prog 55 1 (.ptr y off) = some (.ptr y (off + 1)) := x7b _ xbn aggN_3 (by decide) y off
theorem x07 (l sz i off : Nat) : xf Tryz.prog 55 2 (.loc l sz i off) = some (.loc l sz i (off + 2)) := xq _ xum aggN_9 (by decide) l sz i off
theorem xa6 (y : AV) (off : Nat) : xf Tryz.prog 55 2 (.ptr y off) = some (.ptr y (off + 2)) := x7b _ xum aggN_9 (by decide) y off
theorem lay_55 : layOf Tryz.prog 55 = some ([.val (.int .i64 0), .val (.int .i64 0), .val (.string ⟨#[]⟩)], .str [(0, 1), (1, 1), (2, 1)]) := by kernel_rfl
theorem bd_55 (parts : List (Nat × AV)) : xqb Tryz.prog 55 parts = (fillA (fun i => [(0, 1), (1, 1), (2, 1)][i]?) [.val (.int .i64 0), .val (.int .i64 0), .val (.string ⟨#[]⟩)] parts).map .agg := by simp only [xqb, lay_55]; rfl
theorem ld_61 (y : AV) (off : Nat) : evalLd Tryz.prog 61 y off = ldOne y off := ld_one _ x9z y off
theorem lS_61 (sz : Nat) (xs : List AV) : xlb Tryz.prog 61 (.sl sz xs) = some (int xs.length) := len_sl _ xr1 sz xs
theorem ld_62 (y : AV) (off : Nat) : evalLd Tryz.prog 62 y off = ldOne y off := ld_one _ xno y off
theorem st_62 (V : Nat → Option AO) (l sz i off : Nat) (v : AV) : xmb Tryz.prog 62 V (.loc l sz i off) v = if xd v 1 = true then (rowT (V l) sz i).bind fun p => (stAV p.2.2 off v).map fun x' => [(l, some (.row p.1 sz (p.2.1.set i x')))] else none := xbc _ xno V l sz i off v
theorem iS_62 (xs : List AV) (k : IntKind) (n : Int) : xx Tryz.prog 62 (.sl 3 xs) (.val (.int k n)) = if 0 ≤ n then (xs[n.toNat]?).map fun z => .ptr z 0 else none := xgc _ xre x3f xs k n
theorem ap_62 (V : Nat → Option AO) (s x : AV) (new : Nat) : xzb Tryz.prog 62 V s x new = appK 32 55 3 new (oldsOf V s 55 3) (newsOf V x 3) := xqe _ V xre x3f xdz xgv rfl s x new
theorem bS_62 (len : Nat) (parts : Array (Nat × Operand)) (V : Nat → Option AO) (new : Nat) (ρ : Operand → AV) : evalOp Tryz.prog (.buildSlice 62 len parts) V new ρ = if len * 3 ≤ 16777216 then (setsA 3 (List.replicate len (.agg [.val (.int .i64 0), .val (.int .i64 0), .val (.string ⟨#[]⟩)])) (parts.toList.map fun p => (p.1, ρ p.2))).map fun xs => (.msl new len, [(new, some (.row 55 3 xs))]) else none := by rw [xwc _ _ _ _ 62 len parts 55 xre, x3f, xgv, xic]; simp [xd, AV.one, Value.oneCell']
theorem lS_62 (sz : Nat) (xs : List AV) : xlb Tryz.prog 62 (.sl sz xs) = some (int xs.length) := len_sl _ xre sz xs
theorem lN_62  : xlb Tryz.prog 62 nilS = some (int 0) := xc6 _ xre
theorem ld_66 (y : AV) (off : Nat) : evalLd Tryz.prog 66 y off = ldAgg y off 7 := ld_agg _ xdv y off
theorem bx_66 (x : Operand) (V : Nat → Option AO) (new : Nat) (ρ : Operand → AV) : evalOp Tryz.prog (.box 66 x) V new ρ = if xd (ρ x) 7 = true then some (.loc new 7 0 0, [(new, some (.row 66 7 [ρ x]))]) else none := by rw [E_box, xdv, xyc]
theorem x36 (l sz i off : Nat) : xf Tryz.prog 66 0 (.loc l sz i off) = some (.loc l sz i (off + 0)) := xq _ x8m aggN_3 (by decide) l sz i off
theorem xh7 (l sz i off : Nat) : xf Tryz.prog 66 1 (.loc l sz i off) = some (.loc l sz i (off + 1)) := xq _ xlr aggN_3 (by decide) l sz i off
theorem xo6 (l sz i off : Nat) : xf Tryz.prog 66 2 (.loc l sz i off) = some (.loc l sz i (off + 2)) := xq _ xiq aggN_9 (by decide) l sz i off
theorem ld_68 (y : AV) (off : Nat) : evalLd Tryz.prog 68 y off = ldAgg y off 13 := ld_agg _ x0e y off
theorem st_68 (V : Nat → Option AO) (l sz i off : Nat) (v : AV) : xmb Tryz.prog 68 V (.loc l sz i off) v = if xd v 13 = true then (rowT (V l) sz i).bind fun p => (stAV p.2.2 off v).map fun x' => [(l, some (.row p.1 sz (p.2.1.set i x')))] else none := xbc _ x0e V l sz i off v
theorem bx_68 (x : Operand) (V : Nat → Option AO) (new : Nat) (ρ : Operand → AV) : evalOp Tryz.prog (.box 68 x) V new ρ = if xd (ρ x) 13 = true then some (.loc new 13 0 0, [(new, some (.row 68 13 [ρ x]))]) else none := by rw [E_box, x0e, xyc]
theorem al_68 (V : Nat → Option AO) (new : Nat) (ρ : Operand → AV) : evalOp Tryz.prog (.alloc 68) V new ρ = some (.loc new 13 0 0, [(new, some (.row 68 13 [.agg [.val (.int .i64 0), .val (.int .i64 0), .val (.int .i64 0), .val (.int .i64 0), .val (.slice none 0 0), .val (.slice none 0 0), .val (.int .i64 0), .val (.int .i64 0), .val (.string ⟨#[]⟩), .val (.int .i64 0), .val (.int .i64 0), .val (.int .i64 0), .val (.int .i64 0)]]))]) := by rw [xrg, x0e, x0r, xte]; rfl
theorem x57 (l sz i off : Nat) : xf Tryz.prog 68 0 (.loc l sz i off) = some (.loc l sz i (off + 0)) := xq _ x9f aggN_3 (by decide) l sz i off
theorem x06 (y : AV) (off : Nat) : xf Tryz.prog 68 0 (.ptr y off) = some (.ptr y (off + 0)) := x7b _ x9f aggN_3 (by decide) y off
theorem xj6 (x : AV) : xgf Tryz.prog 68 0 x = partO 0 x := xnv x9f aggN_3 x
theorem x96 (l sz i off : Nat) : xf Tryz.prog 68 2 (.loc l sz i off) = some (.loc l sz i (off + 2)) := xq _ x4q aggN_3 (by decide) l sz i off
theorem x27 (l sz i off : Nat) : xf Tryz.prog 68 4 (.loc l sz i off) = some (.loc l sz i (off + 4)) := xq _ xbq x9z (by decide) l sz i off
theorem xq6 (l sz i off : Nat) : xf Tryz.prog 68 5 (.loc l sz i off) = some (.loc l sz i (off + 5)) := xq _ xhj xno (by decide) l sz i off
theorem xx6 (y : AV) (off : Nat) : xf Tryz.prog 68 5 (.ptr y off) = some (.ptr y (off + 5)) := x7b _ xhj xno (by decide) y off
theorem xe8 (x : AV) : xgf Tryz.prog 68 5 x = partO 5 x := xnv xhj xno x
theorem xn7 (l sz i off : Nat) : xf Tryz.prog 68 6 (.loc l sz i off) = some (.loc l sz i (off + 6)) := xq _ xwq xdv (by decide) l sz i off
theorem lay_68 : layOf Tryz.prog 68 = some ([.val (.int .i64 0), .val (.int .i64 0), .val (.int .i64 0), .val (.int .i64 0), .val (.slice none 0 0), .val (.slice none 0 0), .val (.int .i64 0), .val (.int .i64 0), .val (.string ⟨#[]⟩), .val (.int .i64 0), .val (.int .i64 0), .val (.int .i64 0), .val (.int .i64 0)], .str [(0, 1), (1, 1), (2, 1), (3, 1), (4, 1), (5, 1), (6, 7)]) := by kernel_rfl
theorem bd_68 (parts : List (Nat × AV)) : xqb Tryz.prog 68 parts = (fillA (fun i => [(0, 1), (1, 1), (2, 1), (3, 1), (4, 1), (5, 1), (6, 7)][i]?) [.val (.int .i64 0), .val (.int .i64 0), .val (.int .i64 0), .val (.int .i64 0), .val (.slice none 0 0), .val (.slice none 0 0), .val (.int .i64 0), .val (.int .i64 0), .val (.string ⟨#[]⟩), .val (.int .i64 0), .val (.int .i64 0), .val (.int .i64 0), .val (.int .i64 0)] parts).map .agg := by simp only [xqb, lay_68]; rfl
theorem ld_73 (y : AV) (off : Nat) : evalLd Tryz.prog 73 y off = ldOne y off := ld_one _ xru y off
theorem st_73 (V : Nat → Option AO) (l sz i off : Nat) (v : AV) : xmb Tryz.prog 73 V (.loc l sz i off) v = if xd v 1 = true then (rowT (V l) sz i).bind fun p => (stAV p.2.2 off v).map fun x' => [(l, some (.row p.1 sz (p.2.1.set i x')))] else none := xbc _ xru V l sz i off v
theorem iS_73 (xs : List AV) (k : IntKind) (n : Int) : xx Tryz.prog 73 (.sl 3 xs) (.val (.int k n)) = if 0 ≤ n then (xs[n.toNat]?).map fun z => .ptr z 0 else none := xgc _ xtg xxi xs k n
theorem iM_73 (l len : Nat) (k : IntKind) (n : Int) : xx Tryz.prog 73 (.msl l len) (.val (.int k n)) = if 0 ≤ n ∧ n < len then some (.loc l 3 n.toNat 0) else none := xke _ xtg xxi l len k n
theorem ap_73 (V : Nat → Option AO) (s x : AV) (new : Nat) : xzb Tryz.prog 73 V s x new = appK 32 79 3 new (oldsOf V s 79 3) (newsOf V x 3) := xqe _ V xtg xxi xoz xvu rfl s x new
theorem bS_73 (len : Nat) (parts : Array (Nat × Operand)) (V : Nat → Option AO) (new : Nat) (ρ : Operand → AV) : evalOp Tryz.prog (.buildSlice 73 len parts) V new ρ = if len * 3 ≤ 16777216 then (setsA 3 (List.replicate len (.agg [.val (.int .i64 0), .val (.int .i64 0), .val (.string ⟨#[]⟩)])) (parts.toList.map fun p => (p.1, ρ p.2))).map fun xs => (.msl new len, [(new, some (.row 79 3 xs))]) else none := by rw [xwc _ _ _ _ 73 len parts 79 xtg, xxi, xvu, xic]; simp [xd, AV.one, Value.oneCell']
theorem lS_73 (sz : Nat) (xs : List AV) : xlb Tryz.prog 73 (.sl sz xs) = some (int xs.length) := len_sl _ xtg sz xs
theorem lM_73 (l n : Nat) : xlb Tryz.prog 73 (.msl l n) = some (int n) := x7l _ xtg l n
theorem iS_74 (xs : List AV) (k : IntKind) (n : Int) : xx Tryz.prog 74 (.sl 2 xs) (.val (.int k n)) = if 0 ≤ n then (xs[n.toNat]?).map fun z => .ptr z 0 else none := xgc _ x5i xvi xs k n
theorem iM_74 (l len : Nat) (k : IntKind) (n : Int) : xx Tryz.prog 74 (.msl l len) (.val (.int k n)) = if 0 ≤ n ∧ n < len then some (.loc l 2 n.toNat 0) else none := xke _ x5i xvi l len k n
theorem ap_74 (V : Nat → Option AO) (s x : AV) (new : Nat) : xzb Tryz.prog 74 V s x new = appK 32 32 2 new (oldsOf V s 32 2) (newsOf V x 2) := xqe _ V x5i xvi xrz xqu rfl s x new
theorem bS_74 (len : Nat) (parts : Array (Nat × Operand)) (V : Nat → Option AO) (new : Nat) (ρ : Operand → AV) : evalOp Tryz.prog (.buildSlice 74 len parts) V new ρ = if len * 2 ≤ 16777216 then (setsA 2 (List.replicate len (.agg [.val (.int .i64 0), .val (.slice none 0 0)])) (parts.toList.map fun p => (p.1, ρ p.2))).map fun xs => (.msl new len, [(new, some (.row 32 2 xs))]) else none := by rw [xwc _ _ _ _ 74 len parts 32 x5i, xvi, xqu, xic]; simp [xd, AV.one, Value.oneCell']
theorem lS_74 (sz : Nat) (xs : List AV) : xlb Tryz.prog 74 (.sl sz xs) = some (int xs.length) := len_sl _ x5i sz xs
theorem ld_79 (y : AV) (off : Nat) : evalLd Tryz.prog 79 y off = ldAgg y off 3 := ld_agg _ xxi y off
theorem st_79 (V : Nat → Option AO) (l sz i off : Nat) (v : AV) : xmb Tryz.prog 79 V (.loc l sz i off) v = if xd v 3 = true then (rowT (V l) sz i).bind fun p => (stAV p.2.2 off v).map fun x' => [(l, some (.row p.1 sz (p.2.1.set i x')))] else none := xbc _ xxi V l sz i off v
theorem bx_79 (x : Operand) (V : Nat → Option AO) (new : Nat) (ρ : Operand → AV) : evalOp Tryz.prog (.box 79 x) V new ρ = if xd (ρ x) 3 = true then some (.loc new 3 0 0, [(new, some (.row 79 3 [ρ x]))]) else none := by rw [E_box, xxi, xyc]
theorem al_79 (V : Nat → Option AO) (new : Nat) (ρ : Operand → AV) : evalOp Tryz.prog (.alloc 79) V new ρ = some (.loc new 3 0 0, [(new, some (.row 79 3 [.agg [.val (.int .i64 0), .val (.int .i64 0), .val (.string ⟨#[]⟩)]]))]) := by rw [xrg, xxi, xvu, xte]; rfl
theorem x85 (l sz i off : Nat) : xf Tryz.prog 79 0 (.loc l sz i off) = some (.loc l sz i (off + 0)) := xq _ xmq aggN_3 (by decide) l sz i off
theorem xr7 (y : AV) (off : Nat) : xf Tryz.prog 79 0 (.ptr y off) = some (.ptr y (off + 0)) := x7b _ xmq aggN_3 (by decide) y off
theorem xn6 (l sz i off : Nat) : xf Tryz.prog 79 1 (.loc l sz i off) = some (.loc l sz i (off + 1)) := xq _ x2q aggN_3 (by decide) l sz i off
theorem xt6 (y : AV) (off : Nat) : xf Tryz.prog 79 1 (.ptr y off) = some (.ptr y (off + 1)) := x7b _ x2q aggN_3 (by decide) y off
theorem xb6 (l sz i off : Nat) : xf Tryz.prog 79 2 (.loc l sz i off) = some (.loc l sz i (off + 2)) := xq _ xdq aggN_9 (by decide) l sz i off
theorem x55 (y : AV) (off : Nat) : xf Tryz.prog 79 2 (.ptr y off) = some (.ptr y (off + 2)) := x7b _ xdq aggN_9 (by decide) y off
theorem lay_79 : layOf Tryz.prog 79 = some ([.val (.int .i64 0), .val (.int .i64 0), .val (.string ⟨#[]⟩)], .str [(0, 1), (1, 1), (2, 1)]) := by kernel_rfl
theorem bd_79 (parts : List (Nat × AV)) : xqb Tryz.prog 79 parts = (fillA (fun i => [(0, 1), (1, 1), (2, 1)][i]?) [.val (.int .i64 0), .val (.int .i64 0), .val (.string ⟨#[]⟩)] parts).map .agg := by simp only [xqb, lay_79]; rfl
theorem ld_92 (y : AV) (off : Nat) : evalLd Tryz.prog 92 y off = ldAgg y off 6 := ld_agg _ x7r y off
theorem st_92 (V : Nat → Option AO) (l sz i off : Nat) (v : AV) : xmb Tryz.prog 92 V (.loc l sz i off) v = if xd v 6 = true then (rowT (V l) sz i).bind fun p => (stAV p.2.2 off v).map fun x' => [(l, some (.row p.1 sz (p.2.1.set i x')))] else none := xbc _ x7r V l sz i off v
theorem bx_92 (x : Operand) (V : Nat → Option AO) (new : Nat) (ρ : Operand → AV) : evalOp Tryz.prog (.box 92 x) V new ρ = if xd (ρ x) 6 = true then some (.loc new 6 0 0, [(new, some (.row 92 6 [ρ x]))]) else none := by rw [E_box, x7r, xyc]
theorem al_92 (V : Nat → Option AO) (new : Nat) (ρ : Operand → AV) : evalOp Tryz.prog (.alloc 92) V new ρ = some (.loc new 6 0 0, [(new, some (.row 92 6 [.agg [.val (.int .i64 0), .val (.int .i64 0), .val (.int .i64 0), .val (.int .i64 0), .val (.slice none 0 0), .val (.slice none 0 0)]]))]) := by rw [xrg, x7r, x35, xte]; rfl
theorem x87 (l sz i off : Nat) : xf Tryz.prog 92 0 (.loc l sz i off) = some (.loc l sz i (off + 0)) := xq _ xwx xfo (by decide) l sz i off
theorem lay_92 : layOf Tryz.prog 92 = some ([.val (.int .i64 0), .val (.int .i64 0), .val (.int .i64 0), .val (.int .i64 0), .val (.slice none 0 0), .val (.slice none 0 0)], .str [(0, 6)]) := by kernel_rfl
theorem bd_92 (parts : List (Nat × AV)) : xqb Tryz.prog 92 parts = (fillA (fun i => [(0, 6)][i]?) [.val (.int .i64 0), .val (.int .i64 0), .val (.int .i64 0), .val (.int .i64 0), .val (.slice none 0 0), .val (.slice none 0 0)] parts).map .agg := by simp only [xqb, lay_92]; rfl
theorem iS_106 (xs : List AV) (k : IntKind) (n : Int) : xx Tryz.prog 106 (.sl 1 xs) (.val (.int k n)) = if 0 ≤ n then (xs[n.toNat]?).map fun z => .ptr z 0 else none := xgc _ xes x3h xs k n
theorem lS_106 (sz : Nat) (xs : List AV) : xlb Tryz.prog 106 (.sl sz xs) = some (int xs.length) := len_sl _ xes sz xs
theorem iS_111 (xs : List AV) (k : IntKind) (n : Int) : xx Tryz.prog 111 (.sl 1 xs) (.val (.int k n)) = if 0 ≤ n then (xs[n.toNat]?).map fun z => .ptr z 0 else none := xgc _ xyn aggN_3 xs k n
theorem bS_111 (len : Nat) (parts : Array (Nat × Operand)) (V : Nat → Option AO) (new : Nat) (ρ : Operand → AV) : evalOp Tryz.prog (.buildSlice 111 len parts) V new ρ = if len * 1 ≤ 16777216 then (setsA 1 (List.replicate len (.val (.int .i64 0))) (parts.toList.map fun p => (p.1, ρ p.2))).map fun xs => (.msl new len, [(new, some (.row 3 1 xs))]) else none := by rw [xwc _ _ _ _ 111 len parts 3 xyn, aggN_3, zero_3, xic]; simp [xd, AV.one, Value.oneCell']
theorem lS_111 (sz : Nat) (xs : List AV) : xlb Tryz.prog 111 (.sl sz xs) = some (int xs.length) := len_sl _ xyn sz xs
theorem ld_112 (y : AV) (off : Nat) : evalLd Tryz.prog 112 y off = ldOne y off := ld_one _ xvx y off
theorem x3v : mapOf Tryz.prog 112 = some (.int .i64, 3) := by kernel_rfl
theorem lk_112 (V : Nat → Option AO) (c : Bool) (l : Nat) (kv : Value) : xlf Tryz.prog 112 c V (.mp l) (.val kv) = lookK c (.int .i64) (zeroOf Tryz.prog 3) kv (V l) := xg7 _ V x3v c l kv
theorem mu_112 (V : Nat → Option AO) (l : Nat) (kv : Value) (x : AV) : xfd Tryz.prog 112 V (.mp l) (.val kv) x = mupdK (.int .i64) kv x l (V l) := x95 _ V x3v l kv x
theorem ld_113 (y : AV) (off : Nat) : evalLd Tryz.prog 113 y off = ldOne y off := ld_one _ x2s y off
theorem st_113 (V : Nat → Option AO) (l sz i off : Nat) (v : AV) : xmb Tryz.prog 113 V (.loc l sz i off) v = if xd v 1 = true then (rowT (V l) sz i).bind fun p => (stAV p.2.2 off v).map fun x' => [(l, some (.row p.1 sz (p.2.1.set i x')))] else none := xbc _ x2s V l sz i off v
theorem ap_113 (V : Nat → Option AO) (s x : AV) (new : Nat) : xzb Tryz.prog 113 V s x new = appK 16 144 2 new (oldsOf V s 144 2) (newsOf V x 2) := xqe _ V xos xqx xgx x0y rfl s x new
theorem bS_113 (len : Nat) (parts : Array (Nat × Operand)) (V : Nat → Option AO) (new : Nat) (ρ : Operand → AV) : evalOp Tryz.prog (.buildSlice 113 len parts) V new ρ = if len * 2 ≤ 16777216 then (setsA 2 (List.replicate len (.agg [.val (.int .i64 0), .val (.int .i64 0)])) (parts.toList.map fun p => (p.1, ρ p.2))).map fun xs => (.msl new len, [(new, some (.row 144 2 xs))]) else none := by rw [xwc _ _ _ _ 113 len parts 144 xos, xqx, x0y, xic]; simp [xd, AV.one, Value.oneCell']
theorem bx_115 (x : Operand) (V : Nat → Option AO) (new : Nat) (ρ : Operand → AV) : evalOp Tryz.prog (.box 115 x) V new ρ = if xd (ρ x) 4 = true then some (.loc new 4 0 0, [(new, some (.row 115 4 [ρ x]))]) else none := by rw [E_box, xf5, xyc]
theorem xl5 (l sz i off : Nat) : xf Tryz.prog 115 0 (.loc l sz i off) = some (.loc l sz i (off + 0)) := xq _ xqw x3h (by decide) l sz i off
theorem xh5 (l sz i off : Nat) : xf Tryz.prog 115 1 (.loc l sz i off) = some (.loc l sz i (off + 1)) := xq _ xow xru (by decide) l sz i off
theorem xz5 (l sz i off : Nat) : xf Tryz.prog 115 2 (.loc l sz i off) = some (.loc l sz i (off + 2)) := xq _ xnw xvx (by decide) l sz i off
theorem xb5 (l sz i off : Nat) : xf Tryz.prog 115 3 (.loc l sz i off) = some (.loc l sz i (off + 3)) := xq _ xvw x2s (by decide) l sz i off
theorem xl6 : layOf Tryz.prog 115 = some ([.val (.slice none 0 0), .val (.slice none 0 0), .val (.map none), .val (.slice none 0 0)], .str [(0, 1), (1, 1), (2, 1), (3, 1)]) := by kernel_rfl
theorem bd_115 (parts : List (Nat × AV)) : xqb Tryz.prog 115 parts = (fillA (fun i => [(0, 1), (1, 1), (2, 1), (3, 1)][i]?) [.val (.slice none 0 0), .val (.slice none 0 0), .val (.map none), .val (.slice none 0 0)] parts).map .agg := by simp only [xqb, xl6]; rfl
theorem xl7 : layOf Tryz.prog 144 = some ([.val (.int .i64 0), .val (.int .i64 0)], .arr 1) := by kernel_rfl
theorem bd_144 (parts : List (Nat × AV)) : xqb Tryz.prog 144 parts = (fillA (fun i => some (i * 1, 1)) [.val (.int .i64 0), .val (.int .i64 0)] parts).map .agg := by simp only [xqb, xl7]; rfl
end Go.Proofs.YtapdjibjnfeipaaGreatDoor.AL

