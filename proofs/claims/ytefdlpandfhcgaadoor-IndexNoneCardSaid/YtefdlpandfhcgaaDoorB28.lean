/- A law of the given program is proved: part 28 of 51. -/
import Derived.Test.YtefdlpandfhcgaaDoorB27
set_option linter.all false
/- AL: the evaluator's rules with the facts of this seat's types, printed by rules.py. -/
set_option linter.unusedSimpArgs false
set_option linter.unusedVariables false
namespace Go.Proofs.YtefdlpandfhcgaaDoor.AL
open Go Go.Proofs
set_option maxRecDepth 100000
theorem mixed : Tryd.prog.follows .mixedOrders = true := by kernel_rfl
theorem zero_3 : zeroOf Tryd.prog 3 = some (.val (.int .i64 0)) := by kernel_rfl
theorem zero_4 : zeroOf Tryd.prog 4 = some (.val (.bool false)) := by kernel_rfl
theorem xz3 : zeroOf Tryd.prog 23 = some (.agg [.val (.int .i64 0), .val (.int .i64 0), .val (.int .i64 0)]) := by kernel_rfl
theorem x1q : zeroOf Tryd.prog 44 = some (.agg [.val (.int .i64 0), .val (.int .i64 0), .val (.int .i64 0), .val (.int .i64 0), .val (.slice none 0 0), .val (.slice none 0 0), .val (.int .i64 0), .val (.int .i64 0), .val (.string ⟨#[]⟩), .val (.int .i64 0), .val (.int .i64 0), .val (.int .i64 0), .val (.int .i64 0)]) := by kernel_rfl
theorem xk6 : zeroOf Tryd.prog 51 = some (.agg [.val (.int .i64 0), .val (.int .i64 0), .val (.string ⟨#[]⟩)]) := by kernel_rfl
theorem xy3 : zeroOf Tryd.prog 57 = some (.agg [.val (.int .i64 0), .val (.int .i64 0), .val (.int .i64 0), .val (.int .i64 0)]) := by kernel_rfl
theorem x83 : zeroOf Tryd.prog 58 = some (.agg [.val (.int .i64 0), .val (.int .i64 0), .val (.int .i64 0), .val (.int .i64 0), .val (.int .i64 0), .val (.int .i64 0), .val (.int .i64 0), .val (.int .i64 0), .val (.int .i64 0), .val (.int .i64 0), .val (.int .i64 0), .val (.int .i64 0)]) := by kernel_rfl
theorem x44 : zeroOf Tryd.prog 63 = some (.agg [.val (.int .i64 0), .val (.int .i64 0), .val (.int .i64 0)]) := by kernel_rfl
theorem x5v : zeroOf Tryd.prog 81 = some (.agg [.val (.int .i64 0), .val (.int .i64 0), .val (.int .i64 0), .val (.int .i64 0)]) := by kernel_rfl
theorem x94 : zeroOf Tryd.prog 82 = some (.val (.slice none 0 0)) := by kernel_rfl
theorem x04 : zeroOf Tryd.prog 84 = some (.agg [.val (.int .i64 0), .val (.int .i64 0), .val (.int .i64 0), .val (.int .i64 0), .val (.slice none 0 0), .val (.slice none 0 0), .val (.slice none 0 0)]) := by kernel_rfl
theorem x2o : zeroOf Tryd.prog 153 = some (.agg [.val (.int .i64 0), .val (.int .i64 0), .val (.string ⟨#[]⟩)]) := by kernel_rfl
theorem x0t : zeroOf Tryd.prog 162 = some (.agg [.val (.int .i64 0), .val (.int .i64 0)]) := by kernel_rfl
theorem ld_1 (y : AV) (off : Nat) : evalLd Tryd.prog 1 y off = ldOne y off := ld_one _ aggN_1 y off
theorem ld_2 (y : AV) (off : Nat) : evalLd Tryd.prog 2 y off = ldOne y off := ld_one _ aggN_2 y off
theorem ld_3 (y : AV) (off : Nat) : evalLd Tryd.prog 3 y off = ldOne y off := ld_one _ aggN_3 y off
theorem st_3 (V : Nat → Option AO) (l sz i off : Nat) (v : AV) : xpb Tryd.prog 3 V (.loc l sz i off) v = if xi v 1 = true then (rowT (V l) sz i).bind fun p => (stAV p.2.2 off v).map fun x' => [(l, some (.row p.1 sz (p.2.1.set i x')))] else none := xmc _ aggN_3 V l sz i off v
theorem bx_3 (x : Operand) (V : Nat → Option AO) (new : Nat) (ρ : Operand → AV) : evalOp Tryd.prog (.box 3 x) V new ρ = if xi (ρ x) 1 = true then some (.loc new 1 0 0, [(new, some (.row 3 1 [ρ x]))]) else none := by rw [E_box, aggN_3, xwd]
theorem ld_4 (y : AV) (off : Nat) : evalLd Tryd.prog 4 y off = ldOne y off := ld_one _ aggN_4 y off
theorem st_4 (V : Nat → Option AO) (l sz i off : Nat) (v : AV) : xpb Tryd.prog 4 V (.loc l sz i off) v = if xi v 1 = true then (rowT (V l) sz i).bind fun p => (stAV p.2.2 off v).map fun x' => [(l, some (.row p.1 sz (p.2.1.set i x')))] else none := xmc _ aggN_4 V l sz i off v
theorem bq_4 (a b : Bool) : binK Tryd.prog .eql 4 (bool a) (bool b) = brR (a == b) := xc1 xcu a b
theorem bn_4 (a b : Bool) : binK Tryd.prog .neq 4 (bool a) (bool b) = brR (!(a == b)) := xt1 xcu a b
theorem ld_5 (y : AV) (off : Nat) : evalLd Tryd.prog 5 y off = ldOne y off := ld_one _ aggN_5 y off
theorem ld_9 (y : AV) (off : Nat) : evalLd Tryd.prog 9 y off = ldOne y off := ld_one _ aggN_9 y off
theorem lB_9 (s : ByteArray) : x2b Tryd.prog 9 (.val (.string s)) = some (int s.size) := xn5 _ xwt s
theorem iB_9 (s : ByteArray) (k : IntKind) (n : Int) : xg Tryd.prog 9 (.val (.string s)) (.val (.int k n)) = if 0 ≤ n then (s[n.toNat]?).map fun b => u8 b else none := xzz _ xwt s k n
theorem ld_23 (y : AV) (off : Nat) : evalLd Tryd.prog 23 y off = ldAgg y off 3 := ld_agg _ xmk y off
theorem st_23 (V : Nat → Option AO) (l sz i off : Nat) (v : AV) : xpb Tryd.prog 23 V (.loc l sz i off) v = if xi v 3 = true then (rowT (V l) sz i).bind fun p => (stAV p.2.2 off v).map fun x' => [(l, some (.row p.1 sz (p.2.1.set i x')))] else none := xmc _ xmk V l sz i off v
theorem bx_23 (x : Operand) (V : Nat → Option AO) (new : Nat) (ρ : Operand → AV) : evalOp Tryd.prog (.box 23 x) V new ρ = if xi (ρ x) 3 = true then some (.loc new 3 0 0, [(new, some (.row 23 3 [ρ x]))]) else none := by rw [E_box, xmk, xwd]
theorem al_23 (V : Nat → Option AO) (new : Nat) (ρ : Operand → AV) : evalOp Tryd.prog (.alloc 23) V new ρ = some (.loc new 3 0 0, [(new, some (.row 23 3 [.agg [.val (.int .i64 0), .val (.int .i64 0), .val (.int .i64 0)]]))]) := by rw [xdg, xmk, xz3, xcd]; rfl
theorem xk5 (l sz i off : Nat) : xe Tryd.prog 23 0 (.loc l sz i off) = some (.loc l sz i (off + 0)) := xr _ xdj aggN_3 (by decide) l sz i off
theorem xr4 (l sz i off : Nat) : xe Tryd.prog 23 1 (.loc l sz i off) = some (.loc l sz i (off + 1)) := xr _ xgm aggN_3 (by decide) l sz i off
theorem x25 (l sz i off : Nat) : xe Tryd.prog 23 2 (.loc l sz i off) = some (.loc l sz i (off + 2)) := xr _ x2m aggN_3 (by decide) l sz i off
theorem lay_23 : layOf Tryd.prog 23 = some ([.val (.int .i64 0), .val (.int .i64 0), .val (.int .i64 0)], .str [(0, 1), (1, 1), (2, 1)]) := by kernel_rfl
theorem bd_23 (parts : List (Nat × AV)) : xub Tryd.prog 23 parts = (fillA (fun i => [(0, 1), (1, 1), (2, 1)][i]?) [.val (.int .i64 0), .val (.int .i64 0), .val (.int .i64 0)] parts).map .agg := by simp only [xub, lay_23]; rfl
theorem ld_32 (y : AV) (off : Nat) : evalLd Tryd.prog 32 y off = ldOne y off := ld_one _ xmn y off
theorem st_32 (V : Nat → Option AO) (l sz i off : Nat) (v : AV) : xpb Tryd.prog 32 V (.loc l sz i off) v = if xi v 1 = true then (rowT (V l) sz i).bind fun p => (stAV p.2.2 off v).map fun x' => [(l, some (.row p.1 sz (p.2.1.set i x')))] else none := xmc _ xmn V l sz i off v
theorem iS_32 (xs : List AV) (k : IntKind) (n : Int) : xy Tryd.prog 32 (.sl 13 xs) (.val (.int k n)) = if 0 ≤ n then (xs[n.toNat]?).map fun z => .ptr z 0 else none := xyc _ xeg xcg xs k n
theorem iM_32 (l len : Nat) (k : IntKind) (n : Int) : xy Tryd.prog 32 (.msl l len) (.val (.int k n)) = if 0 ≤ n ∧ n < len then some (.loc l 13 n.toNat 0) else none := xii _ xeg xcg l len k n
theorem lS_32 (sz : Nat) (xs : List AV) : x2b Tryd.prog 32 (.sl sz xs) = some (int xs.length) := len_sl _ xeg sz xs
theorem ld_34 (y : AV) (off : Nat) : evalLd Tryd.prog 34 y off = ldAgg y off 1 := ld_agg _ xzh y off
theorem bx_34 (x : Operand) (V : Nat → Option AO) (new : Nat) (ρ : Operand → AV) : evalOp Tryd.prog (.box 34 x) V new ρ = if xi (ρ x) 1 = true then some (.loc new 1 0 0, [(new, some (.row 34 1 [ρ x]))]) else none := by rw [E_box, xzh, xwd]
theorem xt6 (l sz i off : Nat) : xe Tryd.prog 34 0 (.loc l sz i off) = some (.loc l sz i (off + 0)) := xr _ xch xmn (by decide) l sz i off
theorem xa4 (y : AV) (off : Nat) : xe Tryd.prog 34 0 (.ptr y off) = some (.ptr y (off + 0)) := x6d _ xch xmn (by decide) y off
theorem ld_35 (y : AV) (off : Nat) : evalLd Tryd.prog 35 y off = ldOne y off := ld_one _ x9v y off
theorem iS_35 (xs : List AV) (k : IntKind) (n : Int) : xy Tryd.prog 35 (.sl 1 xs) (.val (.int k n)) = if 0 ≤ n then (xs[n.toNat]?).map fun z => .ptr z 0 else none := xyc _ xsk xzh xs k n
theorem lS_35 (sz : Nat) (xs : List AV) : x2b Tryd.prog 35 (.sl sz xs) = some (int xs.length) := len_sl _ xsk sz xs
theorem ld_37 (y : AV) (off : Nat) : evalLd Tryd.prog 37 y off = ldAgg y off 6 := ld_agg _ xtq y off
theorem bx_37 (x : Operand) (V : Nat → Option AO) (new : Nat) (ρ : Operand → AV) : evalOp Tryd.prog (.box 37 x) V new ρ = if xi (ρ x) 6 = true then some (.loc new 6 0 0, [(new, some (.row 37 6 [ρ x]))]) else none := by rw [E_box, xtq, xwd]
theorem xc4 (l sz i off : Nat) : xe Tryd.prog 37 1 (.loc l sz i off) = some (.loc l sz i (off + 4)) := xr _ xyl xzh (by decide) l sz i off
theorem xs6 (l sz i off : Nat) : xe Tryd.prog 37 2 (.loc l sz i off) = some (.loc l sz i (off + 5)) := xr _ x3l x9v (by decide) l sz i off
theorem ld_39 (y : AV) (off : Nat) : evalLd Tryd.prog 39 y off = ldOne y off := ld_one _ x7v y off
theorem iS_39 (xs : List AV) (k : IntKind) (n : Int) : xy Tryd.prog 39 (.sl 1 xs) (.val (.int k n)) = if 0 ≤ n then (xs[n.toNat]?).map fun z => .ptr z 0 else none := xyc _ xwp aggN_5 xs k n
theorem lS_39 (sz : Nat) (xs : List AV) : x2b Tryd.prog 39 (.sl sz xs) = some (int xs.length) := len_sl _ xwp sz xs
theorem ld_40 (y : AV) (off : Nat) : evalLd Tryd.prog 40 y off = ldOne y off := ld_one _ xsn y off
theorem st_40 (V : Nat → Option AO) (l sz i off : Nat) (v : AV) : xpb Tryd.prog 40 V (.loc l sz i off) v = if xi v 1 = true then (rowT (V l) sz i).bind fun p => (stAV p.2.2 off v).map fun x' => [(l, some (.row p.1 sz (p.2.1.set i x')))] else none := xmc _ xsn V l sz i off v
theorem iS_40 (xs : List AV) (k : IntKind) (n : Int) : xy Tryd.prog 40 (.sl 3 xs) (.val (.int k n)) = if 0 ≤ n then (xs[n.toNat]?).map fun z => .ptr z 0 else none := xyc _ xri xxi xs k n
theorem lS_40 (sz : Nat) (xs : List AV) : x2b Tryd.prog 40 (.sl sz xs) = some (int xs.length) := len_sl _ xri sz xs
theorem lN_40  : x2b Tryd.prog 40 nilS = some (int 0) := xz4 _ xri
theorem ld_42 (y : AV) (off : Nat) : evalLd Tryd.prog 42 y off = ldAgg y off 7 := ld_agg _ x1v y off
theorem xg5 (l sz i off : Nat) : xe Tryd.prog 42 0 (.loc l sz i off) = some (.loc l sz i (off + 0)) := xr _ x8i aggN_3 (by decide) l sz i off
theorem x74 (l sz i off : Nat) : xe Tryd.prog 42 2 (.loc l sz i off) = some (.loc l sz i (off + 2)) := xr _ x6m aggN_9 (by decide) l sz i off
theorem xi4 (l sz i off : Nat) : xe Tryd.prog 42 3 (.loc l sz i off) = some (.loc l sz i (off + 3)) := xr _ xkm xmk (by decide) l sz i off
theorem ld_44 (y : AV) (off : Nat) : evalLd Tryd.prog 44 y off = ldAgg y off 13 := ld_agg _ xcg y off
theorem st_44 (V : Nat → Option AO) (l sz i off : Nat) (v : AV) : xpb Tryd.prog 44 V (.loc l sz i off) v = if xi v 13 = true then (rowT (V l) sz i).bind fun p => (stAV p.2.2 off v).map fun x' => [(l, some (.row p.1 sz (p.2.1.set i x')))] else none := xmc _ xcg V l sz i off v
theorem bx_44 (x : Operand) (V : Nat → Option AO) (new : Nat) (ρ : Operand → AV) : evalOp Tryd.prog (.box 44 x) V new ρ = if xi (ρ x) 13 = true then some (.loc new 13 0 0, [(new, some (.row 44 13 [ρ x]))]) else none := by rw [E_box, xcg, xwd]
theorem al_44 (V : Nat → Option AO) (new : Nat) (ρ : Operand → AV) : evalOp Tryd.prog (.alloc 44) V new ρ = some (.loc new 13 0 0, [(new, some (.row 44 13 [.agg [.val (.int .i64 0), .val (.int .i64 0), .val (.int .i64 0), .val (.int .i64 0), .val (.slice none 0 0), .val (.slice none 0 0), .val (.int .i64 0), .val (.int .i64 0), .val (.string ⟨#[]⟩), .val (.int .i64 0), .val (.int .i64 0), .val (.int .i64 0), .val (.int .i64 0)]]))]) := by rw [xdg, xcg, x1q, xcd]; rfl
theorem xh4 (l sz i off : Nat) : xe Tryd.prog 44 0 (.loc l sz i off) = some (.loc l sz i (off + 0)) := xr _ xag aggN_3 (by decide) l sz i off
theorem xw4 (y : AV) (off : Nat) : xe Tryd.prog 44 0 (.ptr y off) = some (.ptr y (off + 0)) := x6d _ xag aggN_3 (by decide) y off
theorem x85 (x : AV) : xze Tryd.prog 44 0 x = partO 0 x := xnr xag aggN_3 x
theorem xc6 (l sz i off : Nat) : xe Tryd.prog 44 1 (.loc l sz i off) = some (.loc l sz i (off + 1)) := xr _ xam aggN_3 (by decide) l sz i off
theorem xl4 (l sz i off : Nat) : xe Tryd.prog 44 2 (.loc l sz i off) = some (.loc l sz i (off + 2)) := xr _ xcm aggN_3 (by decide) l sz i off
theorem x54 (l sz i off : Nat) : xe Tryd.prog 44 3 (.loc l sz i off) = some (.loc l sz i (off + 3)) := xr _ xym aggN_3 (by decide) l sz i off
theorem xs5 (l sz i off : Nat) : xe Tryd.prog 44 4 (.loc l sz i off) = some (.loc l sz i (off + 4)) := xr _ xfn x7v (by decide) l sz i off
theorem x05 (l sz i off : Nat) : xe Tryd.prog 44 5 (.loc l sz i off) = some (.loc l sz i (off + 5)) := xr _ x6i xsn (by decide) l sz i off
theorem xh5 (x : AV) : xze Tryd.prog 44 5 x = partO 5 x := xnr x6i xsn x
theorem xt5 (l sz i off : Nat) : xe Tryd.prog 44 6 (.loc l sz i off) = some (.loc l sz i (off + 6)) := xr _ xzm x1v (by decide) l sz i off
theorem lay_44 : layOf Tryd.prog 44 = some ([.val (.int .i64 0), .val (.int .i64 0), .val (.int .i64 0), .val (.int .i64 0), .val (.slice none 0 0), .val (.slice none 0 0), .val (.int .i64 0), .val (.int .i64 0), .val (.string ⟨#[]⟩), .val (.int .i64 0), .val (.int .i64 0), .val (.int .i64 0), .val (.int .i64 0)], .str [(0, 1), (1, 1), (2, 1), (3, 1), (4, 1), (5, 1), (6, 7)]) := by kernel_rfl
theorem bd_44 (parts : List (Nat × AV)) : xub Tryd.prog 44 parts = (fillA (fun i => [(0, 1), (1, 1), (2, 1), (3, 1), (4, 1), (5, 1), (6, 7)][i]?) [.val (.int .i64 0), .val (.int .i64 0), .val (.int .i64 0), .val (.int .i64 0), .val (.slice none 0 0), .val (.slice none 0 0), .val (.int .i64 0), .val (.int .i64 0), .val (.string ⟨#[]⟩), .val (.int .i64 0), .val (.int .i64 0), .val (.int .i64 0), .val (.int .i64 0)] parts).map .agg := by simp only [xub, lay_44]; rfl
theorem ld_51 (y : AV) (off : Nat) : evalLd Tryd.prog 51 y off = ldAgg y off 3 := ld_agg _ xxi y off
theorem st_51 (V : Nat → Option AO) (l sz i off : Nat) (v : AV) : xpb Tryd.prog 51 V (.loc l sz i off) v = if xi v 3 = true then (rowT (V l) sz i).bind fun p => (stAV p.2.2 off v).map fun x' => [(l, some (.row p.1 sz (p.2.1.set i x')))] else none := xmc _ xxi V l sz i off v
theorem bx_51 (x : Operand) (V : Nat → Option AO) (new : Nat) (ρ : Operand → AV) : evalOp Tryd.prog (.box 51 x) V new ρ = if xi (ρ x) 3 = true then some (.loc new 3 0 0, [(new, some (.row 51 3 [ρ x]))]) else none := by rw [E_box, xxi, xwd]
theorem al_51 (V : Nat → Option AO) (new : Nat) (ρ : Operand → AV) : evalOp Tryd.prog (.alloc 51) V new ρ = some (.loc new 3 0 0, [(new, some (.row 51 3 [.agg [.val (.int .i64 0), .val (.int .i64 0), .val (.string ⟨#[]⟩)]]))]) := by rw [xdg, xxi, xk6, xcd]; rfl
theorem xd6 (l sz i off : Nat) : xe Tryd.prog 51 0 (.loc l sz i off) = some (.loc l sz i (off + 0)) := xr _ xzf aggN_3 (by decide) l sz i off
theorem xy4 (y : AV) (off : Nat) : xe Tryd.prog 51 0 (.ptr y off) = some (.ptr y (off + 0)) := x6d _ xzf aggN_3 (by decide) y off
theorem xx4 (l sz i off : Nat) : xe Tryd.prog 51 1 (.loc l sz i off) = some (.loc l sz i (off + 1)) := xr _ xej aggN_3 (by decide) l sz i off
theorem xp6 (y : AV) (off : Nat) : xe Tryd.prog 51 1 (.ptr y off) = some (.ptr y (off + 1)) := x6d _ xej aggN_3 (by decide) y off
theorem xy6 (l sz i off : Nat) : xe Tryd.prog 51 2 (.loc l sz i off) = some (.loc l sz i (off + 2)) := xr _ x7l aggN_9 (by decide) l sz i off
theorem iS_54 (xs : List AV) (k : IntKind) (n : Int) : xy Tryd.prog 54 (.sl 4 xs) (.val (.int k n)) = if 0 ≤ n then (xs[n.toNat]?).map fun z => .ptr z 0 else none := xyc _ xvi xpn xs k n
theorem ap_54 (V : Nat → Option AO) (s x : AV) (new : Nat) : xsd Tryd.prog 54 V s x new = appK 32 81 4 new (oldsOf V s 81 4) (newsOf V x 4) := xsj _ V xvi xpn x1u x5v rfl s x new
theorem bS_54 (len : Nat) (parts : Array (Nat × Operand)) (V : Nat → Option AO) (new : Nat) (ρ : Operand → AV) : evalOp Tryd.prog (.buildSlice 54 len parts) V new ρ = if len * 4 ≤ 16777216 then (setsA 4 (List.replicate len (.agg [.val (.int .i64 0), .val (.int .i64 0), .val (.int .i64 0), .val (.int .i64 0)])) (parts.toList.map fun p => (p.1, ρ p.2))).map fun xs => (.msl new len, [(new, some (.row 81 4 xs))]) else none := by rw [xhh _ _ _ _ 54 len parts 81 xvi, xpn, x5v, xnf]; simp [xi, AV.one, Value.oneCell']
theorem lS_54 (sz : Nat) (xs : List AV) : x2b Tryd.prog 54 (.sl sz xs) = some (int xs.length) := len_sl _ xvi sz xs
theorem st_57 (V : Nat → Option AO) (l sz i off : Nat) (v : AV) : xpb Tryd.prog 57 V (.loc l sz i off) v = if xi v 4 = true then (rowT (V l) sz i).bind fun p => (stAV p.2.2 off v).map fun x' => [(l, some (.row p.1 sz (p.2.1.set i x')))] else none := xmc _ xvb V l sz i off v
theorem al_57 (V : Nat → Option AO) (new : Nat) (ρ : Operand → AV) : evalOp Tryd.prog (.alloc 57) V new ρ = some (.loc new 4 0 0, [(new, some (.row 57 4 [.agg [.val (.int .i64 0), .val (.int .i64 0), .val (.int .i64 0), .val (.int .i64 0)]]))]) := by rw [xdg, xvb, xy3, xcd]; rfl
theorem lay_57 : layOf Tryd.prog 57 = some ([.val (.int .i64 0), .val (.int .i64 0), .val (.int .i64 0), .val (.int .i64 0)], .arr 1) := by kernel_rfl
theorem bd_57 (parts : List (Nat × AV)) : xub Tryd.prog 57 parts = (fillA (fun i => some (i * 1, 1)) [.val (.int .i64 0), .val (.int .i64 0), .val (.int .i64 0), .val (.int .i64 0)] parts).map .agg := by simp only [xub, lay_57]; rfl
theorem iL_57 (l sz i off : Nat) (k : IntKind) (n : Int) : xy Tryd.prog 57 (.loc l sz i off) (.val (.int k n)) = if 0 ≤ n ∧ n < (4 : Nat) then some (.loc l sz i (off + n.toNat * 1)) else none := xck _ x3x xez aggN_3 l sz i off k n
theorem ld_58 (y : AV) (off : Nat) : evalLd Tryd.prog 58 y off = ldAgg y off 12 := ld_agg _ xcr y off
theorem st_58 (V : Nat → Option AO) (l sz i off : Nat) (v : AV) : xpb Tryd.prog 58 V (.loc l sz i off) v = if xi v 12 = true then (rowT (V l) sz i).bind fun p => (stAV p.2.2 off v).map fun x' => [(l, some (.row p.1 sz (p.2.1.set i x')))] else none := xmc _ xcr V l sz i off v
theorem al_58 (V : Nat → Option AO) (new : Nat) (ρ : Operand → AV) : evalOp Tryd.prog (.alloc 58) V new ρ = some (.loc new 12 0 0, [(new, some (.row 58 12 [.agg [.val (.int .i64 0), .val (.int .i64 0), .val (.int .i64 0), .val (.int .i64 0), .val (.int .i64 0), .val (.int .i64 0), .val (.int .i64 0), .val (.int .i64 0), .val (.int .i64 0), .val (.int .i64 0), .val (.int .i64 0), .val (.int .i64 0)]]))]) := by rw [xdg, xcr, x83, xcd]; rfl
theorem lay_58 : layOf Tryd.prog 58 = some ([.val (.int .i64 0), .val (.int .i64 0), .val (.int .i64 0), .val (.int .i64 0), .val (.int .i64 0), .val (.int .i64 0), .val (.int .i64 0), .val (.int .i64 0), .val (.int .i64 0), .val (.int .i64 0), .val (.int .i64 0), .val (.int .i64 0)], .arr 4) := by kernel_rfl
theorem bd_58 (parts : List (Nat × AV)) : xub Tryd.prog 58 parts = (fillA (fun i => some (i * 4, 4)) [.val (.int .i64 0), .val (.int .i64 0), .val (.int .i64 0), .val (.int .i64 0), .val (.int .i64 0), .val (.int .i64 0), .val (.int .i64 0), .val (.int .i64 0), .val (.int .i64 0), .val (.int .i64 0), .val (.int .i64 0), .val (.int .i64 0)] parts).map .agg := by simp only [xub, lay_58]; rfl
theorem al_63 (V : Nat → Option AO) (new : Nat) (ρ : Operand → AV) : evalOp Tryd.prog (.alloc 63) V new ρ = some (.loc new 3 0 0, [(new, some (.row 63 3 [.agg [.val (.int .i64 0), .val (.int .i64 0), .val (.int .i64 0)]]))]) := by rw [xdg, xf4, x44, xcd]; rfl
theorem iL_63 (l sz i off : Nat) (k : IntKind) (n : Int) : xy Tryd.prog 63 (.loc l sz i off) (.val (.int k n)) = if 0 ≤ n ∧ n < (3 : Nat) then some (.loc l sz i (off + n.toNat * 1)) else none := xck _ xax xlz aggN_3 l sz i off k n
theorem ld_81 (y : AV) (off : Nat) : evalLd Tryd.prog 81 y off = ldAgg y off 4 := ld_agg _ xpn y off
theorem lay_81 : layOf Tryd.prog 81 = some ([.val (.int .i64 0), .val (.int .i64 0), .val (.int .i64 0), .val (.int .i64 0)], .str [(0, 1), (1, 1), (2, 1), (3, 1)]) := by kernel_rfl
theorem bd_81 (parts : List (Nat × AV)) : xub Tryd.prog 81 parts = (fillA (fun i => [(0, 1), (1, 1), (2, 1), (3, 1)][i]?) [.val (.int .i64 0), .val (.int .i64 0), .val (.int .i64 0), .val (.int .i64 0)] parts).map .agg := by simp only [xub, lay_81]; rfl
theorem ld_82 (y : AV) (off : Nat) : evalLd Tryd.prog 82 y off = ldOne y off := ld_one _ xqn y off
theorem st_82 (V : Nat → Option AO) (l sz i off : Nat) (v : AV) : xpb Tryd.prog 82 V (.loc l sz i off) v = if xi v 1 = true then (rowT (V l) sz i).bind fun p => (stAV p.2.2 off v).map fun x' => [(l, some (.row p.1 sz (p.2.1.set i x')))] else none := xmc _ xqn V l sz i off v
theorem al_82 (V : Nat → Option AO) (new : Nat) (ρ : Operand → AV) : evalOp Tryd.prog (.alloc 82) V new ρ = some (.loc new 1 0 0, [(new, some (.row 82 1 [.val (.slice none 0 0)]))]) := by rw [xdg, xqn, x94, xcd]; rfl
theorem iS_82 (xs : List AV) (k : IntKind) (n : Int) : xy Tryd.prog 82 (.sl 1 xs) (.val (.int k n)) = if 0 ≤ n then (xs[n.toNat]?).map fun z => .ptr z 0 else none := xyc _ xsi aggN_4 xs k n
theorem iM_82 (l len : Nat) (k : IntKind) (n : Int) : xy Tryd.prog 82 (.msl l len) (.val (.int k n)) = if 0 ≤ n ∧ n < len then some (.loc l 1 n.toNat 0) else none := xii _ xsi aggN_4 l len k n
theorem mk_82 (ka kb : IntKind) (a c : Int) (new : Nat) : x1c Tryd.prog 82 (.val (.int ka a)) (.val (.int kb c)) new = if 0 ≤ a ∧ a ≤ c ∧ (1 : Int) * c ≤ 281474976710656 ∧ c ≤ 9223372036854775807 then some (.msl new a.toNat, [(new, some (.row 4 1 (List.replicate a.toNat (.val (.bool false)))))]) else none := by have h := x1t _ xsi aggN_4 xhw zero_4 rfl ka kb a c new; exact h
theorem lM_82 (l n : Nat) : x2b Tryd.prog 82 (.msl l n) = some (int n) := xrv _ xsi l n
theorem ld_84 (y : AV) (off : Nat) : evalLd Tryd.prog 84 y off = ldAgg y off 7 := ld_agg _ xnn y off
theorem st_84 (V : Nat → Option AO) (l sz i off : Nat) (v : AV) : xpb Tryd.prog 84 V (.loc l sz i off) v = if xi v 7 = true then (rowT (V l) sz i).bind fun p => (stAV p.2.2 off v).map fun x' => [(l, some (.row p.1 sz (p.2.1.set i x')))] else none := xmc _ xnn V l sz i off v
theorem bx_84 (x : Operand) (V : Nat → Option AO) (new : Nat) (ρ : Operand → AV) : evalOp Tryd.prog (.box 84 x) V new ρ = if xi (ρ x) 7 = true then some (.loc new 7 0 0, [(new, some (.row 84 7 [ρ x]))]) else none := by rw [E_box, xnn, xwd]
theorem al_84 (V : Nat → Option AO) (new : Nat) (ρ : Operand → AV) : evalOp Tryd.prog (.alloc 84) V new ρ = some (.loc new 7 0 0, [(new, some (.row 84 7 [.agg [.val (.int .i64 0), .val (.int .i64 0), .val (.int .i64 0), .val (.int .i64 0), .val (.slice none 0 0), .val (.slice none 0 0), .val (.slice none 0 0)]]))]) := by rw [xdg, xnn, x04, xcd]; rfl
theorem xi5 (l sz i off : Nat) : xe Tryd.prog 84 0 (.loc l sz i off) = some (.loc l sz i (off + 0)) := xr _ xbt xtq (by decide) l sz i off
theorem x64 (l sz i off : Nat) : xe Tryd.prog 84 1 (.loc l sz i off) = some (.loc l sz i (off + 6)) := xr _ xot xqn (by decide) l sz i off
theorem iS_128 (xs : List AV) (k : IntKind) (n : Int) : xy Tryd.prog 128 (.sl 1 xs) (.val (.int k n)) = if 0 ≤ n then (xs[n.toNat]?).map fun z => .ptr z 0 else none := xyc _ x8n aggN_3 xs k n
theorem lS_128 (sz : Nat) (xs : List AV) : x2b Tryd.prog 128 (.sl sz xs) = some (int xs.length) := len_sl _ x8n sz xs
theorem ld_129 (y : AV) (off : Nat) : evalLd Tryd.prog 129 y off = ldOne y off := ld_one _ xjt y off
theorem bx_129 (x : Operand) (V : Nat → Option AO) (new : Nat) (ρ : Operand → AV) : evalOp Tryd.prog (.box 129 x) V new ρ = if xi (ρ x) 1 = true then some (.loc new 1 0 0, [(new, some (.row 129 1 [ρ x]))]) else none := by rw [E_box, xjt, xwd]
theorem ld_146 (y : AV) (off : Nat) : evalLd Tryd.prog 146 y off = ldOne y off := ld_one _ xft y off
theorem x2r : mapOf Tryd.prog 146 = some (.int .i64, 3) := by kernel_rfl
theorem lk_146 (V : Nat → Option AO) (c : Bool) (l : Nat) (kv : Value) : xdd Tryd.prog 146 c V (.mp l) (.val kv) = lookK c (.int .i64) (zeroOf Tryd.prog 3) kv (V l) := xi6 _ V x2r c l kv
theorem mu_146 (V : Nat → Option AO) (l : Nat) (kv : Value) (x : AV) : x4c Tryd.prog 146 V (.mp l) (.val kv) x = mupdK (.int .i64) kv x l (V l) := x93 _ V x2r l kv x
theorem mm_146 (new : Nat) : xkf Tryd.prog 146 new = some (.mp new, [(new, some (.map [] []))]) := by kernel_rfl
theorem ld_147 (y : AV) (off : Nat) : evalLd Tryd.prog 147 y off = ldOne y off := ld_one _ xyk y off
theorem st_147 (V : Nat → Option AO) (l sz i off : Nat) (v : AV) : xpb Tryd.prog 147 V (.loc l sz i off) v = if xi v 1 = true then (rowT (V l) sz i).bind fun p => (stAV p.2.2 off v).map fun x' => [(l, some (.row p.1 sz (p.2.1.set i x')))] else none := xmc _ xyk V l sz i off v
theorem iS_147 (xs : List AV) (k : IntKind) (n : Int) : xy Tryd.prog 147 (.sl 3 xs) (.val (.int k n)) = if 0 ≤ n then (xs[n.toNat]?).map fun z => .ptr z 0 else none := xyc _ xof x2f xs k n
theorem iM_147 (l len : Nat) (k : IntKind) (n : Int) : xy Tryd.prog 147 (.msl l len) (.val (.int k n)) = if 0 ≤ n ∧ n < len then some (.loc l 3 n.toNat 0) else none := xii _ xof x2f l len k n
theorem ap_147 (V : Nat → Option AO) (s x : AV) (new : Nat) : xsd Tryd.prog 147 V s x new = appK 32 153 3 new (oldsOf V s 153 3) (newsOf V x 3) := xsj _ V xof x2f xxt x2o rfl s x new
theorem bS_147 (len : Nat) (parts : Array (Nat × Operand)) (V : Nat → Option AO) (new : Nat) (ρ : Operand → AV) : evalOp Tryd.prog (.buildSlice 147 len parts) V new ρ = if len * 3 ≤ 16777216 then (setsA 3 (List.replicate len (.agg [.val (.int .i64 0), .val (.int .i64 0), .val (.string ⟨#[]⟩)])) (parts.toList.map fun p => (p.1, ρ p.2))).map fun xs => (.msl new len, [(new, some (.row 153 3 xs))]) else none := by rw [xhh _ _ _ _ 147 len parts 153 xof, x2f, x2o, xnf]; simp [xi, AV.one, Value.oneCell']
theorem lS_147 (sz : Nat) (xs : List AV) : x2b Tryd.prog 147 (.sl sz xs) = some (int xs.length) := len_sl _ xof sz xs
theorem lM_147 (l n : Nat) : x2b Tryd.prog 147 (.msl l n) = some (int n) := xrv _ xof l n
theorem ld_148 (y : AV) (off : Nat) : evalLd Tryd.prog 148 y off = ldOne y off := ld_one _ xro y off
theorem st_148 (V : Nat → Option AO) (l sz i off : Nat) (v : AV) : xpb Tryd.prog 148 V (.loc l sz i off) v = if xi v 1 = true then (rowT (V l) sz i).bind fun p => (stAV p.2.2 off v).map fun x' => [(l, some (.row p.1 sz (p.2.1.set i x')))] else none := xmc _ xro V l sz i off v
theorem ap_148 (V : Nat → Option AO) (s x : AV) (new : Nat) : xsd Tryd.prog 148 V s x new = appK 16 162 2 new (oldsOf V s 162 2) (newsOf V x 2) := xsj _ V x9n x7t x6t x0t rfl s x new
theorem bS_148 (len : Nat) (parts : Array (Nat × Operand)) (V : Nat → Option AO) (new : Nat) (ρ : Operand → AV) : evalOp Tryd.prog (.buildSlice 148 len parts) V new ρ = if len * 2 ≤ 16777216 then (setsA 2 (List.replicate len (.agg [.val (.int .i64 0), .val (.int .i64 0)])) (parts.toList.map fun p => (p.1, ρ p.2))).map fun xs => (.msl new len, [(new, some (.row 162 2 xs))]) else none := by rw [xhh _ _ _ _ 148 len parts 162 x9n, x7t, x0t, xnf]; simp [xi, AV.one, Value.oneCell']
theorem bx_150 (x : Operand) (V : Nat → Option AO) (new : Nat) (ρ : Operand → AV) : evalOp Tryd.prog (.box 150 x) V new ρ = if xi (ρ x) 4 = true then some (.loc new 4 0 0, [(new, some (.row 150 4 [ρ x]))]) else none := by rw [E_box, xw1, xwd]
theorem x00 (l sz i off : Nat) : xe Tryd.prog 150 0 (.loc l sz i off) = some (.loc l sz i (off + 0)) := xr _ xgl xzh (by decide) l sz i off
theorem xe2 (y : AV) (off : Nat) : xe Tryd.prog 150 0 (.ptr y off) = some (.ptr y (off + 0)) := x6d _ xgl xzh (by decide) y off
theorem x81 (l sz i off : Nat) : xe Tryd.prog 150 1 (.loc l sz i off) = some (.loc l sz i (off + 1)) := xr _ xol xyk (by decide) l sz i off
theorem x72 (y : AV) (off : Nat) : xe Tryd.prog 150 1 (.ptr y off) = some (.ptr y (off + 1)) := x6d _ xol xyk (by decide) y off
theorem xq1 (l sz i off : Nat) : xe Tryd.prog 150 2 (.loc l sz i off) = some (.loc l sz i (off + 2)) := xr _ xps xft (by decide) l sz i off
theorem xq2 (l sz i off : Nat) : xe Tryd.prog 150 3 (.loc l sz i off) = some (.loc l sz i (off + 3)) := xr _ xws xro (by decide) l sz i off
theorem x13 : layOf Tryd.prog 150 = some ([.val (.slice none 0 0), .val (.slice none 0 0), .val (.map none), .val (.slice none 0 0)], .str [(0, 1), (1, 1), (2, 1), (3, 1)]) := by kernel_rfl
theorem bd_150 (parts : List (Nat × AV)) : xub Tryd.prog 150 parts = (fillA (fun i => [(0, 1), (1, 1), (2, 1), (3, 1)][i]?) [.val (.slice none 0 0), .val (.slice none 0 0), .val (.map none), .val (.slice none 0 0)] parts).map .agg := by simp only [xub, x13]; rfl
theorem ld_153 (y : AV) (off : Nat) : evalLd Tryd.prog 153 y off = ldAgg y off 3 := ld_agg _ x2f y off
theorem st_153 (V : Nat → Option AO) (l sz i off : Nat) (v : AV) : xpb Tryd.prog 153 V (.loc l sz i off) v = if xi v 3 = true then (rowT (V l) sz i).bind fun p => (stAV p.2.2 off v).map fun x' => [(l, some (.row p.1 sz (p.2.1.set i x')))] else none := xmc _ x2f V l sz i off v
theorem bx_153 (x : Operand) (V : Nat → Option AO) (new : Nat) (ρ : Operand → AV) : evalOp Tryd.prog (.box 153 x) V new ρ = if xi (ρ x) 3 = true then some (.loc new 3 0 0, [(new, some (.row 153 3 [ρ x]))]) else none := by rw [E_box, x2f, xwd]
theorem al_153 (V : Nat → Option AO) (new : Nat) (ρ : Operand → AV) : evalOp Tryd.prog (.alloc 153) V new ρ = some (.loc new 3 0 0, [(new, some (.row 153 3 [.agg [.val (.int .i64 0), .val (.int .i64 0), .val (.string ⟨#[]⟩)]]))]) := by rw [xdg, x2f, x2o, xcd]; rfl
theorem xb3 (l sz i off : Nat) : xe Tryd.prog 153 0 (.loc l sz i off) = some (.loc l sz i (off + 0)) := xr _ xss aggN_3 (by decide) l sz i off
theorem xr5 : layOf Tryd.prog 153 = some ([.val (.int .i64 0), .val (.int .i64 0), .val (.string ⟨#[]⟩)], .str [(0, 1), (1, 1), (2, 1)]) := by kernel_rfl
theorem bd_153 (parts : List (Nat × AV)) : xub Tryd.prog 153 parts = (fillA (fun i => [(0, 1), (1, 1), (2, 1)][i]?) [.val (.int .i64 0), .val (.int .i64 0), .val (.string ⟨#[]⟩)] parts).map .agg := by simp only [xub, xr5]; rfl
theorem xl5 : layOf Tryd.prog 162 = some ([.val (.int .i64 0), .val (.int .i64 0)], .arr 1) := by kernel_rfl
theorem bd_162 (parts : List (Nat × AV)) : xub Tryd.prog 162 parts = (fillA (fun i => some (i * 1, 1)) [.val (.int .i64 0), .val (.int .i64 0)] parts).map .agg := by simp only [xub, xl5]; rfl
end Go.Proofs.YtefdlpandfhcgaaDoor.AL

