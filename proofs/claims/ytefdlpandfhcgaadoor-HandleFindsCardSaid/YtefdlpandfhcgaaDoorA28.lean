/- A law of the given program is proved: part 28 of 50. -/
import Derived.Test.YtefdlpandfhcgaaDoorA27
set_option linter.all false
/- AL: the evaluator's rules with the facts of this seat's types, printed by rules.py. -/
set_option linter.unusedSimpArgs false
set_option linter.unusedVariables false
namespace Go.Proofs.YtefdlpandfhcgaaDoor.AL
open Go Go.Proofs
set_option maxRecDepth 100000
theorem mixed : Tryd.prog.follows .mixedOrders = true := by kernel_rfl
theorem xrz : zeroOf Tryd.prog 23 = some (.agg [.val (.int .i64 0), .val (.int .i64 0), .val (.int .i64 0)]) := by kernel_rfl
theorem xyz : zeroOf Tryd.prog 44 = some (.agg [.val (.int .i64 0), .val (.int .i64 0), .val (.int .i64 0), .val (.int .i64 0), .val (.slice none 0 0), .val (.slice none 0 0), .val (.int .i64 0), .val (.int .i64 0), .val (.string ⟨#[]⟩), .val (.int .i64 0), .val (.int .i64 0), .val (.int .i64 0), .val (.int .i64 0)]) := by kernel_rfl
theorem x7z : zeroOf Tryd.prog 51 = some (.agg [.val (.int .i64 0), .val (.int .i64 0), .val (.string ⟨#[]⟩)]) := by kernel_rfl
theorem xp0 : zeroOf Tryd.prog 57 = some (.agg [.val (.int .i64 0), .val (.int .i64 0), .val (.int .i64 0), .val (.int .i64 0)]) := by kernel_rfl
theorem xy0 : zeroOf Tryd.prog 58 = some (.agg [.val (.int .i64 0), .val (.int .i64 0), .val (.int .i64 0), .val (.int .i64 0), .val (.int .i64 0), .val (.int .i64 0), .val (.int .i64 0), .val (.int .i64 0), .val (.int .i64 0), .val (.int .i64 0), .val (.int .i64 0), .val (.int .i64 0)]) := by kernel_rfl
theorem x1z : zeroOf Tryd.prog 63 = some (.agg [.val (.int .i64 0), .val (.int .i64 0), .val (.int .i64 0)]) := by kernel_rfl
theorem ld_1 (y : AV) (off : Nat) : evalLd Tryd.prog 1 y off = ldOne y off := ld_one _ aggN_1 y off
theorem ld_2 (y : AV) (off : Nat) : evalLd Tryd.prog 2 y off = ldOne y off := ld_one _ aggN_2 y off
theorem ld_3 (y : AV) (off : Nat) : evalLd Tryd.prog 3 y off = ldOne y off := ld_one _ aggN_3 y off
theorem st_3 (V : Nat → Option AO) (l sz i off : Nat) (v : AV) : xec Tryd.prog 3 V (.loc l sz i off) v = if xo v 1 = true then (rowT (V l) sz i).bind fun p => (stAV p.2.2 off v).map fun x' => [(l, some (.row p.1 sz (p.2.1.set i x')))] else none := xhf _ aggN_3 V l sz i off v
theorem bx_3 (x : Operand) (V : Nat → Option AO) (new : Nat) (ρ : Operand → AV) : evalOp Tryd.prog (.box 3 x) V new ρ = if xo (ρ x) 1 = true then some (.loc new 1 0 0, [(new, some (.row 3 1 [ρ x]))]) else none := by rw [E_box, aggN_3, xff]
theorem st_4 (V : Nat → Option AO) (l sz i off : Nat) (v : AV) : xec Tryd.prog 4 V (.loc l sz i off) v = if xo v 1 = true then (rowT (V l) sz i).bind fun p => (stAV p.2.2 off v).map fun x' => [(l, some (.row p.1 sz (p.2.1.set i x')))] else none := xhf _ aggN_4 V l sz i off v
theorem bq_4 (a b : Bool) : binK Tryd.prog .eql 4 (bool a) (bool b) = brR (a == b) := xzy x1p a b
theorem bn_4 (a b : Bool) : binK Tryd.prog .neq 4 (bool a) (bool b) = brR (!(a == b)) := x0w x1p a b
theorem ld_5 (y : AV) (off : Nat) : evalLd Tryd.prog 5 y off = ldOne y off := ld_one _ aggN_5 y off
theorem ld_9 (y : AV) (off : Nat) : evalLd Tryd.prog 9 y off = ldOne y off := ld_one _ aggN_9 y off
theorem lB_9 (s : ByteArray) : xpc Tryd.prog 9 (.val (.string s)) = some (int s.size) := xxz _ xaq s
theorem iB_9 (s : ByteArray) (k : IntKind) (n : Int) : xf Tryd.prog 9 (.val (.string s)) (.val (.int k n)) = if 0 ≤ n then (s[n.toNat]?).map fun b => u8 b else none := x0v _ xaq s k n
theorem ld_23 (y : AV) (off : Nat) : evalLd Tryd.prog 23 y off = ldAgg y off 3 := ld_agg _ xel y off
theorem st_23 (V : Nat → Option AO) (l sz i off : Nat) (v : AV) : xec Tryd.prog 23 V (.loc l sz i off) v = if xo v 3 = true then (rowT (V l) sz i).bind fun p => (stAV p.2.2 off v).map fun x' => [(l, some (.row p.1 sz (p.2.1.set i x')))] else none := xhf _ xel V l sz i off v
theorem bx_23 (x : Operand) (V : Nat → Option AO) (new : Nat) (ρ : Operand → AV) : evalOp Tryd.prog (.box 23 x) V new ρ = if xo (ρ x) 3 = true then some (.loc new 3 0 0, [(new, some (.row 23 3 [ρ x]))]) else none := by rw [E_box, xel, xff]
theorem al_23 (V : Nat → Option AO) (new : Nat) (ρ : Operand → AV) : evalOp Tryd.prog (.alloc 23) V new ρ = some (.loc new 3 0 0, [(new, some (.row 23 3 [.agg [.val (.int .i64 0), .val (.int .i64 0), .val (.int .i64 0)]]))]) := by rw [xbh, xel, xrz, xxe]; rfl
theorem xc0 (l sz i off : Nat) : xj Tryd.prog 23 0 (.loc l sz i off) = some (.loc l sz i (off + 0)) := xx _ x0d aggN_3 (by decide) l sz i off
theorem xf1 (l sz i off : Nat) : xj Tryd.prog 23 1 (.loc l sz i off) = some (.loc l sz i (off + 1)) := xx _ xsk aggN_3 (by decide) l sz i off
theorem xkz (l sz i off : Nat) : xj Tryd.prog 23 2 (.loc l sz i off) = some (.loc l sz i (off + 2)) := xx _ xyk aggN_3 (by decide) l sz i off
theorem lay_23 : layOf Tryd.prog 23 = some ([.val (.int .i64 0), .val (.int .i64 0), .val (.int .i64 0)], .str [(0, 1), (1, 1), (2, 1)]) := by kernel_rfl
theorem bd_23 (parts : List (Nat × AV)) : xdc Tryd.prog 23 parts = (fillA (fun i => [(0, 1), (1, 1), (2, 1)][i]?) [.val (.int .i64 0), .val (.int .i64 0), .val (.int .i64 0)] parts).map .agg := by simp only [xdc, lay_23]; rfl
theorem ld_32 (y : AV) (off : Nat) : evalLd Tryd.prog 32 y off = ldOne y off := ld_one _ xon y off
theorem iS_32 (xs : List AV) (k : IntKind) (n : Int) : xhb Tryd.prog 32 (.sl 13 xs) (.val (.int k n)) = if 0 ≤ n then (xs[n.toNat]?).map fun z => .ptr z 0 else none := xcf _ x7i xeh xs k n
theorem lS_32 (sz : Nat) (xs : List AV) : xpc Tryd.prog 32 (.sl sz xs) = some (int xs.length) := len_sl _ x7i sz xs
theorem ld_34 (y : AV) (off : Nat) : evalLd Tryd.prog 34 y off = ldAgg y off 1 := ld_agg _ xoi y off
theorem bx_34 (x : Operand) (V : Nat → Option AO) (new : Nat) (ρ : Operand → AV) : evalOp Tryd.prog (.box 34 x) V new ρ = if xo (ρ x) 1 = true then some (.loc new 1 0 0, [(new, some (.row 34 1 [ρ x]))]) else none := by rw [E_box, xoi, xff]
theorem xw0 (l sz i off : Nat) : xj Tryd.prog 34 0 (.loc l sz i off) = some (.loc l sz i (off + 0)) := xx _ x8f xon (by decide) l sz i off
theorem xhz (y : AV) (off : Nat) : xj Tryd.prog 34 0 (.ptr y off) = some (.ptr y (off + 0)) := x1g _ x8f xon (by decide) y off
theorem ld_35 (y : AV) (off : Nat) : evalLd Tryd.prog 35 y off = ldOne y off := ld_one _ xhs y off
theorem iS_35 (xs : List AV) (k : IntKind) (n : Int) : xhb Tryd.prog 35 (.sl 1 xs) (.val (.int k n)) = if 0 ≤ n then (xs[n.toNat]?).map fun z => .ptr z 0 else none := xcf _ xaj xoi xs k n
theorem lS_35 (sz : Nat) (xs : List AV) : xpc Tryd.prog 35 (.sl sz xs) = some (int xs.length) := len_sl _ xaj sz xs
theorem ld_37 (y : AV) (off : Nat) : evalLd Tryd.prog 37 y off = ldAgg y off 6 := ld_agg _ xis y off
theorem bx_37 (x : Operand) (V : Nat → Option AO) (new : Nat) (ρ : Operand → AV) : evalOp Tryd.prog (.box 37 x) V new ρ = if xo (ρ x) 6 = true then some (.loc new 6 0 0, [(new, some (.row 37 6 [ρ x]))]) else none := by rw [E_box, xis, xff]
theorem xqz (l sz i off : Nat) : xj Tryd.prog 37 1 (.loc l sz i off) = some (.loc l sz i (off + 4)) := xx _ xal xoi (by decide) l sz i off
theorem x5y (l sz i off : Nat) : xj Tryd.prog 37 2 (.loc l sz i off) = some (.loc l sz i (off + 5)) := xx _ x6k xhs (by decide) l sz i off
theorem ld_39 (y : AV) (off : Nat) : evalLd Tryd.prog 39 y off = ldOne y off := ld_one _ x9r y off
theorem iS_39 (xs : List AV) (k : IntKind) (n : Int) : xhb Tryd.prog 39 (.sl 1 xs) (.val (.int k n)) = if 0 ≤ n then (xs[n.toNat]?).map fun z => .ptr z 0 else none := xcf _ x7m aggN_5 xs k n
theorem lS_39 (sz : Nat) (xs : List AV) : xpc Tryd.prog 39 (.sl sz xs) = some (int xs.length) := len_sl _ x7m sz xs
theorem ld_40 (y : AV) (off : Nat) : evalLd Tryd.prog 40 y off = ldOne y off := ld_one _ x4n y off
theorem iS_40 (xs : List AV) (k : IntKind) (n : Int) : xhb Tryd.prog 40 (.sl 3 xs) (.val (.int k n)) = if 0 ≤ n then (xs[n.toNat]?).map fun z => .ptr z 0 else none := xcf _ xah xdh xs k n
theorem lS_40 (sz : Nat) (xs : List AV) : xpc Tryd.prog 40 (.sl sz xs) = some (int xs.length) := len_sl _ xah sz xs
theorem lN_40  : xpc Tryd.prog 40 nilS = some (int 0) := x6z _ xah
theorem ld_42 (y : AV) (off : Nat) : evalLd Tryd.prog 42 y off = ldAgg y off 7 := ld_agg _ xds y off
theorem xdz (l sz i off : Nat) : xj Tryd.prog 42 0 (.loc l sz i off) = some (.loc l sz i (off + 0)) := xx _ xoh aggN_3 (by decide) l sz i off
theorem xh1 (l sz i off : Nat) : xj Tryd.prog 42 2 (.loc l sz i off) = some (.loc l sz i (off + 2)) := xx _ xuk aggN_9 (by decide) l sz i off
theorem ld_44 (y : AV) (off : Nat) : evalLd Tryd.prog 44 y off = ldAgg y off 13 := ld_agg _ xeh y off
theorem st_44 (V : Nat → Option AO) (l sz i off : Nat) (v : AV) : xec Tryd.prog 44 V (.loc l sz i off) v = if xo v 13 = true then (rowT (V l) sz i).bind fun p => (stAV p.2.2 off v).map fun x' => [(l, some (.row p.1 sz (p.2.1.set i x')))] else none := xhf _ xeh V l sz i off v
theorem bx_44 (x : Operand) (V : Nat → Option AO) (new : Nat) (ρ : Operand → AV) : evalOp Tryd.prog (.box 44 x) V new ρ = if xo (ρ x) 13 = true then some (.loc new 13 0 0, [(new, some (.row 44 13 [ρ x]))]) else none := by rw [E_box, xeh, xff]
theorem al_44 (V : Nat → Option AO) (new : Nat) (ρ : Operand → AV) : evalOp Tryd.prog (.alloc 44) V new ρ = some (.loc new 13 0 0, [(new, some (.row 44 13 [.agg [.val (.int .i64 0), .val (.int .i64 0), .val (.int .i64 0), .val (.int .i64 0), .val (.slice none 0 0), .val (.slice none 0 0), .val (.int .i64 0), .val (.int .i64 0), .val (.string ⟨#[]⟩), .val (.int .i64 0), .val (.int .i64 0), .val (.int .i64 0), .val (.int .i64 0)]]))]) := by rw [xbh, xeh, xyz, xxe]; rfl
theorem xuz (l sz i off : Nat) : xj Tryd.prog 44 0 (.loc l sz i off) = some (.loc l sz i (off + 0)) := xx _ xhg aggN_3 (by decide) l sz i off
theorem xn0 (x : AV) : xce Tryd.prog 44 0 x = partO 0 x := xuo xhg aggN_3 x
theorem xt0 (l sz i off : Nat) : xj Tryd.prog 44 1 (.loc l sz i off) = some (.loc l sz i (off + 1)) := xx _ xqk aggN_3 (by decide) l sz i off
theorem xr0 (l sz i off : Nat) : xj Tryd.prog 44 2 (.loc l sz i off) = some (.loc l sz i (off + 2)) := xx _ xlk aggN_3 (by decide) l sz i off
theorem x00 (l sz i off : Nat) : xj Tryd.prog 44 3 (.loc l sz i off) = some (.loc l sz i (off + 3)) := xx _ xvk aggN_3 (by decide) l sz i off
theorem xoz (l sz i off : Nat) : xj Tryd.prog 44 4 (.loc l sz i off) = some (.loc l sz i (off + 4)) := xx _ x8k x9r (by decide) l sz i off
theorem xq0 (l sz i off : Nat) : xj Tryd.prog 44 5 (.loc l sz i off) = some (.loc l sz i (off + 5)) := xx _ xnh x4n (by decide) l sz i off
theorem x2z (x : AV) : xce Tryd.prog 44 5 x = partO 5 x := xuo xnh x4n x
theorem xg0 (l sz i off : Nat) : xj Tryd.prog 44 6 (.loc l sz i off) = some (.loc l sz i (off + 6)) := xx _ xpk xds (by decide) l sz i off
theorem lay_44 : layOf Tryd.prog 44 = some ([.val (.int .i64 0), .val (.int .i64 0), .val (.int .i64 0), .val (.int .i64 0), .val (.slice none 0 0), .val (.slice none 0 0), .val (.int .i64 0), .val (.int .i64 0), .val (.string ⟨#[]⟩), .val (.int .i64 0), .val (.int .i64 0), .val (.int .i64 0), .val (.int .i64 0)], .str [(0, 1), (1, 1), (2, 1), (3, 1), (4, 1), (5, 1), (6, 7)]) := by kernel_rfl
theorem bd_44 (parts : List (Nat × AV)) : xdc Tryd.prog 44 parts = (fillA (fun i => [(0, 1), (1, 1), (2, 1), (3, 1), (4, 1), (5, 1), (6, 7)][i]?) [.val (.int .i64 0), .val (.int .i64 0), .val (.int .i64 0), .val (.int .i64 0), .val (.slice none 0 0), .val (.slice none 0 0), .val (.int .i64 0), .val (.int .i64 0), .val (.string ⟨#[]⟩), .val (.int .i64 0), .val (.int .i64 0), .val (.int .i64 0), .val (.int .i64 0)] parts).map .agg := by simp only [xdc, lay_44]; rfl
theorem ld_51 (y : AV) (off : Nat) : evalLd Tryd.prog 51 y off = ldAgg y off 3 := ld_agg _ xdh y off
theorem st_51 (V : Nat → Option AO) (l sz i off : Nat) (v : AV) : xec Tryd.prog 51 V (.loc l sz i off) v = if xo v 3 = true then (rowT (V l) sz i).bind fun p => (stAV p.2.2 off v).map fun x' => [(l, some (.row p.1 sz (p.2.1.set i x')))] else none := xhf _ xdh V l sz i off v
theorem bx_51 (x : Operand) (V : Nat → Option AO) (new : Nat) (ρ : Operand → AV) : evalOp Tryd.prog (.box 51 x) V new ρ = if xo (ρ x) 3 = true then some (.loc new 3 0 0, [(new, some (.row 51 3 [ρ x]))]) else none := by rw [E_box, xdh, xff]
theorem al_51 (V : Nat → Option AO) (new : Nat) (ρ : Operand → AV) : evalOp Tryd.prog (.alloc 51) V new ρ = some (.loc new 3 0 0, [(new, some (.row 51 3 [.agg [.val (.int .i64 0), .val (.int .i64 0), .val (.string ⟨#[]⟩)]]))]) := by rw [xbh, xdh, x7z, xxe]; rfl
theorem xx0 (l sz i off : Nat) : xj Tryd.prog 51 0 (.loc l sz i off) = some (.loc l sz i (off + 0)) := xx _ xfg aggN_3 (by decide) l sz i off
theorem xwz (y : AV) (off : Nat) : xj Tryd.prog 51 0 (.ptr y off) = some (.ptr y (off + 0)) := x1g _ xfg aggN_3 (by decide) y off
theorem xj0 (l sz i off : Nat) : xj Tryd.prog 51 1 (.loc l sz i off) = some (.loc l sz i (off + 1)) := xx _ xph aggN_3 (by decide) l sz i off
theorem x7y (y : AV) (off : Nat) : xj Tryd.prog 51 1 (.ptr y off) = some (.ptr y (off + 1)) := x1g _ xph aggN_3 (by decide) y off
theorem xi1 (l sz i off : Nat) : xj Tryd.prog 51 2 (.loc l sz i off) = some (.loc l sz i (off + 2)) := xx _ x5k aggN_9 (by decide) l sz i off
theorem st_57 (V : Nat → Option AO) (l sz i off : Nat) (v : AV) : xec Tryd.prog 57 V (.loc l sz i off) v = if xo v 4 = true then (rowT (V l) sz i).bind fun p => (stAV p.2.2 off v).map fun x' => [(l, some (.row p.1 sz (p.2.1.set i x')))] else none := xhf _ xkb V l sz i off v
theorem al_57 (V : Nat → Option AO) (new : Nat) (ρ : Operand → AV) : evalOp Tryd.prog (.alloc 57) V new ρ = some (.loc new 4 0 0, [(new, some (.row 57 4 [.agg [.val (.int .i64 0), .val (.int .i64 0), .val (.int .i64 0), .val (.int .i64 0)]]))]) := by rw [xbh, xkb, xp0, xxe]; rfl
theorem lay_57 : layOf Tryd.prog 57 = some ([.val (.int .i64 0), .val (.int .i64 0), .val (.int .i64 0), .val (.int .i64 0)], .arr 1) := by kernel_rfl
theorem bd_57 (parts : List (Nat × AV)) : xdc Tryd.prog 57 parts = (fillA (fun i => some (i * 1, 1)) [.val (.int .i64 0), .val (.int .i64 0), .val (.int .i64 0), .val (.int .i64 0)] parts).map .agg := by simp only [xdc, lay_57]; rfl
theorem iL_57 (l sz i off : Nat) (k : IntKind) (n : Int) : xhb Tryd.prog 57 (.loc l sz i off) (.val (.int k n)) = if 0 ≤ n ∧ n < (4 : Nat) then some (.loc l sz i (off + n.toNat * 1)) else none := xxi _ x7s xjw aggN_3 l sz i off k n
theorem ld_58 (y : AV) (off : Nat) : evalLd Tryd.prog 58 y off = ldAgg y off 12 := ld_agg _ xun y off
theorem st_58 (V : Nat → Option AO) (l sz i off : Nat) (v : AV) : xec Tryd.prog 58 V (.loc l sz i off) v = if xo v 12 = true then (rowT (V l) sz i).bind fun p => (stAV p.2.2 off v).map fun x' => [(l, some (.row p.1 sz (p.2.1.set i x')))] else none := xhf _ xun V l sz i off v
theorem al_58 (V : Nat → Option AO) (new : Nat) (ρ : Operand → AV) : evalOp Tryd.prog (.alloc 58) V new ρ = some (.loc new 12 0 0, [(new, some (.row 58 12 [.agg [.val (.int .i64 0), .val (.int .i64 0), .val (.int .i64 0), .val (.int .i64 0), .val (.int .i64 0), .val (.int .i64 0), .val (.int .i64 0), .val (.int .i64 0), .val (.int .i64 0), .val (.int .i64 0), .val (.int .i64 0), .val (.int .i64 0)]]))]) := by rw [xbh, xun, xy0, xxe]; rfl
theorem lay_58 : layOf Tryd.prog 58 = some ([.val (.int .i64 0), .val (.int .i64 0), .val (.int .i64 0), .val (.int .i64 0), .val (.int .i64 0), .val (.int .i64 0), .val (.int .i64 0), .val (.int .i64 0), .val (.int .i64 0), .val (.int .i64 0), .val (.int .i64 0), .val (.int .i64 0)], .arr 4) := by kernel_rfl
theorem bd_58 (parts : List (Nat × AV)) : xdc Tryd.prog 58 parts = (fillA (fun i => some (i * 4, 4)) [.val (.int .i64 0), .val (.int .i64 0), .val (.int .i64 0), .val (.int .i64 0), .val (.int .i64 0), .val (.int .i64 0), .val (.int .i64 0), .val (.int .i64 0), .val (.int .i64 0), .val (.int .i64 0), .val (.int .i64 0), .val (.int .i64 0)] parts).map .agg := by simp only [xdc, lay_58]; rfl
theorem al_63 (V : Nat → Option AO) (new : Nat) (ρ : Operand → AV) : evalOp Tryd.prog (.alloc 63) V new ρ = some (.loc new 3 0 0, [(new, some (.row 63 3 [.agg [.val (.int .i64 0), .val (.int .i64 0), .val (.int .i64 0)]]))]) := by rw [xbh, xe0, x1z, xxe]; rfl
theorem iL_63 (l sz i off : Nat) (k : IntKind) (n : Int) : xhb Tryd.prog 63 (.loc l sz i off) (.val (.int k n)) = if 0 ≤ n ∧ n < (3 : Nat) then some (.loc l sz i (off + n.toNat * 1)) else none := xxi _ x9s xdu aggN_3 l sz i off k n
theorem bx_75 (x : Operand) (V : Nat → Option AO) (new : Nat) (ρ : Operand → AV) : evalOp Tryd.prog (.box 75 x) V new ρ = if xo (ρ x) 2 = true then some (.loc new 2 0 0, [(new, some (.row 75 2 [ρ x]))]) else none := by rw [E_box, xvz, xff]
theorem x8z (l sz i off : Nat) : xj Tryd.prog 75 0 (.loc l sz i off) = some (.loc l sz i (off + 0)) := xx _ xkq aggN_3 (by decide) l sz i off
theorem xi0 (l sz i off : Nat) : xj Tryd.prog 75 1 (.loc l sz i off) = some (.loc l sz i (off + 1)) := xx _ xqq aggN_3 (by decide) l sz i off
theorem lay_75 : layOf Tryd.prog 75 = some ([.val (.int .i64 0), .val (.int .i64 0)], .str [(0, 1), (1, 1)]) := by kernel_rfl
theorem bd_75 (parts : List (Nat × AV)) : xdc Tryd.prog 75 parts = (fillA (fun i => [(0, 1), (1, 1)][i]?) [.val (.int .i64 0), .val (.int .i64 0)] parts).map .agg := by simp only [xdc, lay_75]; rfl
end Go.Proofs.YtefdlpandfhcgaaDoor.AL

