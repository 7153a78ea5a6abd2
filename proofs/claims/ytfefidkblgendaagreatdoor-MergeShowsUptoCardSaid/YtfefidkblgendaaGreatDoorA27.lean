/- What any node of any stack should say of copies, and which say otherwise, is what the document says: part 27 of 51. -/
import Derived.Test.YtfefidkblgendaaGreatDoorA26
set_option linter.all false
/- AL: the evaluator's rules with the facts of this seat's types, printed by rules.py. -/
set_option linter.unusedSimpArgs false
set_option linter.unusedVariables false
namespace Go.Proofs.YtfefidkblgendaaGreatDoor.AL
open Go Go.Proofs
set_option maxRecDepth 100000
theorem mixed : Tryz.prog.follows .mixedOrders = true := by kernel_rfl
theorem zero_5 : zeroOf Tryz.prog 5 = some (.val (.int .u8 0)) := by kernel_rfl
theorem zero_9 : zeroOf Tryz.prog 9 = some (.val (.string ⟨#[]⟩)) := by kernel_rfl
theorem xwdb : zeroOf Tryz.prog 29 = some (.agg [.val (.int .i64 0), .val (.int .i64 0), .val (.int .i64 0), .val (.int .i64 0), .val (.slice none 0 0), .val (.slice none 0 0)]) := by kernel_rfl
theorem x3eb : zeroOf Tryz.prog 33 = some (.agg [.val (.int .i64 0), .val (.slice none 0 0), .val (.slice none 0 0)]) := by kernel_rfl
theorem xmdb : zeroOf Tryz.prog 42 = some (.agg [.val (.int .i64 0), .val (.slice none 0 0)]) := by kernel_rfl
theorem x9v : zeroOf Tryz.prog 44 = some (.agg [.val (.int .i64 0), .val (.int .i64 0)]) := by kernel_rfl
theorem xrfb : zeroOf Tryz.prog 61 = some (.agg [.val (.int .i64 0), .val (.slice none 0 0), .val (.int .i64 0), .val (.int .i64 0), .val (.int .i64 0)]) := by kernel_rfl
theorem xbeb : zeroOf Tryz.prog 71 = some (.agg [.val (.int .i64 0), .val (.int .i64 0), .val (.int .i64 0), .val (.int .i64 0), .val (.slice none 0 0), .val (.slice none 0 0), .val (.int .i64 0), .val (.int .i64 0), .val (.string ⟨#[]⟩), .val (.int .i64 0), .val (.int .i64 0), .val (.int .i64 0), .val (.int .i64 0)]) := by kernel_rfl
theorem xydb : zeroOf Tryz.prog 73 = some (.agg [.val (.int .i64 0), .val (.int .i64 0), .val (.int .i64 0), .val (.int .i64 0), .val (.slice none 0 0), .val (.slice none 0 0)]) := by kernel_rfl
theorem xtfb : zeroOf Tryz.prog 76 = some (.agg [.val (.int .i64 0), .val (.int .i64 0), .val (.string ⟨#[]⟩)]) := by kernel_rfl
theorem ld_1 (y : AV) (off : Nat) : evalLd Tryz.prog 1 y off = ldOne y off := ld_one _ aggN_1 y off
theorem ld_2 (y : AV) (off : Nat) : evalLd Tryz.prog 2 y off = ldOne y off := ld_one _ aggN_2 y off
theorem ld_3 (y : AV) (off : Nat) : evalLd Tryz.prog 3 y off = ldOne y off := ld_one _ aggN_3 y off
theorem st_3 (V : Nat → Option AO) (l sz i off : Nat) (v : AV) : xxb Tryz.prog 3 V (.loc l sz i off) v = if xj v 1 = true then (rowT (V l) sz i).bind fun p => (stAV p.2.2 off v).map fun x' => [(l, some (.row p.1 sz (p.2.1.set i x')))] else none := xyc _ aggN_3 V l sz i off v
theorem bx_3 (x : Operand) (V : Nat → Option AO) (new : Nat) (ρ : Operand → AV) : evalOp Tryz.prog (.box 3 x) V new ρ = if xj (ρ x) 1 = true then some (.loc new 1 0 0, [(new, some (.row 3 1 [ρ x]))]) else none := by rw [E_box, aggN_3, xjd]
theorem bq_4 (a b : Bool) : binK Tryz.prog .eql 4 (bool a) (bool b) = brR (a == b) := xlcb x6bb a b
theorem ld_5 (y : AV) (off : Nat) : evalLd Tryz.prog 5 y off = ldOne y off := ld_one _ aggN_5 y off
theorem ld_9 (y : AV) (off : Nat) : evalLd Tryz.prog 9 y off = ldOne y off := ld_one _ aggN_9 y off
theorem st_9 (V : Nat → Option AO) (l sz i off : Nat) (v : AV) : xxb Tryz.prog 9 V (.loc l sz i off) v = if xj v 1 = true then (rowT (V l) sz i).bind fun p => (stAV p.2.2 off v).map fun x' => [(l, some (.row p.1 sz (p.2.1.set i x')))] else none := xyc _ aggN_9 V l sz i off v
theorem bx_9 (x : Operand) (V : Nat → Option AO) (new : Nat) (ρ : Operand → AV) : evalOp Tryz.prog (.box 9 x) V new ρ = if xj (ρ x) 1 = true then some (.loc new 1 0 0, [(new, some (.row 9 1 [ρ x]))]) else none := by rw [E_box, aggN_9, xjd]
theorem lB_9 (s : ByteArray) : xkc Tryz.prog 9 (.val (.string s)) = some (int s.size) := xgfb _ xk5 s
theorem iB_9 (s : ByteArray) (k : IntKind) (n : Int) : xpi Tryz.prog 9 (.val (.string s)) (.val (.int k n)) = if 0 ≤ n then (s[n.toNat]?).map fun b => u8 b else none := xg9 _ xk5 s k n
theorem ld_24 (y : AV) (off : Nat) : evalLd Tryz.prog 24 y off = ldOne y off := ld_one _ xn0 y off
theorem iS_24 (xs : List AV) (k : IntKind) (n : Int) : xqb Tryz.prog 24 (.sl 13 xs) (.val (.int k n)) = if 0 ≤ n then (xs[n.toNat]?).map fun z => .ptr z 0 else none := xsd _ x1r xno xs k n
theorem lS_24 (sz : Nat) (xs : List AV) : xkc Tryz.prog 24 (.sl sz xs) = some (int xs.length) := len_sl _ x1r sz xs
theorem ld_26 (y : AV) (off : Nat) : evalLd Tryz.prog 26 y off = ldAgg y off 1 := ld_agg _ x0o y off
theorem bx_26 (x : Operand) (V : Nat → Option AO) (new : Nat) (ρ : Operand → AV) : evalOp Tryz.prog (.box 26 x) V new ρ = if xj (ρ x) 1 = true then some (.loc new 1 0 0, [(new, some (.row 26 1 [ρ x]))]) else none := by rw [E_box, x0o, xjd]
theorem xneb (l sz i off : Nat) : xk Tryz.prog 26 0 (.loc l sz i off) = some (.loc l sz i (off + 0)) := xp _ xjl xn0 (by decide) l sz i off
theorem xzeb (y : AV) (off : Nat) : xk Tryz.prog 26 0 (.ptr y off) = some (.ptr y (off + 0)) := xbk _ xjl xn0 (by decide) y off
theorem ld_27 (y : AV) (off : Nat) : evalLd Tryz.prog 27 y off = ldOne y off := ld_one _ xe7 y off
theorem iS_27 (xs : List AV) (k : IntKind) (n : Int) : xqb Tryz.prog 27 (.sl 1 xs) (.val (.int k n)) = if 0 ≤ n then (xs[n.toNat]?).map fun z => .ptr z 0 else none := xsd _ xcs x0o xs k n
theorem lS_27 (sz : Nat) (xs : List AV) : xkc Tryz.prog 27 (.sl sz xs) = some (int xs.length) := len_sl _ xcs sz xs
theorem ld_29 (y : AV) (off : Nat) : evalLd Tryz.prog 29 y off = ldAgg y off 6 := ld_agg _ xcr y off
theorem st_29 (V : Nat → Option AO) (l sz i off : Nat) (v : AV) : xxb Tryz.prog 29 V (.loc l sz i off) v = if xj v 6 = true then (rowT (V l) sz i).bind fun p => (stAV p.2.2 off v).map fun x' => [(l, some (.row p.1 sz (p.2.1.set i x')))] else none := xyc _ xcr V l sz i off v
theorem bx_29 (x : Operand) (V : Nat → Option AO) (new : Nat) (ρ : Operand → AV) : evalOp Tryz.prog (.box 29 x) V new ρ = if xj (ρ x) 6 = true then some (.loc new 6 0 0, [(new, some (.row 29 6 [ρ x]))]) else none := by rw [E_box, xcr, xjd]
theorem al_29 (V : Nat → Option AO) (new : Nat) (ρ : Operand → AV) : evalOp Tryz.prog (.alloc 29) V new ρ = some (.loc new 6 0 0, [(new, some (.row 29 6 [.agg [.val (.int .i64 0), .val (.int .i64 0), .val (.int .i64 0), .val (.int .i64 0), .val (.slice none 0 0), .val (.slice none 0 0)]]))]) := by rw [xyh, xcr, xwdb, x6e]; rfl
theorem x8eb (l sz i off : Nat) : xk Tryz.prog 29 1 (.loc l sz i off) = some (.loc l sz i (off + 4)) := xp _ x9u x0o (by decide) l sz i off
theorem xdeb (l sz i off : Nat) : xk Tryz.prog 29 2 (.loc l sz i off) = some (.loc l sz i (off + 5)) := xp _ xgv xe7 (by decide) l sz i off
theorem ld_30 (y : AV) (off : Nat) : evalLd Tryz.prog 30 y off = ldOne y off := ld_one _ xdw y off
theorem st_30 (V : Nat → Option AO) (l sz i off : Nat) (v : AV) : xxb Tryz.prog 30 V (.loc l sz i off) v = if xj v 1 = true then (rowT (V l) sz i).bind fun p => (stAV p.2.2 off v).map fun x' => [(l, some (.row p.1 sz (p.2.1.set i x')))] else none := xyc _ xdw V l sz i off v
theorem iS_30 (xs : List AV) (k : IntKind) (n : Int) : xqb Tryz.prog 30 (.sl 1 xs) (.val (.int k n)) = if 0 ≤ n then (xs[n.toNat]?).map fun z => .ptr z 0 else none := xsd _ x9d aggN_5 xs k n
theorem bS_30 (len : Nat) (parts : Array (Nat × Operand)) (V : Nat → Option AO) (new : Nat) (ρ : Operand → AV) : evalOp Tryz.prog (.buildSlice 30 len parts) V new ρ = if len * 1 ≤ 16777216 then (setsA 1 (List.replicate len (.val (.int .u8 0))) (parts.toList.map fun p => (p.1, ρ p.2))).map fun xs => (.msl new len, [(new, some (.row 5 1 xs))]) else none := by rw [xni _ _ _ _ 30 len parts 5 x9d, aggN_5, zero_5, xdg]; simp [xj, AV.one, Value.oneCell']
theorem lS_30 (sz : Nat) (xs : List AV) : xkc Tryz.prog 30 (.sl sz xs) = some (int xs.length) := len_sl _ x9d sz xs
theorem ld_31 (y : AV) (off : Nat) : evalLd Tryz.prog 31 y off = ldOne y off := ld_one _ xc0 y off
theorem st_31 (V : Nat → Option AO) (l sz i off : Nat) (v : AV) : xxb Tryz.prog 31 V (.loc l sz i off) v = if xj v 1 = true then (rowT (V l) sz i).bind fun p => (stAV p.2.2 off v).map fun x' => [(l, some (.row p.1 sz (p.2.1.set i x')))] else none := xyc _ xc0 V l sz i off v
theorem iS_31 (xs : List AV) (k : IntKind) (n : Int) : xqb Tryz.prog 31 (.sl 1 xs) (.val (.int k n)) = if 0 ≤ n then (xs[n.toNat]?).map fun z => .ptr z 0 else none := xsd _ xsc aggN_9 xs k n
theorem iM_31 (l len : Nat) (k : IntKind) (n : Int) : xqb Tryz.prog 31 (.msl l len) (.val (.int k n)) = if 0 ≤ n ∧ n < len then some (.loc l 1 n.toNat 0) else none := x3n _ xsc aggN_9 l len k n
theorem ap_31 (V : Nat → Option AO) (s x : AV) (new : Nat) : xnd Tryz.prog 31 V s x new = appK 16 9 1 new (oldsOf V s 9 1) (newsOf V x 1) := xbq _ V xsc aggN_9 xlz zero_9 rfl s x new
theorem bS_31 (len : Nat) (parts : Array (Nat × Operand)) (V : Nat → Option AO) (new : Nat) (ρ : Operand → AV) : evalOp Tryz.prog (.buildSlice 31 len parts) V new ρ = if len * 1 ≤ 16777216 then (setsA 1 (List.replicate len (.val (.string ⟨#[]⟩))) (parts.toList.map fun p => (p.1, ρ p.2))).map fun xs => (.msl new len, [(new, some (.row 9 1 xs))]) else none := by rw [xni _ _ _ _ 31 len parts 9 xsc, aggN_9, zero_9, xdg]; simp [xj, AV.one, Value.oneCell']
theorem lS_31 (sz : Nat) (xs : List AV) : xkc Tryz.prog 31 (.sl sz xs) = some (int xs.length) := len_sl _ xsc sz xs
theorem lM_31 (l n : Nat) : xkc Tryz.prog 31 (.msl l n) = some (int n) := xew _ xsc l n
theorem ld_33 (y : AV) (off : Nat) : evalLd Tryz.prog 33 y off = ldAgg y off 3 := ld_agg _ xbw y off
theorem st_33 (V : Nat → Option AO) (l sz i off : Nat) (v : AV) : xxb Tryz.prog 33 V (.loc l sz i off) v = if xj v 3 = true then (rowT (V l) sz i).bind fun p => (stAV p.2.2 off v).map fun x' => [(l, some (.row p.1 sz (p.2.1.set i x')))] else none := xyc _ xbw V l sz i off v
theorem bx_33 (x : Operand) (V : Nat → Option AO) (new : Nat) (ρ : Operand → AV) : evalOp Tryz.prog (.box 33 x) V new ρ = if xj (ρ x) 3 = true then some (.loc new 3 0 0, [(new, some (.row 33 3 [ρ x]))]) else none := by rw [E_box, xbw, xjd]
theorem al_33 (V : Nat → Option AO) (new : Nat) (ρ : Operand → AV) : evalOp Tryz.prog (.alloc 33) V new ρ = some (.loc new 3 0 0, [(new, some (.row 33 3 [.agg [.val (.int .i64 0), .val (.slice none 0 0), .val (.slice none 0 0)]]))]) := by rw [xyh, xbw, x3eb, x6e]; rfl
theorem xjdb (l sz i off : Nat) : xk Tryz.prog 33 0 (.loc l sz i off) = some (.loc l sz i (off + 0)) := xp _ xri aggN_3 (by decide) l sz i off
theorem xudb (l sz i off : Nat) : xk Tryz.prog 33 1 (.loc l sz i off) = some (.loc l sz i (off + 1)) := xp _ x6u xdw (by decide) l sz i off
theorem xwfb (l sz i off : Nat) : xk Tryz.prog 33 2 (.loc l sz i off) = some (.loc l sz i (off + 2)) := xp _ x0u xc0 (by decide) l sz i off
theorem lay_33 : layOf Tryz.prog 33 = some ([.val (.int .i64 0), .val (.slice none 0 0), .val (.slice none 0 0)], .str [(0, 1), (1, 1), (2, 1)]) := by kernel_rfl
theorem bd_33 (parts : List (Nat × AV)) : xcc Tryz.prog 33 parts = (fillA (fun i => [(0, 1), (1, 1), (2, 1)][i]?) [.val (.int .i64 0), .val (.slice none 0 0), .val (.slice none 0 0)] parts).map .agg := by simp only [xcc, lay_33]; rfl
theorem ld_40 (y : AV) (off : Nat) : evalLd Tryz.prog 40 y off = ldOne y off := ld_one _ x3v y off
theorem st_40 (V : Nat → Option AO) (l sz i off : Nat) (v : AV) : xxb Tryz.prog 40 V (.loc l sz i off) v = if xj v 1 = true then (rowT (V l) sz i).bind fun p => (stAV p.2.2 off v).map fun x' => [(l, some (.row p.1 sz (p.2.1.set i x')))] else none := xyc _ x3v V l sz i off v
theorem bx_40 (x : Operand) (V : Nat → Option AO) (new : Nat) (ρ : Operand → AV) : evalOp Tryz.prog (.box 40 x) V new ρ = if xj (ρ x) 1 = true then some (.loc new 1 0 0, [(new, some (.row 40 1 [ρ x]))]) else none := by rw [E_box, x3v, xjd]
theorem iS_40 (xs : List AV) (k : IntKind) (n : Int) : xqb Tryz.prog 40 (.sl 2 xs) (.val (.int k n)) = if 0 ≤ n then (xs[n.toNat]?).map fun z => .ptr z 0 else none := xsd _ x3i x9i xs k n
theorem ap_40 (V : Nat → Option AO) (s x : AV) (new : Nat) : xnd Tryz.prog 40 V s x new = appK 16 44 2 new (oldsOf V s 44 2) (newsOf V x 2) := xbq _ V x3i x9i xrw x9v rfl s x new
theorem bS_40 (len : Nat) (parts : Array (Nat × Operand)) (V : Nat → Option AO) (new : Nat) (ρ : Operand → AV) : evalOp Tryz.prog (.buildSlice 40 len parts) V new ρ = if len * 2 ≤ 16777216 then (setsA 2 (List.replicate len (.agg [.val (.int .i64 0), .val (.int .i64 0)])) (parts.toList.map fun p => (p.1, ρ p.2))).map fun xs => (.msl new len, [(new, some (.row 44 2 xs))]) else none := by rw [xni _ _ _ _ 40 len parts 44 x3i, x9i, x9v, xdg]; simp [xj, AV.one, Value.oneCell']
theorem lS_40 (sz : Nat) (xs : List AV) : xkc Tryz.prog 40 (.sl sz xs) = some (int xs.length) := len_sl _ x3i sz xs
theorem lM_40 (l n : Nat) : xkc Tryz.prog 40 (.msl l n) = some (int n) := xew _ x3i l n
theorem ld_42 (y : AV) (off : Nat) : evalLd Tryz.prog 42 y off = ldAgg y off 2 := ld_agg _ xir y off
theorem st_42 (V : Nat → Option AO) (l sz i off : Nat) (v : AV) : xxb Tryz.prog 42 V (.loc l sz i off) v = if xj v 2 = true then (rowT (V l) sz i).bind fun p => (stAV p.2.2 off v).map fun x' => [(l, some (.row p.1 sz (p.2.1.set i x')))] else none := xyc _ xir V l sz i off v
theorem bx_42 (x : Operand) (V : Nat → Option AO) (new : Nat) (ρ : Operand → AV) : evalOp Tryz.prog (.box 42 x) V new ρ = if xj (ρ x) 2 = true then some (.loc new 2 0 0, [(new, some (.row 42 2 [ρ x]))]) else none := by rw [E_box, xir, xjd]
theorem al_42 (V : Nat → Option AO) (new : Nat) (ρ : Operand → AV) : evalOp Tryz.prog (.alloc 42) V new ρ = some (.loc new 2 0 0, [(new, some (.row 42 2 [.agg [.val (.int .i64 0), .val (.slice none 0 0)]]))]) := by rw [xyh, xir, xmdb, x6e]; rfl
theorem xkdb (l sz i off : Nat) : xk Tryz.prog 42 0 (.loc l sz i off) = some (.loc l sz i (off + 0)) := xp _ xa5 aggN_3 (by decide) l sz i off
theorem xndb (l sz i off : Nat) : xk Tryz.prog 42 1 (.loc l sz i off) = some (.loc l sz i (off + 1)) := xp _ xt4 x3v (by decide) l sz i off
theorem lay_42 : layOf Tryz.prog 42 = some ([.val (.int .i64 0), .val (.slice none 0 0)], .str [(0, 1), (1, 1)]) := by kernel_rfl
theorem bd_42 (parts : List (Nat × AV)) : xcc Tryz.prog 42 parts = (fillA (fun i => [(0, 1), (1, 1)][i]?) [.val (.int .i64 0), .val (.slice none 0 0)] parts).map .agg := by simp only [xcc, lay_42]; rfl
theorem ld_44 (y : AV) (off : Nat) : evalLd Tryz.prog 44 y off = ldAgg y off 2 := ld_agg _ x9i y off
theorem st_44 (V : Nat → Option AO) (l sz i off : Nat) (v : AV) : xxb Tryz.prog 44 V (.loc l sz i off) v = if xj v 2 = true then (rowT (V l) sz i).bind fun p => (stAV p.2.2 off v).map fun x' => [(l, some (.row p.1 sz (p.2.1.set i x')))] else none := xyc _ x9i V l sz i off v
theorem bx_44 (x : Operand) (V : Nat → Option AO) (new : Nat) (ρ : Operand → AV) : evalOp Tryz.prog (.box 44 x) V new ρ = if xj (ρ x) 2 = true then some (.loc new 2 0 0, [(new, some (.row 44 2 [ρ x]))]) else none := by rw [E_box, x9i, xjd]
theorem al_44 (V : Nat → Option AO) (new : Nat) (ρ : Operand → AV) : evalOp Tryz.prog (.alloc 44) V new ρ = some (.loc new 2 0 0, [(new, some (.row 44 2 [.agg [.val (.int .i64 0), .val (.int .i64 0)]]))]) := by rw [xyh, x9i, x9v, x6e]; rfl
theorem x3db (l sz i off : Nat) : xk Tryz.prog 44 0 (.loc l sz i off) = some (.loc l sz i (off + 0)) := xp _ xkl aggN_3 (by decide) l sz i off
theorem xzfb (l sz i off : Nat) : xk Tryz.prog 44 1 (.loc l sz i off) = some (.loc l sz i (off + 1)) := xp _ xwt aggN_3 (by decide) l sz i off
theorem lay_44 : layOf Tryz.prog 44 = some ([.val (.int .i64 0), .val (.int .i64 0)], .str [(0, 1), (1, 1)]) := by kernel_rfl
theorem bd_44 (parts : List (Nat × AV)) : xcc Tryz.prog 44 parts = (fillA (fun i => [(0, 1), (1, 1)][i]?) [.val (.int .i64 0), .val (.int .i64 0)] parts).map .agg := by simp only [xcc, lay_44]; rfl
theorem ld_61 (y : AV) (off : Nat) : evalLd Tryz.prog 61 y off = ldAgg y off 5 := ld_agg _ xe1 y off
theorem st_61 (V : Nat → Option AO) (l sz i off : Nat) (v : AV) : xxb Tryz.prog 61 V (.loc l sz i off) v = if xj v 5 = true then (rowT (V l) sz i).bind fun p => (stAV p.2.2 off v).map fun x' => [(l, some (.row p.1 sz (p.2.1.set i x')))] else none := xyc _ xe1 V l sz i off v
theorem al_61 (V : Nat → Option AO) (new : Nat) (ρ : Operand → AV) : evalOp Tryz.prog (.alloc 61) V new ρ = some (.loc new 5 0 0, [(new, some (.row 61 5 [.agg [.val (.int .i64 0), .val (.slice none 0 0), .val (.int .i64 0), .val (.int .i64 0), .val (.int .i64 0)]]))]) := by rw [xyh, xe1, xrfb, x6e]; rfl
theorem xpeb (l sz i off : Nat) : xk Tryz.prog 61 0 (.loc l sz i off) = some (.loc l sz i (off + 0)) := xp _ xq4 xir (by decide) l sz i off
theorem xxfb (l sz i off : Nat) : xk Tryz.prog 61 1 (.loc l sz i off) = some (.loc l sz i (off + 2)) := xp _ xi5 x9i (by decide) l sz i off
theorem xdfb (l sz i off : Nat) : xk Tryz.prog 61 2 (.loc l sz i off) = some (.loc l sz i (off + 4)) := xp _ x83 aggN_3 (by decide) l sz i off
theorem lay_61 : layOf Tryz.prog 61 = some ([.val (.int .i64 0), .val (.slice none 0 0), .val (.int .i64 0), .val (.int .i64 0), .val (.int .i64 0)], .str [(0, 2), (2, 2), (4, 1)]) := by kernel_rfl
theorem bd_61 (parts : List (Nat × AV)) : xcc Tryz.prog 61 parts = (fillA (fun i => [(0, 2), (2, 2), (4, 1)][i]?) [.val (.int .i64 0), .val (.slice none 0 0), .val (.int .i64 0), .val (.int .i64 0), .val (.int .i64 0)] parts).map .agg := by simp only [xcc, lay_61]; rfl
theorem ld_65 (y : AV) (off : Nat) : evalLd Tryz.prog 65 y off = ldOne y off := ld_one _ xc7 y off
theorem iS_65 (xs : List AV) (k : IntKind) (n : Int) : xqb Tryz.prog 65 (.sl 3 xs) (.val (.int k n)) = if 0 ≤ n then (xs[n.toNat]?).map fun z => .ptr z 0 else none := xsd _ xfo xam xs k n
theorem lS_65 (sz : Nat) (xs : List AV) : xkc Tryz.prog 65 (.sl sz xs) = some (int xs.length) := len_sl _ xfo sz xs
theorem ld_67 (y : AV) (off : Nat) : evalLd Tryz.prog 67 y off = ldAgg y off 3 := ld_agg _ xd1 y off
theorem bx_67 (x : Operand) (V : Nat → Option AO) (new : Nat) (ρ : Operand → AV) : evalOp Tryz.prog (.box 67 x) V new ρ = if xj (ρ x) 3 = true then some (.loc new 3 0 0, [(new, some (.row 67 3 [ρ x]))]) else none := by rw [E_box, xd1, xjd]
theorem x9db (l sz i off : Nat) : xk Tryz.prog 67 0 (.loc l sz i off) = some (.loc l sz i (off + 0)) := xp _ xaq aggN_3 (by decide) l sz i off
theorem xyeb (l sz i off : Nat) : xk Tryz.prog 67 1 (.loc l sz i off) = some (.loc l sz i (off + 1)) := xp _ xvt aggN_3 (by decide) l sz i off
theorem xtdb (l sz i off : Nat) : xk Tryz.prog 67 2 (.loc l sz i off) = some (.loc l sz i (off + 2)) := xp _ xzv aggN_3 (by decide) l sz i off
theorem ld_69 (y : AV) (off : Nat) : evalLd Tryz.prog 69 y off = ldAgg y off 7 := ld_agg _ xp0 y off
theorem bx_69 (x : Operand) (V : Nat → Option AO) (new : Nat) (ρ : Operand → AV) : evalOp Tryz.prog (.box 69 x) V new ρ = if xj (ρ x) 7 = true then some (.loc new 7 0 0, [(new, some (.row 69 7 [ρ x]))]) else none := by rw [E_box, xp0, xjd]
theorem x5db (l sz i off : Nat) : xk Tryz.prog 69 0 (.loc l sz i off) = some (.loc l sz i (off + 0)) := xp _ xgp aggN_3 (by decide) l sz i off
theorem xaeb (l sz i off : Nat) : xk Tryz.prog 69 1 (.loc l sz i off) = some (.loc l sz i (off + 1)) := xp _ xut aggN_3 (by decide) l sz i off
theorem xueb (l sz i off : Nat) : xk Tryz.prog 69 2 (.loc l sz i off) = some (.loc l sz i (off + 2)) := xp _ xuv aggN_9 (by decide) l sz i off
theorem xveb (l sz i off : Nat) : xk Tryz.prog 69 3 (.loc l sz i off) = some (.loc l sz i (off + 3)) := xp _ xfu xd1 (by decide) l sz i off
theorem ld_71 (y : AV) (off : Nat) : evalLd Tryz.prog 71 y off = ldAgg y off 13 := ld_agg _ xno y off
theorem st_71 (V : Nat → Option AO) (l sz i off : Nat) (v : AV) : xxb Tryz.prog 71 V (.loc l sz i off) v = if xj v 13 = true then (rowT (V l) sz i).bind fun p => (stAV p.2.2 off v).map fun x' => [(l, some (.row p.1 sz (p.2.1.set i x')))] else none := xyc _ xno V l sz i off v
theorem bx_71 (x : Operand) (V : Nat → Option AO) (new : Nat) (ρ : Operand → AV) : evalOp Tryz.prog (.box 71 x) V new ρ = if xj (ρ x) 13 = true then some (.loc new 13 0 0, [(new, some (.row 71 13 [ρ x]))]) else none := by rw [E_box, xno, xjd]
theorem al_71 (V : Nat → Option AO) (new : Nat) (ρ : Operand → AV) : evalOp Tryz.prog (.alloc 71) V new ρ = some (.loc new 13 0 0, [(new, some (.row 71 13 [.agg [.val (.int .i64 0), .val (.int .i64 0), .val (.int .i64 0), .val (.int .i64 0), .val (.slice none 0 0), .val (.slice none 0 0), .val (.int .i64 0), .val (.int .i64 0), .val (.string ⟨#[]⟩), .val (.int .i64 0), .val (.int .i64 0), .val (.int .i64 0), .val (.int .i64 0)]]))]) := by rw [xyh, xno, xbeb, x6e]; rfl
theorem x2db (l sz i off : Nat) : xk Tryz.prog 71 0 (.loc l sz i off) = some (.loc l sz i (off + 0)) := xp _ xzl aggN_3 (by decide) l sz i off
theorem xleb (x : AV) : xhi Tryz.prog 71 0 x = partO 0 x := xa9 xzl aggN_3 x
theorem x7eb (l sz i off : Nat) : xk Tryz.prog 71 2 (.loc l sz i off) = some (.loc l sz i (off + 2)) := xp _ xnv aggN_3 (by decide) l sz i off
theorem xmeb (l sz i off : Nat) : xk Tryz.prog 71 3 (.loc l sz i off) = some (.loc l sz i (off + 3)) := xp _ xdv aggN_3 (by decide) l sz i off
theorem xhfb (l sz i off : Nat) : xk Tryz.prog 71 4 (.loc l sz i off) = some (.loc l sz i (off + 4)) := xp _ xxu xdw (by decide) l sz i off
theorem x6db (l sz i off : Nat) : xk Tryz.prog 71 5 (.loc l sz i off) = some (.loc l sz i (off + 5)) := xp _ xuu xc7 (by decide) l sz i off
theorem x1eb (l sz i off : Nat) : xk Tryz.prog 71 6 (.loc l sz i off) = some (.loc l sz i (off + 6)) := xp _ xmu xp0 (by decide) l sz i off
theorem lay_71 : layOf Tryz.prog 71 = some ([.val (.int .i64 0), .val (.int .i64 0), .val (.int .i64 0), .val (.int .i64 0), .val (.slice none 0 0), .val (.slice none 0 0), .val (.int .i64 0), .val (.int .i64 0), .val (.string ⟨#[]⟩), .val (.int .i64 0), .val (.int .i64 0), .val (.int .i64 0), .val (.int .i64 0)], .str [(0, 1), (1, 1), (2, 1), (3, 1), (4, 1), (5, 1), (6, 7)]) := by kernel_rfl
theorem bd_71 (parts : List (Nat × AV)) : xcc Tryz.prog 71 parts = (fillA (fun i => [(0, 1), (1, 1), (2, 1), (3, 1), (4, 1), (5, 1), (6, 7)][i]?) [.val (.int .i64 0), .val (.int .i64 0), .val (.int .i64 0), .val (.int .i64 0), .val (.slice none 0 0), .val (.slice none 0 0), .val (.int .i64 0), .val (.int .i64 0), .val (.string ⟨#[]⟩), .val (.int .i64 0), .val (.int .i64 0), .val (.int .i64 0), .val (.int .i64 0)] parts).map .agg := by simp only [xcc, lay_71]; rfl
theorem ld_73 (y : AV) (off : Nat) : evalLd Tryz.prog 73 y off = ldAgg y off 6 := ld_agg _ x0v y off
theorem st_73 (V : Nat → Option AO) (l sz i off : Nat) (v : AV) : xxb Tryz.prog 73 V (.loc l sz i off) v = if xj v 6 = true then (rowT (V l) sz i).bind fun p => (stAV p.2.2 off v).map fun x' => [(l, some (.row p.1 sz (p.2.1.set i x')))] else none := xyc _ x0v V l sz i off v
theorem bx_73 (x : Operand) (V : Nat → Option AO) (new : Nat) (ρ : Operand → AV) : evalOp Tryz.prog (.box 73 x) V new ρ = if xj (ρ x) 6 = true then some (.loc new 6 0 0, [(new, some (.row 73 6 [ρ x]))]) else none := by rw [E_box, x0v, xjd]
theorem al_73 (V : Nat → Option AO) (new : Nat) (ρ : Operand → AV) : evalOp Tryz.prog (.alloc 73) V new ρ = some (.loc new 6 0 0, [(new, some (.row 73 6 [.agg [.val (.int .i64 0), .val (.int .i64 0), .val (.int .i64 0), .val (.int .i64 0), .val (.slice none 0 0), .val (.slice none 0 0)]]))]) := by rw [xyh, x0v, xydb, x6e]; rfl
theorem xifb (l sz i off : Nat) : xk Tryz.prog 73 0 (.loc l sz i off) = some (.loc l sz i (off + 0)) := xp _ xc4 xcr (by decide) l sz i off
theorem lay_73 : layOf Tryz.prog 73 = some ([.val (.int .i64 0), .val (.int .i64 0), .val (.int .i64 0), .val (.int .i64 0), .val (.slice none 0 0), .val (.slice none 0 0)], .str [(0, 6)]) := by kernel_rfl
theorem bd_73 (parts : List (Nat × AV)) : xcc Tryz.prog 73 parts = (fillA (fun i => [(0, 6)][i]?) [.val (.int .i64 0), .val (.int .i64 0), .val (.int .i64 0), .val (.int .i64 0), .val (.slice none 0 0), .val (.slice none 0 0)] parts).map .agg := by simp only [xcc, lay_73]; rfl
theorem ld_76 (y : AV) (off : Nat) : evalLd Tryz.prog 76 y off = ldAgg y off 3 := ld_agg _ xam y off
theorem st_76 (V : Nat → Option AO) (l sz i off : Nat) (v : AV) : xxb Tryz.prog 76 V (.loc l sz i off) v = if xj v 3 = true then (rowT (V l) sz i).bind fun p => (stAV p.2.2 off v).map fun x' => [(l, some (.row p.1 sz (p.2.1.set i x')))] else none := xyc _ xam V l sz i off v
theorem bx_76 (x : Operand) (V : Nat → Option AO) (new : Nat) (ρ : Operand → AV) : evalOp Tryz.prog (.box 76 x) V new ρ = if xj (ρ x) 3 = true then some (.loc new 3 0 0, [(new, some (.row 76 3 [ρ x]))]) else none := by rw [E_box, xam, xjd]
theorem al_76 (V : Nat → Option AO) (new : Nat) (ρ : Operand → AV) : evalOp Tryz.prog (.alloc 76) V new ρ = some (.loc new 3 0 0, [(new, some (.row 76 3 [.agg [.val (.int .i64 0), .val (.int .i64 0), .val (.string ⟨#[]⟩)]]))]) := by rw [xyh, xam, xtfb, x6e]; rfl
theorem x2fb (l sz i off : Nat) : xk Tryz.prog 76 0 (.loc l sz i off) = some (.loc l sz i (off + 0)) := xp _ xnl aggN_3 (by decide) l sz i off
theorem x2eb (y : AV) (off : Nat) : xk Tryz.prog 76 0 (.ptr y off) = some (.ptr y (off + 0)) := xbk _ xnl aggN_3 (by decide) y off
theorem xheb (l sz i off : Nat) : xk Tryz.prog 76 1 (.loc l sz i off) = some (.loc l sz i (off + 1)) := xp _ xtp aggN_3 (by decide) l sz i off
theorem xlfb (y : AV) (off : Nat) : xk Tryz.prog 76 1 (.ptr y off) = some (.ptr y (off + 1)) := xbk _ xtp aggN_3 (by decide) y off
theorem xsfb (l sz i off : Nat) : xk Tryz.prog 76 2 (.loc l sz i off) = some (.loc l sz i (off + 2)) := xp _ xbp aggN_9 (by decide) l sz i off
theorem x6eb (y : AV) (off : Nat) : xk Tryz.prog 76 2 (.ptr y off) = some (.ptr y (off + 2)) := xbk _ xbp aggN_9 (by decide) y off
theorem lay_76 : layOf Tryz.prog 76 = some ([.val (.int .i64 0), .val (.int .i64 0), .val (.string ⟨#[]⟩)], .str [(0, 1), (1, 1), (2, 1)]) := by kernel_rfl
theorem bd_76 (parts : List (Nat × AV)) : xcc Tryz.prog 76 parts = (fillA (fun i => [(0, 1), (1, 1), (2, 1)][i]?) [.val (.int .i64 0), .val (.int .i64 0), .val (.string ⟨#[]⟩)] parts).map .agg := by simp only [xcc, lay_76]; rfl
theorem iS_98 (xs : List AV) (k : IntKind) (n : Int) : xqb Tryz.prog 98 (.sl 1 xs) (.val (.int k n)) = if 0 ≤ n then (xs[n.toNat]?).map fun z => .ptr z 0 else none := xsd _ xpy x0o xs k n
theorem lS_98 (sz : Nat) (xs : List AV) : xkc Tryz.prog 98 (.sl sz xs) = some (int xs.length) := len_sl _ xpy sz xs
end Go.Proofs.YtfefidkblgendaaGreatDoor.AL

