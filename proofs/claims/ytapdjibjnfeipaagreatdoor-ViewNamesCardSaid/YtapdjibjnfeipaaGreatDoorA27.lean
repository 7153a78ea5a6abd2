/- What any node of any stack should say of copies, and which say otherwise, is what the document says: part 27 of 52. -/
import Derived.Test.YtapdjibjnfeipaaGreatDoorA26
set_option linter.all false
/- AL: the evaluator's rules with the facts of this seat's types, printed by rules.py. -/
set_option linter.unusedSimpArgs false
set_option linter.unusedVariables false
namespace Go.Proofs.YtapdjibjnfeipaaGreatDoor.AL
open Go Go.Proofs
set_option maxRecDepth 100000
theorem mixed : Tryz.prog.follows .mixedOrders = true := by kernel_rfl
theorem zero_3 : zeroOf Tryz.prog 3 = some (.val (.int .i64 0)) := by kernel_rfl
theorem zero_9 : zeroOf Tryz.prog 9 = some (.val (.string ⟨#[]⟩)) := by kernel_rfl
theorem xtdb : zeroOf Tryz.prog 29 = some (.agg [.val (.int .i64 0), .val (.int .i64 0), .val (.int .i64 0), .val (.int .i64 0), .val (.slice none 0 0), .val (.slice none 0 0)]) := by kernel_rfl
theorem xsz : zeroOf Tryz.prog 32 = some (.agg [.val (.int .i64 0), .val (.slice none 0 0)]) := by kernel_rfl
theorem xgv : zeroOf Tryz.prog 45 = some (.agg [.val (.int .i64 0), .val (.int .i64 0)]) := by kernel_rfl
theorem xiz : zeroOf Tryz.prog 55 = some (.agg [.val (.int .i64 0), .val (.int .i64 0), .val (.string ⟨#[]⟩)]) := by kernel_rfl
theorem xddb : zeroOf Tryz.prog 68 = some (.agg [.val (.int .i64 0), .val (.int .i64 0), .val (.int .i64 0), .val (.int .i64 0), .val (.slice none 0 0), .val (.slice none 0 0), .val (.int .i64 0), .val (.int .i64 0), .val (.string ⟨#[]⟩), .val (.int .i64 0), .val (.int .i64 0), .val (.int .i64 0), .val (.int .i64 0)]) := by kernel_rfl
theorem x1y : zeroOf Tryz.prog 79 = some (.agg [.val (.int .i64 0), .val (.int .i64 0), .val (.string ⟨#[]⟩)]) := by kernel_rfl
theorem xvdb : zeroOf Tryz.prog 92 = some (.agg [.val (.int .i64 0), .val (.int .i64 0), .val (.int .i64 0), .val (.int .i64 0), .val (.slice none 0 0), .val (.slice none 0 0)]) := by kernel_rfl
theorem x22 : zeroOf Tryz.prog 144 = some (.agg [.val (.int .i64 0), .val (.int .i64 0)]) := by kernel_rfl
theorem ld_1 (y : AV) (off : Nat) : evalLd Tryz.prog 1 y off = ldOne y off := ld_one _ aggN_1 y off
theorem ld_2 (y : AV) (off : Nat) : evalLd Tryz.prog 2 y off = ldOne y off := ld_one _ aggN_2 y off
theorem ld_3 (y : AV) (off : Nat) : evalLd Tryz.prog 3 y off = ldOne y off := ld_one _ aggN_3 y off
theorem st_3 (V : Nat → Option AO) (l sz i off : Nat) (v : AV) : xzb Tryz.prog 3 V (.loc l sz i off) v = if xh v 1 = true then (rowT (V l) sz i).bind fun p => (stAV p.2.2 off v).map fun x' => [(l, some (.row p.1 sz (p.2.1.set i x')))] else none := xad _ aggN_3 V l sz i off v
theorem bx_3 (x : Operand) (V : Nat → Option AO) (new : Nat) (ρ : Operand → AV) : evalOp Tryz.prog (.box 3 x) V new ρ = if xh (ρ x) 1 = true then some (.loc new 1 0 0, [(new, some (.row 3 1 [ρ x]))]) else none := by rw [E_box, aggN_3, xpd]
theorem bn_4 (a b : Bool) : binK Tryz.prog .neq 4 (bool a) (bool b) = brR (!(a == b)) := xzab x6ab a b
theorem ld_9 (y : AV) (off : Nat) : evalLd Tryz.prog 9 y off = ldOne y off := ld_one _ aggN_9 y off
theorem st_9 (V : Nat → Option AO) (l sz i off : Nat) (v : AV) : xzb Tryz.prog 9 V (.loc l sz i off) v = if xh v 1 = true then (rowT (V l) sz i).bind fun p => (stAV p.2.2 off v).map fun x' => [(l, some (.row p.1 sz (p.2.1.set i x')))] else none := xad _ aggN_9 V l sz i off v
theorem bx_9 (x : Operand) (V : Nat → Option AO) (new : Nat) (ρ : Operand → AV) : evalOp Tryz.prog (.box 9 x) V new ρ = if xh (ρ x) 1 = true then some (.loc new 1 0 0, [(new, some (.row 9 1 [ρ x]))]) else none := by rw [E_box, aggN_9, xpd]
theorem lB_9 (s : ByteArray) : xtb Tryz.prog 9 (.val (.string s)) = some (int s.size) := xpcb _ xx2 s
theorem iB_9 (s : ByteArray) (k : IntKind) (n : Int) : x8h Tryz.prog 9 (.val (.string s)) (.val (.int k n)) = if 0 ≤ n then (s[n.toNat]?).map fun b => u8 b else none := x98 _ xx2 s k n
theorem ld_24 (y : AV) (off : Nat) : evalLd Tryz.prog 24 y off = ldOne y off := ld_one _ x3y y off
theorem iS_24 (xs : List AV) (k : IntKind) (n : Int) : xdb Tryz.prog 24 (.sl 13 xs) (.val (.int k n)) = if 0 ≤ n then (xs[n.toNat]?).map fun z => .ptr z 0 else none := xuc _ xcs xfo xs k n
theorem lS_24 (sz : Nat) (xs : List AV) : xtb Tryz.prog 24 (.sl sz xs) = some (int xs.length) := len_sl _ xcs sz xs
theorem ld_26 (y : AV) (off : Nat) : evalLd Tryz.prog 26 y off = ldAgg y off 1 := ld_agg _ xnm y off
theorem bx_26 (x : Operand) (V : Nat → Option AO) (new : Nat) (ρ : Operand → AV) : evalOp Tryz.prog (.box 26 x) V new ρ = if xh (ρ x) 1 = true then some (.loc new 1 0 0, [(new, some (.row 26 1 [ρ x]))]) else none := by rw [E_box, xnm, xpd]
theorem xvcb (l sz i off : Nat) : xk Tryz.prog 26 0 (.loc l sz i off) = some (.loc l sz i (off + 0)) := xw _ xol x3y (by decide) l sz i off
theorem xocb (y : AV) (off : Nat) : xk Tryz.prog 26 0 (.ptr y off) = some (.ptr y (off + 0)) := xyc _ xol x3y (by decide) y off
theorem ld_27 (y : AV) (off : Nat) : evalLd Tryz.prog 27 y off = ldOne y off := ld_one _ xn5 y off
theorem iS_27 (xs : List AV) (k : IntKind) (n : Int) : xdb Tryz.prog 27 (.sl 1 xs) (.val (.int k n)) = if 0 ≤ n then (xs[n.toNat]?).map fun z => .ptr z 0 else none := xuc _ x3r xnm xs k n
theorem lS_27 (sz : Nat) (xs : List AV) : xtb Tryz.prog 27 (.sl sz xs) = some (int xs.length) := len_sl _ x3r sz xs
theorem ld_29 (y : AV) (off : Nat) : evalLd Tryz.prog 29 y off = ldAgg y off 6 := ld_agg _ xmq y off
theorem st_29 (V : Nat → Option AO) (l sz i off : Nat) (v : AV) : xzb Tryz.prog 29 V (.loc l sz i off) v = if xh v 6 = true then (rowT (V l) sz i).bind fun p => (stAV p.2.2 off v).map fun x' => [(l, some (.row p.1 sz (p.2.1.set i x')))] else none := xad _ xmq V l sz i off v
theorem bx_29 (x : Operand) (V : Nat → Option AO) (new : Nat) (ρ : Operand → AV) : evalOp Tryz.prog (.box 29 x) V new ρ = if xh (ρ x) 6 = true then some (.loc new 6 0 0, [(new, some (.row 29 6 [ρ x]))]) else none := by rw [E_box, xmq, xpd]
theorem al_29 (V : Nat → Option AO) (new : Nat) (ρ : Operand → AV) : evalOp Tryz.prog (.alloc 29) V new ρ = some (.loc new 6 0 0, [(new, some (.row 29 6 [.agg [.val (.int .i64 0), .val (.int .i64 0), .val (.int .i64 0), .val (.int .i64 0), .val (.slice none 0 0), .val (.slice none 0 0)]]))]) := by rw [xni, xmq, xtdb, x1f]; rfl
theorem x3cb (l sz i off : Nat) : xk Tryz.prog 29 1 (.loc l sz i off) = some (.loc l sz i (off + 4)) := xw _ xav xnm (by decide) l sz i off
theorem xudb (l sz i off : Nat) : xk Tryz.prog 29 2 (.loc l sz i off) = some (.loc l sz i (off + 5)) := xw _ x9u xn5 (by decide) l sz i off
theorem ld_30 (y : AV) (off : Nat) : evalLd Tryz.prog 30 y off = ldOne y off := ld_one _ xcv y off
theorem st_30 (V : Nat → Option AO) (l sz i off : Nat) (v : AV) : xzb Tryz.prog 30 V (.loc l sz i off) v = if xh v 1 = true then (rowT (V l) sz i).bind fun p => (stAV p.2.2 off v).map fun x' => [(l, some (.row p.1 sz (p.2.1.set i x')))] else none := xad _ xcv V l sz i off v
theorem bx_30 (x : Operand) (V : Nat → Option AO) (new : Nat) (ρ : Operand → AV) : evalOp Tryz.prog (.box 30 x) V new ρ = if xh (ρ x) 1 = true then some (.loc new 1 0 0, [(new, some (.row 30 1 [ρ x]))]) else none := by rw [E_box, xcv, xpd]
theorem iS_30 (xs : List AV) (k : IntKind) (n : Int) : xdb Tryz.prog 30 (.sl 2 xs) (.val (.int k n)) = if 0 ≤ n then (xs[n.toNat]?).map fun z => .ptr z 0 else none := xuc _ xfj xtk xs k n
theorem ap_30 (V : Nat → Option AO) (s x : AV) (new : Nat) : xjc Tryz.prog 30 V s x new = appK 16 45 2 new (oldsOf V s 45 2) (newsOf V x 2) := xug _ V xfj xtk x9v xgv rfl s x new
theorem bS_30 (len : Nat) (parts : Array (Nat × Operand)) (V : Nat → Option AO) (new : Nat) (ρ : Operand → AV) : evalOp Tryz.prog (.buildSlice 30 len parts) V new ρ = if len * 2 ≤ 16777216 then (setsA 2 (List.replicate len (.agg [.val (.int .i64 0), .val (.int .i64 0)])) (parts.toList.map fun p => (p.1, ρ p.2))).map fun xs => (.msl new len, [(new, some (.row 45 2 xs))]) else none := by rw [xyd _ _ _ _ 30 len parts 45 xfj, xtk, xgv, xed]; simp [xh, AV.one, Value.oneCell']
theorem lS_30 (sz : Nat) (xs : List AV) : xtb Tryz.prog 30 (.sl sz xs) = some (int xs.length) := len_sl _ xfj sz xs
theorem lM_30 (l n : Nat) : xtb Tryz.prog 30 (.msl l n) = some (int n) := xkr _ xfj l n
theorem ld_32 (y : AV) (off : Nat) : evalLd Tryz.prog 32 y off = ldAgg y off 2 := ld_agg _ xbk y off
theorem st_32 (V : Nat → Option AO) (l sz i off : Nat) (v : AV) : xzb Tryz.prog 32 V (.loc l sz i off) v = if xh v 2 = true then (rowT (V l) sz i).bind fun p => (stAV p.2.2 off v).map fun x' => [(l, some (.row p.1 sz (p.2.1.set i x')))] else none := xad _ xbk V l sz i off v
theorem bx_32 (x : Operand) (V : Nat → Option AO) (new : Nat) (ρ : Operand → AV) : evalOp Tryz.prog (.box 32 x) V new ρ = if xh (ρ x) 2 = true then some (.loc new 2 0 0, [(new, some (.row 32 2 [ρ x]))]) else none := by rw [E_box, xbk, xpd]
theorem al_32 (V : Nat → Option AO) (new : Nat) (ρ : Operand → AV) : evalOp Tryz.prog (.alloc 32) V new ρ = some (.loc new 2 0 0, [(new, some (.row 32 2 [.agg [.val (.int .i64 0), .val (.slice none 0 0)]]))]) := by rw [xni, xbk, xsz, x1f]; rfl
theorem xqdb (l sz i off : Nat) : xk Tryz.prog 32 0 (.loc l sz i off) = some (.loc l sz i (off + 0)) := xw _ xfi aggN_3 (by decide) l sz i off
theorem x9cb (y : AV) (off : Nat) : xk Tryz.prog 32 0 (.ptr y off) = some (.ptr y (off + 0)) := xyc _ xfi aggN_3 (by decide) y off
theorem x5cb (l sz i off : Nat) : xk Tryz.prog 32 1 (.loc l sz i off) = some (.loc l sz i (off + 1)) := xw _ xbv xcv (by decide) l sz i off
theorem lay_32 : layOf Tryz.prog 32 = some ([.val (.int .i64 0), .val (.slice none 0 0)], .str [(0, 1), (1, 1)]) := by kernel_rfl
theorem bd_32 (parts : List (Nat × AV)) : x6b Tryz.prog 32 parts = (fillA (fun i => [(0, 1), (1, 1)][i]?) [.val (.int .i64 0), .val (.slice none 0 0)] parts).map .agg := by simp only [x6b, lay_32]; rfl
theorem iS_42 (xs : List AV) (k : IntKind) (n : Int) : xdb Tryz.prog 42 (.sl 1 xs) (.val (.int k n)) = if 0 ≤ n then (xs[n.toNat]?).map fun z => .ptr z 0 else none := xuc _ x0d aggN_9 xs k n
theorem iM_42 (l len : Nat) (k : IntKind) (n : Int) : xdb Tryz.prog 42 (.msl l len) (.val (.int k n)) = if 0 ≤ n ∧ n < len then some (.loc l 1 n.toNat 0) else none := xhh _ x0d aggN_9 l len k n
theorem ap_42 (V : Nat → Option AO) (s x : AV) (new : Nat) : xjc Tryz.prog 42 V s x new = appK 16 9 1 new (oldsOf V s 9 1) (newsOf V x 1) := xug _ V x0d aggN_9 xgx zero_9 rfl s x new
theorem bS_42 (len : Nat) (parts : Array (Nat × Operand)) (V : Nat → Option AO) (new : Nat) (ρ : Operand → AV) : evalOp Tryz.prog (.buildSlice 42 len parts) V new ρ = if len * 1 ≤ 16777216 then (setsA 1 (List.replicate len (.val (.string ⟨#[]⟩))) (parts.toList.map fun p => (p.1, ρ p.2))).map fun xs => (.msl new len, [(new, some (.row 9 1 xs))]) else none := by rw [xyd _ _ _ _ 42 len parts 9 x0d, aggN_9, zero_9, xed]; simp [xh, AV.one, Value.oneCell']
theorem lS_42 (sz : Nat) (xs : List AV) : xtb Tryz.prog 42 (.sl sz xs) = some (int xs.length) := len_sl _ x0d sz xs
theorem lM_42 (l n : Nat) : xtb Tryz.prog 42 (.msl l n) = some (int n) := xkr _ x0d l n
theorem ld_45 (y : AV) (off : Nat) : evalLd Tryz.prog 45 y off = ldAgg y off 2 := ld_agg _ xtk y off
theorem st_45 (V : Nat → Option AO) (l sz i off : Nat) (v : AV) : xzb Tryz.prog 45 V (.loc l sz i off) v = if xh v 2 = true then (rowT (V l) sz i).bind fun p => (stAV p.2.2 off v).map fun x' => [(l, some (.row p.1 sz (p.2.1.set i x')))] else none := xad _ xtk V l sz i off v
theorem bx_45 (x : Operand) (V : Nat → Option AO) (new : Nat) (ρ : Operand → AV) : evalOp Tryz.prog (.box 45 x) V new ρ = if xh (ρ x) 2 = true then some (.loc new 2 0 0, [(new, some (.row 45 2 [ρ x]))]) else none := by rw [E_box, xtk, xpd]
theorem al_45 (V : Nat → Option AO) (new : Nat) (ρ : Operand → AV) : evalOp Tryz.prog (.alloc 45) V new ρ = some (.loc new 2 0 0, [(new, some (.row 45 2 [.agg [.val (.int .i64 0), .val (.int .i64 0)]]))]) := by rw [xni, xtk, xgv, x1f]; rfl
theorem xacb (l sz i off : Nat) : xk Tryz.prog 45 0 (.loc l sz i off) = some (.loc l sz i (off + 0)) := xw _ xvo aggN_3 (by decide) l sz i off
theorem x1bb (l sz i off : Nat) : xk Tryz.prog 45 1 (.loc l sz i off) = some (.loc l sz i (off + 1)) := xw _ xau aggN_3 (by decide) l sz i off
theorem lay_45 : layOf Tryz.prog 45 = some ([.val (.int .i64 0), .val (.int .i64 0)], .str [(0, 1), (1, 1)]) := by kernel_rfl
theorem bd_45 (parts : List (Nat × AV)) : x6b Tryz.prog 45 parts = (fillA (fun i => [(0, 1), (1, 1)][i]?) [.val (.int .i64 0), .val (.int .i64 0)] parts).map .agg := by simp only [x6b, lay_45]; rfl
theorem ld_55 (y : AV) (off : Nat) : evalLd Tryz.prog 55 y off = ldAgg y off 3 := ld_agg _ xui y off
theorem st_55 (V : Nat → Option AO) (l sz i off : Nat) (v : AV) : xzb Tryz.prog 55 V (.loc l sz i off) v = if xh v 3 = true then (rowT (V l) sz i).bind fun p => (stAV p.2.2 off v).map fun x' => [(l, some (.row p.1 sz (p.2.1.set i x')))] else none := xad _ xui V l sz i off v
theorem bx_55 (x : Operand) (V : Nat → Option AO) (new : Nat) (ρ : Operand → AV) : evalOp Tryz.prog (.box 55 x) V new ρ = if xh (ρ x) 3 = true then some (.loc new 3 0 0, [(new, some (.row 55 3 [ρ x]))]) else none := by rw [E_box, xui, xpd]
theorem al_55 (V : Nat → Option AO) (new : Nat) (ρ : Operand → AV) : evalOp Tryz.prog (.alloc 55) V new ρ = some (.loc new 3 0 0, [(new, some (.row 55 3 [.agg [.val (.int .i64 0), .val (.int .i64 0), .val (.string ⟨#[]⟩)]]))]) := by rw [xni, xui, xiz, x1f]; rfl
theorem xpdb (l sz i off : Nat) : xk Tryz.prog 55 0 (.loc l sz i off) = some (.loc l sz i (off + 0)) := xw _ xll aggN_3 (by decide) l sz i off
theorem xccb (y : AV) (off : Nat) : xk Tryz.prog 55 0 (.ptr y off) = some (.ptr y (off + 0)) := xyc _ xll aggN_3 (by decide) y off
theorem xxcb (l sz i off : Nat) : xk Tryz.prog 55 1 (.loc l sz i off) = some (.loc l sz i (off + 1)) := xw _ xpp aggN_3 (by decide) l sz i off
theorem xqcb (y : AV) (off : Nat) : xk Tryz.prog 55 1 (.ptr y off) = some (.ptr y (off + 1)) := xyc _ xpp aggN_3 (by decide) y off
theorem xubb (l sz i off : Nat) : xk Tryz.prog 55 2 (.loc l sz i off) = some (.loc l sz i (off + 2)) := xw _ x0o aggN_9 (by decide) l sz i off
theorem xidb (y : AV) (off : Nat) : xk Tryz.prog 55 2 (.ptr y off) = some (.ptr y (off + 2)) := xyc _ x0o aggN_9 (by decide) y off
theorem lay_55 : layOf Tryz.prog 55 = some ([.val (.int .i64 0), .val (.int .i64 0), .val (.string ⟨#[]⟩)], .str [(0, 1), (1, 1), (2, 1)]) := by kernel_rfl
theorem bd_55 (parts : List (Nat × AV)) : x6b Tryz.prog 55 parts = (fillA (fun i => [(0, 1), (1, 1), (2, 1)][i]?) [.val (.int .i64 0), .val (.int .i64 0), .val (.string ⟨#[]⟩)] parts).map .agg := by simp only [x6b, lay_55]; rfl
theorem ld_61 (y : AV) (off : Nat) : evalLd Tryz.prog 61 y off = ldOne y off := ld_one _ xk5 y off
theorem lS_61 (sz : Nat) (xs : List AV) : xtb Tryz.prog 61 (.sl sz xs) = some (int xs.length) := len_sl _ xt6 sz xs
theorem ld_62 (y : AV) (off : Nat) : evalLd Tryz.prog 62 y off = ldOne y off := ld_one _ xjv y off
theorem iS_62 (xs : List AV) (k : IntKind) (n : Int) : xdb Tryz.prog 62 (.sl 3 xs) (.val (.int k n)) = if 0 ≤ n then (xs[n.toNat]?).map fun z => .ptr z 0 else none := xuc _ x5g xui xs k n
theorem ap_62 (V : Nat → Option AO) (s x : AV) (new : Nat) : xjc Tryz.prog 62 V s x new = appK 32 55 3 new (oldsOf V s 55 3) (newsOf V x 3) := xug _ V x5g xui xy4 xiz rfl s x new
theorem bS_62 (len : Nat) (parts : Array (Nat × Operand)) (V : Nat → Option AO) (new : Nat) (ρ : Operand → AV) : evalOp Tryz.prog (.buildSlice 62 len parts) V new ρ = if len * 3 ≤ 16777216 then (setsA 3 (List.replicate len (.agg [.val (.int .i64 0), .val (.int .i64 0), .val (.string ⟨#[]⟩)])) (parts.toList.map fun p => (p.1, ρ p.2))).map fun xs => (.msl new len, [(new, some (.row 55 3 xs))]) else none := by rw [xyd _ _ _ _ 62 len parts 55 x5g, xui, xiz, xed]; simp [xh, AV.one, Value.oneCell']
theorem lS_62 (sz : Nat) (xs : List AV) : xtb Tryz.prog 62 (.sl sz xs) = some (int xs.length) := len_sl _ x5g sz xs
theorem lN_62  : xtb Tryz.prog 62 nilS = some (int 0) := xdcb _ x5g
theorem ld_66 (y : AV) (off : Nat) : evalLd Tryz.prog 66 y off = ldAgg y off 7 := ld_agg _ x8y y off
theorem bx_66 (x : Operand) (V : Nat → Option AO) (new : Nat) (ρ : Operand → AV) : evalOp Tryz.prog (.box 66 x) V new ρ = if xh (ρ x) 7 = true then some (.loc new 7 0 0, [(new, some (.row 66 7 [ρ x]))]) else none := by rw [E_box, x8y, xpd]
theorem xlcb (l sz i off : Nat) : xk Tryz.prog 66 0 (.loc l sz i off) = some (.loc l sz i (off + 0)) := xw _ xso aggN_3 (by decide) l sz i off
theorem xwcb (l sz i off : Nat) : xk Tryz.prog 66 1 (.loc l sz i off) = some (.loc l sz i (off + 1)) := xw _ x3t aggN_3 (by decide) l sz i off
theorem xjcb (l sz i off : Nat) : xk Tryz.prog 66 2 (.loc l sz i off) = some (.loc l sz i (off + 2)) := xw _ x1u aggN_9 (by decide) l sz i off
theorem ld_68 (y : AV) (off : Nat) : evalLd Tryz.prog 68 y off = ldAgg y off 13 := ld_agg _ xfo y off
theorem st_68 (V : Nat → Option AO) (l sz i off : Nat) (v : AV) : xzb Tryz.prog 68 V (.loc l sz i off) v = if xh v 13 = true then (rowT (V l) sz i).bind fun p => (stAV p.2.2 off v).map fun x' => [(l, some (.row p.1 sz (p.2.1.set i x')))] else none := xad _ xfo V l sz i off v
theorem bx_68 (x : Operand) (V : Nat → Option AO) (new : Nat) (ρ : Operand → AV) : evalOp Tryz.prog (.box 68 x) V new ρ = if xh (ρ x) 13 = true then some (.loc new 13 0 0, [(new, some (.row 68 13 [ρ x]))]) else none := by rw [E_box, xfo, xpd]
theorem al_68 (V : Nat → Option AO) (new : Nat) (ρ : Operand → AV) : evalOp Tryz.prog (.alloc 68) V new ρ = some (.loc new 13 0 0, [(new, some (.row 68 13 [.agg [.val (.int .i64 0), .val (.int .i64 0), .val (.int .i64 0), .val (.int .i64 0), .val (.slice none 0 0), .val (.slice none 0 0), .val (.int .i64 0), .val (.int .i64 0), .val (.string ⟨#[]⟩), .val (.int .i64 0), .val (.int .i64 0), .val (.int .i64 0), .val (.int .i64 0)]]))]) := by rw [xni, xfo, xddb, x1f]; rfl
theorem xfdb (l sz i off : Nat) : xk Tryz.prog 68 0 (.loc l sz i off) = some (.loc l sz i (off + 0)) := xw _ x1h aggN_3 (by decide) l sz i off
theorem xjdb (y : AV) (off : Nat) : xk Tryz.prog 68 0 (.ptr y off) = some (.ptr y (off + 0)) := xyc _ x1h aggN_3 (by decide) y off
theorem x7cb (x : AV) : xvg Tryz.prog 68 0 x = partO 0 x := xb0 x1h aggN_3 x
theorem x0cb (l sz i off : Nat) : xk Tryz.prog 68 2 (.loc l sz i off) = some (.loc l sz i (off + 2)) := xw _ xbu aggN_3 (by decide) l sz i off
theorem xscb (l sz i off : Nat) : xk Tryz.prog 68 4 (.loc l sz i off) = some (.loc l sz i (off + 4)) := xw _ xjt xk5 (by decide) l sz i off
theorem xsdb (l sz i off : Nat) : xk Tryz.prog 68 5 (.loc l sz i off) = some (.loc l sz i (off + 5)) := xw _ x7k xjv (by decide) l sz i off
theorem x1cb (y : AV) (off : Nat) : xk Tryz.prog 68 5 (.ptr y off) = some (.ptr y (off + 5)) := xyc _ x7k xjv (by decide) y off
theorem x7bb (x : AV) : xvg Tryz.prog 68 5 x = partO 5 x := xb0 x7k xjv x
theorem xhcb (l sz i off : Nat) : xk Tryz.prog 68 6 (.loc l sz i off) = some (.loc l sz i (off + 6)) := xw _ x9t x8y (by decide) l sz i off
theorem lay_68 : layOf Tryz.prog 68 = some ([.val (.int .i64 0), .val (.int .i64 0), .val (.int .i64 0), .val (.int .i64 0), .val (.slice none 0 0), .val (.slice none 0 0), .val (.int .i64 0), .val (.int .i64 0), .val (.string ⟨#[]⟩), .val (.int .i64 0), .val (.int .i64 0), .val (.int .i64 0), .val (.int .i64 0)], .str [(0, 1), (1, 1), (2, 1), (3, 1), (4, 1), (5, 1), (6, 7)]) := by kernel_rfl
theorem bd_68 (parts : List (Nat × AV)) : x6b Tryz.prog 68 parts = (fillA (fun i => [(0, 1), (1, 1), (2, 1), (3, 1), (4, 1), (5, 1), (6, 7)][i]?) [.val (.int .i64 0), .val (.int .i64 0), .val (.int .i64 0), .val (.int .i64 0), .val (.slice none 0 0), .val (.slice none 0 0), .val (.int .i64 0), .val (.int .i64 0), .val (.string ⟨#[]⟩), .val (.int .i64 0), .val (.int .i64 0), .val (.int .i64 0), .val (.int .i64 0)] parts).map .agg := by simp only [x6b, lay_68]; rfl
theorem ld_73 (y : AV) (off : Nat) : evalLd Tryz.prog 73 y off = ldOne y off := ld_one _ xjz y off
theorem st_73 (V : Nat → Option AO) (l sz i off : Nat) (v : AV) : xzb Tryz.prog 73 V (.loc l sz i off) v = if xh v 1 = true then (rowT (V l) sz i).bind fun p => (stAV p.2.2 off v).map fun x' => [(l, some (.row p.1 sz (p.2.1.set i x')))] else none := xad _ xjz V l sz i off v
theorem iS_73 (xs : List AV) (k : IntKind) (n : Int) : xdb Tryz.prog 73 (.sl 3 xs) (.val (.int k n)) = if 0 ≤ n then (xs[n.toNat]?).map fun z => .ptr z 0 else none := xuc _ x6i xlk xs k n
theorem iM_73 (l len : Nat) (k : IntKind) (n : Int) : xdb Tryz.prog 73 (.msl l len) (.val (.int k n)) = if 0 ≤ n ∧ n < len then some (.loc l 3 n.toNat 0) else none := xhh _ x6i xlk l len k n
theorem ap_73 (V : Nat → Option AO) (s x : AV) (new : Nat) : xjc Tryz.prog 73 V s x new = appK 32 79 3 new (oldsOf V s 79 3) (newsOf V x 3) := xug _ V x6i xlk xp4 x1y rfl s x new
theorem bS_73 (len : Nat) (parts : Array (Nat × Operand)) (V : Nat → Option AO) (new : Nat) (ρ : Operand → AV) : evalOp Tryz.prog (.buildSlice 73 len parts) V new ρ = if len * 3 ≤ 16777216 then (setsA 3 (List.replicate len (.agg [.val (.int .i64 0), .val (.int .i64 0), .val (.string ⟨#[]⟩)])) (parts.toList.map fun p => (p.1, ρ p.2))).map fun xs => (.msl new len, [(new, some (.row 79 3 xs))]) else none := by rw [xyd _ _ _ _ 73 len parts 79 x6i, xlk, x1y, xed]; simp [xh, AV.one, Value.oneCell']
theorem lS_73 (sz : Nat) (xs : List AV) : xtb Tryz.prog 73 (.sl sz xs) = some (int xs.length) := len_sl _ x6i sz xs
theorem lM_73 (l n : Nat) : xtb Tryz.prog 73 (.msl l n) = some (int n) := xkr _ x6i l n
theorem iS_74 (xs : List AV) (k : IntKind) (n : Int) : xdb Tryz.prog 74 (.sl 2 xs) (.val (.int k n)) = if 0 ≤ n then (xs[n.toNat]?).map fun z => .ptr z 0 else none := xuc _ xal xbk xs k n
theorem iM_74 (l len : Nat) (k : IntKind) (n : Int) : xdb Tryz.prog 74 (.msl l len) (.val (.int k n)) = if 0 ≤ n ∧ n < len then some (.loc l 2 n.toNat 0) else none := xhh _ xal xbk l len k n
theorem ap_74 (V : Nat → Option AO) (s x : AV) (new : Nat) : xjc Tryz.prog 74 V s x new = appK 32 32 2 new (oldsOf V s 32 2) (newsOf V x 2) := xug _ V xal xbk xw4 xsz rfl s x new
theorem bS_74 (len : Nat) (parts : Array (Nat × Operand)) (V : Nat → Option AO) (new : Nat) (ρ : Operand → AV) : evalOp Tryz.prog (.buildSlice 74 len parts) V new ρ = if len * 2 ≤ 16777216 then (setsA 2 (List.replicate len (.agg [.val (.int .i64 0), .val (.slice none 0 0)])) (parts.toList.map fun p => (p.1, ρ p.2))).map fun xs => (.msl new len, [(new, some (.row 32 2 xs))]) else none := by rw [xyd _ _ _ _ 74 len parts 32 xal, xbk, xsz, xed]; simp [xh, AV.one, Value.oneCell']
theorem lS_74 (sz : Nat) (xs : List AV) : xtb Tryz.prog 74 (.sl sz xs) = some (int xs.length) := len_sl _ xal sz xs
theorem ld_79 (y : AV) (off : Nat) : evalLd Tryz.prog 79 y off = ldAgg y off 3 := ld_agg _ xlk y off
theorem st_79 (V : Nat → Option AO) (l sz i off : Nat) (v : AV) : xzb Tryz.prog 79 V (.loc l sz i off) v = if xh v 3 = true then (rowT (V l) sz i).bind fun p => (stAV p.2.2 off v).map fun x' => [(l, some (.row p.1 sz (p.2.1.set i x')))] else none := xad _ xlk V l sz i off v
theorem bx_79 (x : Operand) (V : Nat → Option AO) (new : Nat) (ρ : Operand → AV) : evalOp Tryz.prog (.box 79 x) V new ρ = if xh (ρ x) 3 = true then some (.loc new 3 0 0, [(new, some (.row 79 3 [ρ x]))]) else none := by rw [E_box, xlk, xpd]
theorem al_79 (V : Nat → Option AO) (new : Nat) (ρ : Operand → AV) : evalOp Tryz.prog (.alloc 79) V new ρ = some (.loc new 3 0 0, [(new, some (.row 79 3 [.agg [.val (.int .i64 0), .val (.int .i64 0), .val (.string ⟨#[]⟩)]]))]) := by rw [xni, xlk, x1y, x1f]; rfl
theorem x8bb (l sz i off : Nat) : xk Tryz.prog 79 0 (.loc l sz i off) = some (.loc l sz i (off + 0)) := xw _ xct aggN_3 (by decide) l sz i off
theorem xbdb (y : AV) (off : Nat) : xk Tryz.prog 79 0 (.ptr y off) = some (.ptr y (off + 0)) := xyc _ xct aggN_3 (by decide) y off
theorem x0db (l sz i off : Nat) : xk Tryz.prog 79 1 (.loc l sz i off) = some (.loc l sz i (off + 1)) := xw _ xot aggN_3 (by decide) l sz i off
theorem xwdb (y : AV) (off : Nat) : xk Tryz.prog 79 1 (.ptr y off) = some (.ptr y (off + 1)) := xyc _ xot aggN_3 (by decide) y off
theorem xicb (l sz i off : Nat) : xk Tryz.prog 79 2 (.loc l sz i off) = some (.loc l sz i (off + 2)) := xw _ xeu aggN_9 (by decide) l sz i off
theorem xedb (y : AV) (off : Nat) : xk Tryz.prog 79 2 (.ptr y off) = some (.ptr y (off + 2)) := xyc _ xeu aggN_9 (by decide) y off
theorem lay_79 : layOf Tryz.prog 79 = some ([.val (.int .i64 0), .val (.int .i64 0), .val (.string ⟨#[]⟩)], .str [(0, 1), (1, 1), (2, 1)]) := by kernel_rfl
theorem bd_79 (parts : List (Nat × AV)) : x6b Tryz.prog 79 parts = (fillA (fun i => [(0, 1), (1, 1), (2, 1)][i]?) [.val (.int .i64 0), .val (.int .i64 0), .val (.string ⟨#[]⟩)] parts).map .agg := by simp only [x6b, lay_79]; rfl
theorem ld_92 (y : AV) (off : Nat) : evalLd Tryz.prog 92 y off = ldAgg y off 6 := ld_agg _ xhv y off
theorem st_92 (V : Nat → Option AO) (l sz i off : Nat) (v : AV) : xzb Tryz.prog 92 V (.loc l sz i off) v = if xh v 6 = true then (rowT (V l) sz i).bind fun p => (stAV p.2.2 off v).map fun x' => [(l, some (.row p.1 sz (p.2.1.set i x')))] else none := xad _ xhv V l sz i off v
theorem bx_92 (x : Operand) (V : Nat → Option AO) (new : Nat) (ρ : Operand → AV) : evalOp Tryz.prog (.box 92 x) V new ρ = if xh (ρ x) 6 = true then some (.loc new 6 0 0, [(new, some (.row 92 6 [ρ x]))]) else none := by rw [E_box, xhv, xpd]
theorem al_92 (V : Nat → Option AO) (new : Nat) (ρ : Operand → AV) : evalOp Tryz.prog (.alloc 92) V new ρ = some (.loc new 6 0 0, [(new, some (.row 92 6 [.agg [.val (.int .i64 0), .val (.int .i64 0), .val (.int .i64 0), .val (.int .i64 0), .val (.slice none 0 0), .val (.slice none 0 0)]]))]) := by rw [xni, xhv, xvdb, x1f]; rfl
theorem x8cb (l sz i off : Nat) : xk Tryz.prog 92 0 (.loc l sz i off) = some (.loc l sz i (off + 0)) := xw _ x83 xmq (by decide) l sz i off
theorem lay_92 : layOf Tryz.prog 92 = some ([.val (.int .i64 0), .val (.int .i64 0), .val (.int .i64 0), .val (.int .i64 0), .val (.slice none 0 0), .val (.slice none 0 0)], .str [(0, 6)]) := by kernel_rfl
theorem bd_92 (parts : List (Nat × AV)) : x6b Tryz.prog 92 parts = (fillA (fun i => [(0, 6)][i]?) [.val (.int .i64 0), .val (.int .i64 0), .val (.int .i64 0), .val (.int .i64 0), .val (.slice none 0 0), .val (.slice none 0 0)] parts).map .agg := by simp only [x6b, lay_92]; rfl
theorem iS_106 (xs : List AV) (k : IntKind) (n : Int) : xdb Tryz.prog 106 (.sl 1 xs) (.val (.int k n)) = if 0 ≤ n then (xs[n.toNat]?).map fun z => .ptr z 0 else none := xuc _ x2v xnm xs k n
theorem lS_106 (sz : Nat) (xs : List AV) : xtb Tryz.prog 106 (.sl sz xs) = some (int xs.length) := len_sl _ x2v sz xs
theorem iS_111 (xs : List AV) (k : IntKind) (n : Int) : xdb Tryz.prog 111 (.sl 1 xs) (.val (.int k n)) = if 0 ≤ n then (xs[n.toNat]?).map fun z => .ptr z 0 else none := xuc _ x9p aggN_3 xs k n
theorem bS_111 (len : Nat) (parts : Array (Nat × Operand)) (V : Nat → Option AO) (new : Nat) (ρ : Operand → AV) : evalOp Tryz.prog (.buildSlice 111 len parts) V new ρ = if len * 1 ≤ 16777216 then (setsA 1 (List.replicate len (.val (.int .i64 0))) (parts.toList.map fun p => (p.1, ρ p.2))).map fun xs => (.msl new len, [(new, some (.row 3 1 xs))]) else none := by rw [xyd _ _ _ _ 111 len parts 3 x9p, aggN_3, zero_3, xed]; simp [xh, AV.one, Value.oneCell']
theorem lS_111 (sz : Nat) (xs : List AV) : xtb Tryz.prog 111 (.sl sz xs) = some (int xs.length) := len_sl _ x9p sz xs
theorem ld_112 (y : AV) (off : Nat) : evalLd Tryz.prog 112 y off = ldOne y off := ld_one _ xb2 y off
theorem x6z : mapOf Tryz.prog 112 = some (.int .i64, 3) := by kernel_rfl
theorem lk_112 (V : Nat → Option AO) (c : Bool) (l : Nat) (kv : Value) : x4g Tryz.prog 112 c V (.mp l) (.val kv) = lookK c (.int .i64) (zeroOf Tryz.prog 3) kv (V l) := xsbb _ V x6z c l kv
theorem mu_112 (V : Nat → Option AO) (l : Nat) (kv : Value) (x : AV) : x2d Tryz.prog 112 V (.mp l) (.val kv) x = mupdK (.int .i64) kv x l (V l) := xwbb _ V x6z l kv x
theorem ld_113 (y : AV) (off : Nat) : evalLd Tryz.prog 113 y off = ldOne y off := ld_one _ x2w y off
theorem st_113 (V : Nat → Option AO) (l sz i off : Nat) (v : AV) : xzb Tryz.prog 113 V (.loc l sz i off) v = if xh v 1 = true then (rowT (V l) sz i).bind fun p => (stAV p.2.2 off v).map fun x' => [(l, some (.row p.1 sz (p.2.1.set i x')))] else none := xad _ x2w V l sz i off v
theorem ap_113 (V : Nat → Option AO) (s x : AV) (new : Nat) : xjc Tryz.prog 113 V s x new = appK 16 144 2 new (oldsOf V s 144 2) (newsOf V x 2) := xug _ V x8v x92 xa2 x22 rfl s x new
theorem bS_113 (len : Nat) (parts : Array (Nat × Operand)) (V : Nat → Option AO) (new : Nat) (ρ : Operand → AV) : evalOp Tryz.prog (.buildSlice 113 len parts) V new ρ = if len * 2 ≤ 16777216 then (setsA 2 (List.replicate len (.agg [.val (.int .i64 0), .val (.int .i64 0)])) (parts.toList.map fun p => (p.1, ρ p.2))).map fun xs => (.msl new len, [(new, some (.row 144 2 xs))]) else none := by rw [xyd _ _ _ _ 113 len parts 144 x8v, x92, x22, xed]; simp [xh, AV.one, Value.oneCell']
theorem bx_115 (x : Operand) (V : Nat → Option AO) (new : Nat) (ρ : Operand → AV) : evalOp Tryz.prog (.box 115 x) V new ρ = if xh (ρ x) 4 = true then some (.loc new 4 0 0, [(new, some (.row 115 4 [ρ x]))]) else none := by rw [E_box, xibb, xpd]
theorem xjab (l sz i off : Nat) : xk Tryz.prog 115 0 (.loc l sz i off) = some (.loc l sz i (off + 0)) := xw _ xc1 xnm (by decide) l sz i off
theorem xqab (l sz i off : Nat) : xk Tryz.prog 115 1 (.loc l sz i off) = some (.loc l sz i (off + 1)) := xw _ xp1 xjz (by decide) l sz i off
theorem xtab (l sz i off : Nat) : xk Tryz.prog 115 2 (.loc l sz i off) = some (.loc l sz i (off + 2)) := xw _ xh1 xb2 (by decide) l sz i off
theorem xr9 (l sz i off : Nat) : xk Tryz.prog 115 3 (.loc l sz i off) = some (.loc l sz i (off + 3)) := xw _ xr0 x2w (by decide) l sz i off
theorem xzcb : layOf Tryz.prog 115 = some ([.val (.slice none 0 0), .val (.slice none 0 0), .val (.map none), .val (.slice none 0 0)], .str [(0, 1), (1, 1), (2, 1), (3, 1)]) := by kernel_rfl
theorem bd_115 (parts : List (Nat × AV)) : x6b Tryz.prog 115 parts = (fillA (fun i => [(0, 1), (1, 1), (2, 1), (3, 1)][i]?) [.val (.slice none 0 0), .val (.slice none 0 0), .val (.map none), .val (.slice none 0 0)] parts).map .agg := by simp only [x6b, xzcb]; rfl
theorem xecb : layOf Tryz.prog 144 = some ([.val (.int .i64 0), .val (.int .i64 0)], .arr 1) := by kernel_rfl
theorem bd_144 (parts : List (Nat × AV)) : x6b Tryz.prog 144 parts = (fillA (fun i => some (i * 1, 1)) [.val (.int .i64 0), .val (.int .i64 0)] parts).map .agg := by simp only [x6b, xecb]; rfl
end Go.Proofs.YtapdjibjnfeipaaGreatDoor.AL

