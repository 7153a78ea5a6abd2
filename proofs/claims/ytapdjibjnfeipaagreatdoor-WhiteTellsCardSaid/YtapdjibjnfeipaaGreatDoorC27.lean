/- A law of the given program is proved: part 27 of 50. -/
import Derived.Test.YtapdjibjnfeipaaGreatDoorC26
set_option linter.all false
/- AL: the evaluator's rules with the facts of this seat's types, printed by rules.py. -/
set_option linter.unusedSimpArgs false
set_option linter.unusedVariables false
namespace Go.Proofs.YtapdjibjnfeipaaGreatDoor.AL
open Go Go.Proofs
set_option maxRecDepth 100000
theorem mixed : Tryz.prog.follows .mixedOrders = true := by kernel_rfl
theorem zero_2 : zeroOf Tryz.prog 2 = some (.val (.int .i64 0)) := by kernel_rfl
theorem zero_3 : zeroOf Tryz.prog 3 = some (.val (.int .i64 0)) := by kernel_rfl
theorem zero_4 : zeroOf Tryz.prog 4 = some (.val (.bool false)) := by kernel_rfl
theorem zero_5 : zeroOf Tryz.prog 5 = some (.val (.int .u8 0)) := by kernel_rfl
theorem zero_9 : zeroOf Tryz.prog 9 = some (.val (.string ⟨#[]⟩)) := by kernel_rfl
theorem zero_21 : zeroOf Tryz.prog 21 = some (.val (.int .i32 0)) := by kernel_rfl
theorem zero_23 : zeroOf Tryz.prog 23 = some (.agg [.val (.int .i64 0), .val (.int .i64 0), .val (.int .i64 0), .val (.int .i64 0)]) := by kernel_rfl
theorem zero_24 : zeroOf Tryz.prog 24 = some (.val (.slice none 0 0)) := by kernel_rfl
theorem zero_26 : zeroOf Tryz.prog 26 = some (.agg [.val (.slice none 0 0)]) := by kernel_rfl
theorem zero_27 : zeroOf Tryz.prog 27 = some (.val (.slice none 0 0)) := by kernel_rfl
theorem zero_29 : zeroOf Tryz.prog 29 = some (.agg [.val (.int .i64 0), .val (.int .i64 0), .val (.int .i64 0), .val (.int .i64 0), .val (.slice none 0 0), .val (.slice none 0 0)]) := by kernel_rfl
theorem zero_30 : zeroOf Tryz.prog 30 = some (.val (.slice none 0 0)) := by kernel_rfl
theorem zero_32 : zeroOf Tryz.prog 32 = some (.agg [.val (.int .i64 0), .val (.slice none 0 0)]) := by kernel_rfl
theorem zero_36 : zeroOf Tryz.prog 36 = some (.val (.slice none 0 0)) := by kernel_rfl
theorem zero_38 : zeroOf Tryz.prog 38 = some (.agg [.val (.int .i64 0), .val (.int .i64 0), .val (.int .i64 0), .val (.int .i64 0)]) := by kernel_rfl
theorem zero_42 : zeroOf Tryz.prog 42 = some (.val (.slice none 0 0)) := by kernel_rfl
theorem zero_45 : zeroOf Tryz.prog 45 = some (.agg [.val (.int .i64 0), .val (.int .i64 0)]) := by kernel_rfl
theorem zero_55 : zeroOf Tryz.prog 55 = some (.agg [.val (.int .i64 0), .val (.int .i64 0), .val (.string ⟨#[]⟩)]) := by kernel_rfl
theorem zero_61 : zeroOf Tryz.prog 61 = some (.val (.slice none 0 0)) := by kernel_rfl
theorem zero_62 : zeroOf Tryz.prog 62 = some (.val (.slice none 0 0)) := by kernel_rfl
theorem zero_66 : zeroOf Tryz.prog 66 = some (.agg [.val (.int .i64 0), .val (.int .i64 0), .val (.string ⟨#[]⟩), .val (.int .i64 0), .val (.int .i64 0), .val (.int .i64 0), .val (.int .i64 0)]) := by kernel_rfl
theorem zero_68 : zeroOf Tryz.prog 68 = some (.agg [.val (.int .i64 0), .val (.int .i64 0), .val (.int .i64 0), .val (.int .i64 0), .val (.slice none 0 0), .val (.slice none 0 0), .val (.int .i64 0), .val (.int .i64 0), .val (.string ⟨#[]⟩), .val (.int .i64 0), .val (.int .i64 0), .val (.int .i64 0), .val (.int .i64 0)]) := by kernel_rfl
theorem zero_73 : zeroOf Tryz.prog 73 = some (.val (.slice none 0 0)) := by kernel_rfl
theorem zero_74 : zeroOf Tryz.prog 74 = some (.val (.slice none 0 0)) := by kernel_rfl
theorem zero_79 : zeroOf Tryz.prog 79 = some (.agg [.val (.int .i64 0), .val (.int .i64 0), .val (.string ⟨#[]⟩)]) := by kernel_rfl
theorem zero_92 : zeroOf Tryz.prog 92 = some (.agg [.val (.int .i64 0), .val (.int .i64 0), .val (.int .i64 0), .val (.int .i64 0), .val (.slice none 0 0), .val (.slice none 0 0)]) := by kernel_rfl
theorem zero_106 : zeroOf Tryz.prog 106 = some (.val (.slice none 0 0)) := by kernel_rfl
theorem zero_111 : zeroOf Tryz.prog 111 = some (.val (.slice none 0 0)) := by kernel_rfl
theorem zero_112 : zeroOf Tryz.prog 112 = some (.val (.map none)) := by kernel_rfl
theorem zero_113 : zeroOf Tryz.prog 113 = some (.val (.slice none 0 0)) := by kernel_rfl
theorem zero_115 : zeroOf Tryz.prog 115 = some (.agg [.val (.slice none 0 0), .val (.slice none 0 0), .val (.map none), .val (.slice none 0 0)]) := by kernel_rfl
theorem zero_116 : zeroOf Tryz.prog 116 = some (.val (.pointer none)) := by kernel_rfl
theorem zero_144 : zeroOf Tryz.prog 144 = some (.agg [.val (.int .i64 0), .val (.int .i64 0)]) := by kernel_rfl
theorem ld_1 (y : AV) (off : Nat) : evalLd Tryz.prog 1 y off = ldOne y off := ld_one _ aggN_1 y off
theorem st_1 (V : Nat → Option AO) (l sz i off : Nat) (v : AV) : evalStore Tryz.prog 1 V (.loc l sz i off) v = if hasSize v 1 = true then (rowT (V l) sz i).bind fun p => (stAV p.2.2 off v).map fun x' => [(l, some (.row p.1 sz (p.2.1.set i x')))] else none := store_loc _ aggN_1 V l sz i off v
theorem bx_1 (x : Operand) (V : Nat → Option AO) (new : Nat) (ρ : Operand → AV) : evalOp Tryz.prog (.box 1 x) V new ρ = if hasSize (ρ x) 1 = true then some (.loc new 1 0 0, [(new, some (.row 1 1 [ρ x]))]) else none := by rw [E_box, aggN_1, boxK_some]
theorem ld_2 (y : AV) (off : Nat) : evalLd Tryz.prog 2 y off = ldOne y off := ld_one _ aggN_2 y off
theorem st_2 (V : Nat → Option AO) (l sz i off : Nat) (v : AV) : evalStore Tryz.prog 2 V (.loc l sz i off) v = if hasSize v 1 = true then (rowT (V l) sz i).bind fun p => (stAV p.2.2 off v).map fun x' => [(l, some (.row p.1 sz (p.2.1.set i x')))] else none := store_loc _ aggN_2 V l sz i off v
theorem bx_2 (x : Operand) (V : Nat → Option AO) (new : Nat) (ρ : Operand → AV) : evalOp Tryz.prog (.box 2 x) V new ρ = if hasSize (ρ x) 1 = true then some (.loc new 1 0 0, [(new, some (.row 2 1 [ρ x]))]) else none := by rw [E_box, aggN_2, boxK_some]
theorem al_2 (V : Nat → Option AO) (new : Nat) (ρ : Operand → AV) : evalOp Tryz.prog (.alloc 2) V new ρ = some (.loc new 1 0 0, [(new, some (.row 2 1 [.val (.int .i64 0)]))]) := by rw [E_alloc, aggN_2, zero_2, allocK_some]; rfl
theorem ld_3 (y : AV) (off : Nat) : evalLd Tryz.prog 3 y off = ldOne y off := ld_one _ aggN_3 y off
theorem st_3 (V : Nat → Option AO) (l sz i off : Nat) (v : AV) : evalStore Tryz.prog 3 V (.loc l sz i off) v = if hasSize v 1 = true then (rowT (V l) sz i).bind fun p => (stAV p.2.2 off v).map fun x' => [(l, some (.row p.1 sz (p.2.1.set i x')))] else none := store_loc _ aggN_3 V l sz i off v
theorem bx_3 (x : Operand) (V : Nat → Option AO) (new : Nat) (ρ : Operand → AV) : evalOp Tryz.prog (.box 3 x) V new ρ = if hasSize (ρ x) 1 = true then some (.loc new 1 0 0, [(new, some (.row 3 1 [ρ x]))]) else none := by rw [E_box, aggN_3, boxK_some]
theorem al_3 (V : Nat → Option AO) (new : Nat) (ρ : Operand → AV) : evalOp Tryz.prog (.alloc 3) V new ρ = some (.loc new 1 0 0, [(new, some (.row 3 1 [.val (.int .i64 0)]))]) := by rw [E_alloc, aggN_3, zero_3, allocK_some]; rfl
theorem ld_4 (y : AV) (off : Nat) : evalLd Tryz.prog 4 y off = ldOne y off := ld_one _ aggN_4 y off
theorem st_4 (V : Nat → Option AO) (l sz i off : Nat) (v : AV) : evalStore Tryz.prog 4 V (.loc l sz i off) v = if hasSize v 1 = true then (rowT (V l) sz i).bind fun p => (stAV p.2.2 off v).map fun x' => [(l, some (.row p.1 sz (p.2.1.set i x')))] else none := store_loc _ aggN_4 V l sz i off v
theorem bx_4 (x : Operand) (V : Nat → Option AO) (new : Nat) (ρ : Operand → AV) : evalOp Tryz.prog (.box 4 x) V new ρ = if hasSize (ρ x) 1 = true then some (.loc new 1 0 0, [(new, some (.row 4 1 [ρ x]))]) else none := by rw [E_box, aggN_4, boxK_some]
theorem al_4 (V : Nat → Option AO) (new : Nat) (ρ : Operand → AV) : evalOp Tryz.prog (.alloc 4) V new ρ = some (.loc new 1 0 0, [(new, some (.row 4 1 [.val (.bool false)]))]) := by rw [E_alloc, aggN_4, zero_4, allocK_some]; rfl
theorem bq_4 (a b : Bool) : binK Tryz.prog .eql 4 (bool a) (bool b) = brR (a == b) := bool_eql kindOf_4 a b
theorem bn_4 (a b : Bool) : binK Tryz.prog .neq 4 (bool a) (bool b) = brR (!(a == b)) := bool_neq kindOf_4 a b
theorem ld_5 (y : AV) (off : Nat) : evalLd Tryz.prog 5 y off = ldOne y off := ld_one _ aggN_5 y off
theorem st_5 (V : Nat → Option AO) (l sz i off : Nat) (v : AV) : evalStore Tryz.prog 5 V (.loc l sz i off) v = if hasSize v 1 = true then (rowT (V l) sz i).bind fun p => (stAV p.2.2 off v).map fun x' => [(l, some (.row p.1 sz (p.2.1.set i x')))] else none := store_loc _ aggN_5 V l sz i off v
theorem bx_5 (x : Operand) (V : Nat → Option AO) (new : Nat) (ρ : Operand → AV) : evalOp Tryz.prog (.box 5 x) V new ρ = if hasSize (ρ x) 1 = true then some (.loc new 1 0 0, [(new, some (.row 5 1 [ρ x]))]) else none := by rw [E_box, aggN_5, boxK_some]
theorem al_5 (V : Nat → Option AO) (new : Nat) (ρ : Operand → AV) : evalOp Tryz.prog (.alloc 5) V new ρ = some (.loc new 1 0 0, [(new, some (.row 5 1 [.val (.int .u8 0)]))]) := by rw [E_alloc, aggN_5, zero_5, allocK_some]; rfl
theorem ld_9 (y : AV) (off : Nat) : evalLd Tryz.prog 9 y off = ldOne y off := ld_one _ aggN_9 y off
theorem st_9 (V : Nat → Option AO) (l sz i off : Nat) (v : AV) : evalStore Tryz.prog 9 V (.loc l sz i off) v = if hasSize v 1 = true then (rowT (V l) sz i).bind fun p => (stAV p.2.2 off v).map fun x' => [(l, some (.row p.1 sz (p.2.1.set i x')))] else none := store_loc _ aggN_9 V l sz i off v
theorem bx_9 (x : Operand) (V : Nat → Option AO) (new : Nat) (ρ : Operand → AV) : evalOp Tryz.prog (.box 9 x) V new ρ = if hasSize (ρ x) 1 = true then some (.loc new 1 0 0, [(new, some (.row 9 1 [ρ x]))]) else none := by rw [E_box, aggN_9, boxK_some]
theorem al_9 (V : Nat → Option AO) (new : Nat) (ρ : Operand → AV) : evalOp Tryz.prog (.alloc 9) V new ρ = some (.loc new 1 0 0, [(new, some (.row 9 1 [.val (.string ⟨#[]⟩)]))]) := by rw [E_alloc, aggN_9, zero_9, allocK_some]; rfl
theorem lB_9 (s : ByteArray) : evalLen Tryz.prog 9 (.val (.string s)) = some (int s.size) := len_str _ kindOf_9 s
theorem iB_9 (s : ByteArray) (k : IntKind) (n : Int) : evalIndex Tryz.prog 9 (.val (.string s)) (.val (.int k n)) = if 0 ≤ n then (s[n.toNat]?).map fun b => u8 b else none := index_str _ kindOf_9 s k n
theorem ld_21 (y : AV) (off : Nat) : evalLd Tryz.prog 21 y off = ldOne y off := ld_one _ aggN_21 y off
theorem st_21 (V : Nat → Option AO) (l sz i off : Nat) (v : AV) : evalStore Tryz.prog 21 V (.loc l sz i off) v = if hasSize v 1 = true then (rowT (V l) sz i).bind fun p => (stAV p.2.2 off v).map fun x' => [(l, some (.row p.1 sz (p.2.1.set i x')))] else none := store_loc _ aggN_21 V l sz i off v
theorem bx_21 (x : Operand) (V : Nat → Option AO) (new : Nat) (ρ : Operand → AV) : evalOp Tryz.prog (.box 21 x) V new ρ = if hasSize (ρ x) 1 = true then some (.loc new 1 0 0, [(new, some (.row 21 1 [ρ x]))]) else none := by rw [E_box, aggN_21, boxK_some]
theorem al_21 (V : Nat → Option AO) (new : Nat) (ρ : Operand → AV) : evalOp Tryz.prog (.alloc 21) V new ρ = some (.loc new 1 0 0, [(new, some (.row 21 1 [.val (.int .i32 0)]))]) := by rw [E_alloc, aggN_21, zero_21, allocK_some]; rfl
theorem ld_23 (y : AV) (off : Nat) : evalLd Tryz.prog 23 y off = ldAgg y off 4 := ld_agg _ aggN_23 y off
theorem st_23 (V : Nat → Option AO) (l sz i off : Nat) (v : AV) : evalStore Tryz.prog 23 V (.loc l sz i off) v = if hasSize v 4 = true then (rowT (V l) sz i).bind fun p => (stAV p.2.2 off v).map fun x' => [(l, some (.row p.1 sz (p.2.1.set i x')))] else none := store_loc _ aggN_23 V l sz i off v
theorem bx_23 (x : Operand) (V : Nat → Option AO) (new : Nat) (ρ : Operand → AV) : evalOp Tryz.prog (.box 23 x) V new ρ = if hasSize (ρ x) 4 = true then some (.loc new 4 0 0, [(new, some (.row 23 4 [ρ x]))]) else none := by rw [E_box, aggN_23, boxK_some]
theorem al_23 (V : Nat → Option AO) (new : Nat) (ρ : Operand → AV) : evalOp Tryz.prog (.alloc 23) V new ρ = some (.loc new 4 0 0, [(new, some (.row 23 4 [.agg [.val (.int .i64 0), .val (.int .i64 0), .val (.int .i64 0), .val (.int .i64 0)]]))]) := by rw [E_alloc, aggN_23, zero_23, allocK_some]; rfl
theorem fL_23_0 (l sz i off : Nat) : evalFieldAddr Tryz.prog 23 0 (.loc l sz i off) = some (.loc l sz i (off + 0)) := fieldAddr_loc _ fieldOf_23_0 aggN_3 (by decide) l sz i off
theorem fP_23_0 (y : AV) (off : Nat) : evalFieldAddr Tryz.prog 23 0 (.ptr y off) = some (.ptr y (off + 0)) := fieldAddr_ptr _ fieldOf_23_0 aggN_3 (by decide) y off
theorem fd_23_0 (x : AV) : evalField Tryz.prog 23 0 x = partO 0 x := field_one fieldOf_23_0 aggN_3 x
theorem fL_23_1 (l sz i off : Nat) : evalFieldAddr Tryz.prog 23 1 (.loc l sz i off) = some (.loc l sz i (off + 1)) := fieldAddr_loc _ fieldOf_23_1 aggN_3 (by decide) l sz i off
theorem fP_23_1 (y : AV) (off : Nat) : evalFieldAddr Tryz.prog 23 1 (.ptr y off) = some (.ptr y (off + 1)) := fieldAddr_ptr _ fieldOf_23_1 aggN_3 (by decide) y off
theorem fd_23_1 (x : AV) : evalField Tryz.prog 23 1 x = partO 1 x := field_one fieldOf_23_1 aggN_3 x
theorem fL_23_2 (l sz i off : Nat) : evalFieldAddr Tryz.prog 23 2 (.loc l sz i off) = some (.loc l sz i (off + 2)) := fieldAddr_loc _ fieldOf_23_2 aggN_3 (by decide) l sz i off
theorem fP_23_2 (y : AV) (off : Nat) : evalFieldAddr Tryz.prog 23 2 (.ptr y off) = some (.ptr y (off + 2)) := fieldAddr_ptr _ fieldOf_23_2 aggN_3 (by decide) y off
theorem fd_23_2 (x : AV) : evalField Tryz.prog 23 2 x = partO 2 x := field_one fieldOf_23_2 aggN_3 x
theorem fL_23_3 (l sz i off : Nat) : evalFieldAddr Tryz.prog 23 3 (.loc l sz i off) = some (.loc l sz i (off + 3)) := fieldAddr_loc _ fieldOf_23_3 aggN_3 (by decide) l sz i off
theorem fP_23_3 (y : AV) (off : Nat) : evalFieldAddr Tryz.prog 23 3 (.ptr y off) = some (.ptr y (off + 3)) := fieldAddr_ptr _ fieldOf_23_3 aggN_3 (by decide) y off
theorem fd_23_3 (x : AV) : evalField Tryz.prog 23 3 x = partO 3 x := field_one fieldOf_23_3 aggN_3 x
theorem lay_23 : layOf Tryz.prog 23 = some ([.val (.int .i64 0), .val (.int .i64 0), .val (.int .i64 0), .val (.int .i64 0)], .str [(0, 1), (1, 1), (2, 1), (3, 1)]) := by kernel_rfl
theorem bd_23 (parts : List (Nat × AV)) : evalBuild Tryz.prog 23 parts = (fillA (fun i => [(0, 1), (1, 1), (2, 1), (3, 1)][i]?) [.val (.int .i64 0), .val (.int .i64 0), .val (.int .i64 0), .val (.int .i64 0)] parts).map .agg := by simp only [evalBuild, lay_23]; rfl
theorem ld_24 (y : AV) (off : Nat) : evalLd Tryz.prog 24 y off = ldOne y off := ld_one _ aggN_24 y off
theorem st_24 (V : Nat → Option AO) (l sz i off : Nat) (v : AV) : evalStore Tryz.prog 24 V (.loc l sz i off) v = if hasSize v 1 = true then (rowT (V l) sz i).bind fun p => (stAV p.2.2 off v).map fun x' => [(l, some (.row p.1 sz (p.2.1.set i x')))] else none := store_loc _ aggN_24 V l sz i off v
theorem bx_24 (x : Operand) (V : Nat → Option AO) (new : Nat) (ρ : Operand → AV) : evalOp Tryz.prog (.box 24 x) V new ρ = if hasSize (ρ x) 1 = true then some (.loc new 1 0 0, [(new, some (.row 24 1 [ρ x]))]) else none := by rw [E_box, aggN_24, boxK_some]
theorem al_24 (V : Nat → Option AO) (new : Nat) (ρ : Operand → AV) : evalOp Tryz.prog (.alloc 24) V new ρ = some (.loc new 1 0 0, [(new, some (.row 24 1 [.val (.slice none 0 0)]))]) := by rw [E_alloc, aggN_24, zero_24, allocK_some]; rfl
theorem iS_24 (xs : List AV) (k : IntKind) (n : Int) : evalIndexAddr Tryz.prog 24 (.sl 13 xs) (.val (.int k n)) = if 0 ≤ n then (xs[n.toNat]?).map fun z => .ptr z 0 else none := indexAddr_sl _ elemOfT_24 aggN_68 xs k n
theorem iM_24 (l len : Nat) (k : IntKind) (n : Int) : evalIndexAddr Tryz.prog 24 (.msl l len) (.val (.int k n)) = if 0 ≤ n ∧ n < len then some (.loc l 13 n.toNat 0) else none := indexAddr_msl _ elemOfT_24 aggN_68 l len k n
theorem ap_24 (V : Nat → Option AO) (s x : AV) (new : Nat) : evalAppend Tryz.prog 24 V s x new = appK 144 68 13 new (oldsOf V s 68 13) (newsOf V x 13) := append_eq _ V elemOfT_24 aggN_68 bytesOfT_68 zero_68 rfl s x new
theorem mk_24 (ka kb : IntKind) (a c : Int) (new : Nat) : evalMakeSlice Tryz.prog 24 (.val (.int ka a)) (.val (.int kb c)) new = if 0 ≤ a ∧ a ≤ c ∧ (144 : Int) * c ≤ 281474976710656 ∧ c ≤ 9223372036854775807 then some (.msl new a.toNat, [(new, some (.row 68 13 (List.replicate a.toNat (.agg [.val (.int .i64 0), .val (.int .i64 0), .val (.int .i64 0), .val (.int .i64 0), .val (.slice none 0 0), .val (.slice none 0 0), .val (.int .i64 0), .val (.int .i64 0), .val (.string ⟨#[]⟩), .val (.int .i64 0), .val (.int .i64 0), .val (.int .i64 0), .val (.int .i64 0)]))))]) else none := by have h := makeSlice_eq _ elemOfT_24 aggN_68 bytesOfT_68 zero_68 rfl ka kb a c new; exact h
theorem bS_24 (len : Nat) (parts : Array (Nat × Operand)) (V : Nat → Option AO) (new : Nat) (ρ : Operand → AV) : evalOp Tryz.prog (.buildSlice 24 len parts) V new ρ = if len * 13 ≤ 16777216 then (setsA 13 (List.replicate len (.agg [.val (.int .i64 0), .val (.int .i64 0), .val (.int .i64 0), .val (.int .i64 0), .val (.slice none 0 0), .val (.slice none 0 0), .val (.int .i64 0), .val (.int .i64 0), .val (.string ⟨#[]⟩), .val (.int .i64 0), .val (.int .i64 0), .val (.int .i64 0), .val (.int .i64 0)])) (parts.toList.map fun p => (p.1, ρ p.2))).map fun xs => (.msl new len, [(new, some (.row 68 13 xs))]) else none := by rw [E_buildSlice _ _ _ _ 24 len parts 68 elemOfT_24, aggN_68, zero_68, buildSliceK]; simp [hasSize, AV.one, Value.oneCell']
theorem lS_24 (sz : Nat) (xs : List AV) : evalLen Tryz.prog 24 (.sl sz xs) = some (int xs.length) := len_sl _ elemOfT_24 sz xs
theorem lM_24 (l n : Nat) : evalLen Tryz.prog 24 (.msl l n) = some (int n) := len_msl _ elemOfT_24 l n
theorem lN_24  : evalLen Tryz.prog 24 nilS = some (int 0) := len_nil _ elemOfT_24
theorem l0_24  : evalLen Tryz.prog 24 .e0 = some (int 0) := len_e0 _ elemOfT_24
theorem ld_26 (y : AV) (off : Nat) : evalLd Tryz.prog 26 y off = ldAgg y off 1 := ld_agg _ aggN_26 y off
theorem st_26 (V : Nat → Option AO) (l sz i off : Nat) (v : AV) : evalStore Tryz.prog 26 V (.loc l sz i off) v = if hasSize v 1 = true then (rowT (V l) sz i).bind fun p => (stAV p.2.2 off v).map fun x' => [(l, some (.row p.1 sz (p.2.1.set i x')))] else none := store_loc _ aggN_26 V l sz i off v
theorem bx_26 (x : Operand) (V : Nat → Option AO) (new : Nat) (ρ : Operand → AV) : evalOp Tryz.prog (.box 26 x) V new ρ = if hasSize (ρ x) 1 = true then some (.loc new 1 0 0, [(new, some (.row 26 1 [ρ x]))]) else none := by rw [E_box, aggN_26, boxK_some]
theorem al_26 (V : Nat → Option AO) (new : Nat) (ρ : Operand → AV) : evalOp Tryz.prog (.alloc 26) V new ρ = some (.loc new 1 0 0, [(new, some (.row 26 1 [.agg [.val (.slice none 0 0)]]))]) := by rw [E_alloc, aggN_26, zero_26, allocK_some]; rfl
theorem fL_26_0 (l sz i off : Nat) : evalFieldAddr Tryz.prog 26 0 (.loc l sz i off) = some (.loc l sz i (off + 0)) := fieldAddr_loc _ fieldOf_26_0 aggN_24 (by decide) l sz i off
theorem fP_26_0 (y : AV) (off : Nat) : evalFieldAddr Tryz.prog 26 0 (.ptr y off) = some (.ptr y (off + 0)) := fieldAddr_ptr _ fieldOf_26_0 aggN_24 (by decide) y off
theorem fd_26_0 (x : AV) : evalField Tryz.prog 26 0 x = partO 0 x := field_one fieldOf_26_0 aggN_24 x
theorem lay_26 : layOf Tryz.prog 26 = some ([.val (.slice none 0 0)], .str [(0, 1)]) := by kernel_rfl
theorem bd_26 (parts : List (Nat × AV)) : evalBuild Tryz.prog 26 parts = (fillA (fun i => [(0, 1)][i]?) [.val (.slice none 0 0)] parts).map .agg := by simp only [evalBuild, lay_26]; rfl
theorem ld_27 (y : AV) (off : Nat) : evalLd Tryz.prog 27 y off = ldOne y off := ld_one _ aggN_27 y off
theorem st_27 (V : Nat → Option AO) (l sz i off : Nat) (v : AV) : evalStore Tryz.prog 27 V (.loc l sz i off) v = if hasSize v 1 = true then (rowT (V l) sz i).bind fun p => (stAV p.2.2 off v).map fun x' => [(l, some (.row p.1 sz (p.2.1.set i x')))] else none := store_loc _ aggN_27 V l sz i off v
theorem bx_27 (x : Operand) (V : Nat → Option AO) (new : Nat) (ρ : Operand → AV) : evalOp Tryz.prog (.box 27 x) V new ρ = if hasSize (ρ x) 1 = true then some (.loc new 1 0 0, [(new, some (.row 27 1 [ρ x]))]) else none := by rw [E_box, aggN_27, boxK_some]
theorem al_27 (V : Nat → Option AO) (new : Nat) (ρ : Operand → AV) : evalOp Tryz.prog (.alloc 27) V new ρ = some (.loc new 1 0 0, [(new, some (.row 27 1 [.val (.slice none 0 0)]))]) := by rw [E_alloc, aggN_27, zero_27, allocK_some]; rfl
theorem iS_27 (xs : List AV) (k : IntKind) (n : Int) : evalIndexAddr Tryz.prog 27 (.sl 1 xs) (.val (.int k n)) = if 0 ≤ n then (xs[n.toNat]?).map fun z => .ptr z 0 else none := indexAddr_sl _ elemOfT_27 aggN_26 xs k n
theorem iM_27 (l len : Nat) (k : IntKind) (n : Int) : evalIndexAddr Tryz.prog 27 (.msl l len) (.val (.int k n)) = if 0 ≤ n ∧ n < len then some (.loc l 1 n.toNat 0) else none := indexAddr_msl _ elemOfT_27 aggN_26 l len k n
theorem ap_27 (V : Nat → Option AO) (s x : AV) (new : Nat) : evalAppend Tryz.prog 27 V s x new = appK 24 26 1 new (oldsOf V s 26 1) (newsOf V x 1) := append_eq _ V elemOfT_27 aggN_26 bytesOfT_26 zero_26 rfl s x new
theorem mk_27 (ka kb : IntKind) (a c : Int) (new : Nat) : evalMakeSlice Tryz.prog 27 (.val (.int ka a)) (.val (.int kb c)) new = if 0 ≤ a ∧ a ≤ c ∧ (24 : Int) * c ≤ 281474976710656 ∧ c ≤ 9223372036854775807 then some (.msl new a.toNat, [(new, some (.row 26 1 (List.replicate a.toNat (.agg [.val (.slice none 0 0)]))))]) else none := by have h := makeSlice_eq _ elemOfT_27 aggN_26 bytesOfT_26 zero_26 rfl ka kb a c new; exact h
theorem bS_27 (len : Nat) (parts : Array (Nat × Operand)) (V : Nat → Option AO) (new : Nat) (ρ : Operand → AV) : evalOp Tryz.prog (.buildSlice 27 len parts) V new ρ = if len * 1 ≤ 16777216 then (setsA 1 (List.replicate len (.agg [.val (.slice none 0 0)])) (parts.toList.map fun p => (p.1, ρ p.2))).map fun xs => (.msl new len, [(new, some (.row 26 1 xs))]) else none := by rw [E_buildSlice _ _ _ _ 27 len parts 26 elemOfT_27, aggN_26, zero_26, buildSliceK]; simp [hasSize, AV.one, Value.oneCell']
theorem lS_27 (sz : Nat) (xs : List AV) : evalLen Tryz.prog 27 (.sl sz xs) = some (int xs.length) := len_sl _ elemOfT_27 sz xs
theorem lM_27 (l n : Nat) : evalLen Tryz.prog 27 (.msl l n) = some (int n) := len_msl _ elemOfT_27 l n
theorem lN_27  : evalLen Tryz.prog 27 nilS = some (int 0) := len_nil _ elemOfT_27
theorem l0_27  : evalLen Tryz.prog 27 .e0 = some (int 0) := len_e0 _ elemOfT_27
theorem ld_29 (y : AV) (off : Nat) : evalLd Tryz.prog 29 y off = ldAgg y off 6 := ld_agg _ aggN_29 y off
theorem st_29 (V : Nat → Option AO) (l sz i off : Nat) (v : AV) : evalStore Tryz.prog 29 V (.loc l sz i off) v = if hasSize v 6 = true then (rowT (V l) sz i).bind fun p => (stAV p.2.2 off v).map fun x' => [(l, some (.row p.1 sz (p.2.1.set i x')))] else none := store_loc _ aggN_29 V l sz i off v
theorem bx_29 (x : Operand) (V : Nat → Option AO) (new : Nat) (ρ : Operand → AV) : evalOp Tryz.prog (.box 29 x) V new ρ = if hasSize (ρ x) 6 = true then some (.loc new 6 0 0, [(new, some (.row 29 6 [ρ x]))]) else none := by rw [E_box, aggN_29, boxK_some]
theorem al_29 (V : Nat → Option AO) (new : Nat) (ρ : Operand → AV) : evalOp Tryz.prog (.alloc 29) V new ρ = some (.loc new 6 0 0, [(new, some (.row 29 6 [.agg [.val (.int .i64 0), .val (.int .i64 0), .val (.int .i64 0), .val (.int .i64 0), .val (.slice none 0 0), .val (.slice none 0 0)]]))]) := by rw [E_alloc, aggN_29, zero_29, allocK_some]; rfl
theorem fL_29_0 (l sz i off : Nat) : evalFieldAddr Tryz.prog 29 0 (.loc l sz i off) = some (.loc l sz i (off + 0)) := fieldAddr_loc _ fieldOf_29_0 aggN_23 (by decide) l sz i off
theorem fP_29_0 (y : AV) (off : Nat) : evalFieldAddr Tryz.prog 29 0 (.ptr y off) = some (.ptr y (off + 0)) := fieldAddr_ptr _ fieldOf_29_0 aggN_23 (by decide) y off
theorem fd_29_0 (x : AV) : evalField Tryz.prog 29 0 x = partA 0 4 x := field_agg' fieldOf_29_0 aggN_23 x
theorem fL_29_1 (l sz i off : Nat) : evalFieldAddr Tryz.prog 29 1 (.loc l sz i off) = some (.loc l sz i (off + 4)) := fieldAddr_loc _ fieldOf_29_1 aggN_26 (by decide) l sz i off
theorem fP_29_1 (y : AV) (off : Nat) : evalFieldAddr Tryz.prog 29 1 (.ptr y off) = some (.ptr y (off + 4)) := fieldAddr_ptr _ fieldOf_29_1 aggN_26 (by decide) y off
theorem fd_29_1 (x : AV) : evalField Tryz.prog 29 1 x = partA 4 1 x := field_agg' fieldOf_29_1 aggN_26 x
theorem fL_29_2 (l sz i off : Nat) : evalFieldAddr Tryz.prog 29 2 (.loc l sz i off) = some (.loc l sz i (off + 5)) := fieldAddr_loc _ fieldOf_29_2 aggN_27 (by decide) l sz i off
theorem fP_29_2 (y : AV) (off : Nat) : evalFieldAddr Tryz.prog 29 2 (.ptr y off) = some (.ptr y (off + 5)) := fieldAddr_ptr _ fieldOf_29_2 aggN_27 (by decide) y off
theorem fd_29_2 (x : AV) : evalField Tryz.prog 29 2 x = partO 5 x := field_one fieldOf_29_2 aggN_27 x
theorem lay_29 : layOf Tryz.prog 29 = some ([.val (.int .i64 0), .val (.int .i64 0), .val (.int .i64 0), .val (.int .i64 0), .val (.slice none 0 0), .val (.slice none 0 0)], .str [(0, 4), (4, 1), (5, 1)]) := by kernel_rfl
theorem bd_29 (parts : List (Nat × AV)) : evalBuild Tryz.prog 29 parts = (fillA (fun i => [(0, 4), (4, 1), (5, 1)][i]?) [.val (.int .i64 0), .val (.int .i64 0), .val (.int .i64 0), .val (.int .i64 0), .val (.slice none 0 0), .val (.slice none 0 0)] parts).map .agg := by simp only [evalBuild, lay_29]; rfl
theorem ld_30 (y : AV) (off : Nat) : evalLd Tryz.prog 30 y off = ldOne y off := ld_one _ aggN_30 y off
theorem st_30 (V : Nat → Option AO) (l sz i off : Nat) (v : AV) : evalStore Tryz.prog 30 V (.loc l sz i off) v = if hasSize v 1 = true then (rowT (V l) sz i).bind fun p => (stAV p.2.2 off v).map fun x' => [(l, some (.row p.1 sz (p.2.1.set i x')))] else none := store_loc _ aggN_30 V l sz i off v
theorem bx_30 (x : Operand) (V : Nat → Option AO) (new : Nat) (ρ : Operand → AV) : evalOp Tryz.prog (.box 30 x) V new ρ = if hasSize (ρ x) 1 = true then some (.loc new 1 0 0, [(new, some (.row 30 1 [ρ x]))]) else none := by rw [E_box, aggN_30, boxK_some]
theorem al_30 (V : Nat → Option AO) (new : Nat) (ρ : Operand → AV) : evalOp Tryz.prog (.alloc 30) V new ρ = some (.loc new 1 0 0, [(new, some (.row 30 1 [.val (.slice none 0 0)]))]) := by rw [E_alloc, aggN_30, zero_30, allocK_some]; rfl
theorem iS_30 (xs : List AV) (k : IntKind) (n : Int) : evalIndexAddr Tryz.prog 30 (.sl 2 xs) (.val (.int k n)) = if 0 ≤ n then (xs[n.toNat]?).map fun z => .ptr z 0 else none := indexAddr_sl _ elemOfT_30 aggN_45 xs k n
theorem iM_30 (l len : Nat) (k : IntKind) (n : Int) : evalIndexAddr Tryz.prog 30 (.msl l len) (.val (.int k n)) = if 0 ≤ n ∧ n < len then some (.loc l 2 n.toNat 0) else none := indexAddr_msl _ elemOfT_30 aggN_45 l len k n
theorem ap_30 (V : Nat → Option AO) (s x : AV) (new : Nat) : evalAppend Tryz.prog 30 V s x new = appK 16 45 2 new (oldsOf V s 45 2) (newsOf V x 2) := append_eq _ V elemOfT_30 aggN_45 bytesOfT_45 zero_45 rfl s x new
theorem mk_30 (ka kb : IntKind) (a c : Int) (new : Nat) : evalMakeSlice Tryz.prog 30 (.val (.int ka a)) (.val (.int kb c)) new = if 0 ≤ a ∧ a ≤ c ∧ (16 : Int) * c ≤ 281474976710656 ∧ c ≤ 9223372036854775807 then some (.msl new a.toNat, [(new, some (.row 45 2 (List.replicate a.toNat (.agg [.val (.int .i64 0), .val (.int .i64 0)]))))]) else none := by have h := makeSlice_eq _ elemOfT_30 aggN_45 bytesOfT_45 zero_45 rfl ka kb a c new; exact h
theorem bS_30 (len : Nat) (parts : Array (Nat × Operand)) (V : Nat → Option AO) (new : Nat) (ρ : Operand → AV) : evalOp Tryz.prog (.buildSlice 30 len parts) V new ρ = if len * 2 ≤ 16777216 then (setsA 2 (List.replicate len (.agg [.val (.int .i64 0), .val (.int .i64 0)])) (parts.toList.map fun p => (p.1, ρ p.2))).map fun xs => (.msl new len, [(new, some (.row 45 2 xs))]) else none := by rw [E_buildSlice _ _ _ _ 30 len parts 45 elemOfT_30, aggN_45, zero_45, buildSliceK]; simp [hasSize, AV.one, Value.oneCell']
theorem lS_30 (sz : Nat) (xs : List AV) : evalLen Tryz.prog 30 (.sl sz xs) = some (int xs.length) := len_sl _ elemOfT_30 sz xs
theorem lM_30 (l n : Nat) : evalLen Tryz.prog 30 (.msl l n) = some (int n) := len_msl _ elemOfT_30 l n
theorem lN_30  : evalLen Tryz.prog 30 nilS = some (int 0) := len_nil _ elemOfT_30
theorem l0_30  : evalLen Tryz.prog 30 .e0 = some (int 0) := len_e0 _ elemOfT_30
theorem ld_32 (y : AV) (off : Nat) : evalLd Tryz.prog 32 y off = ldAgg y off 2 := ld_agg _ aggN_32 y off
theorem st_32 (V : Nat → Option AO) (l sz i off : Nat) (v : AV) : evalStore Tryz.prog 32 V (.loc l sz i off) v = if hasSize v 2 = true then (rowT (V l) sz i).bind fun p => (stAV p.2.2 off v).map fun x' => [(l, some (.row p.1 sz (p.2.1.set i x')))] else none := store_loc _ aggN_32 V l sz i off v
theorem bx_32 (x : Operand) (V : Nat → Option AO) (new : Nat) (ρ : Operand → AV) : evalOp Tryz.prog (.box 32 x) V new ρ = if hasSize (ρ x) 2 = true then some (.loc new 2 0 0, [(new, some (.row 32 2 [ρ x]))]) else none := by rw [E_box, aggN_32, boxK_some]
theorem al_32 (V : Nat → Option AO) (new : Nat) (ρ : Operand → AV) : evalOp Tryz.prog (.alloc 32) V new ρ = some (.loc new 2 0 0, [(new, some (.row 32 2 [.agg [.val (.int .i64 0), .val (.slice none 0 0)]]))]) := by rw [E_alloc, aggN_32, zero_32, allocK_some]; rfl
theorem fL_32_0 (l sz i off : Nat) : evalFieldAddr Tryz.prog 32 0 (.loc l sz i off) = some (.loc l sz i (off + 0)) := fieldAddr_loc _ fieldOf_32_0 aggN_3 (by decide) l sz i off
theorem fP_32_0 (y : AV) (off : Nat) : evalFieldAddr Tryz.prog 32 0 (.ptr y off) = some (.ptr y (off + 0)) := fieldAddr_ptr _ fieldOf_32_0 aggN_3 (by decide) y off
theorem fd_32_0 (x : AV) : evalField Tryz.prog 32 0 x = partO 0 x := field_one fieldOf_32_0 aggN_3 x
theorem fL_32_1 (l sz i off : Nat) : evalFieldAddr Tryz.prog 32 1 (.loc l sz i off) = some (.loc l sz i (off + 1)) := fieldAddr_loc _ fieldOf_32_1 aggN_30 (by decide) l sz i off
theorem fP_32_1 (y : AV) (off : Nat) : evalFieldAddr Tryz.prog 32 1 (.ptr y off) = some (.ptr y (off + 1)) := fieldAddr_ptr _ fieldOf_32_1 aggN_30 (by decide) y off
theorem fd_32_1 (x : AV) : evalField Tryz.prog 32 1 x = partO 1 x := field_one fieldOf_32_1 aggN_30 x
theorem lay_32 : layOf Tryz.prog 32 = some ([.val (.int .i64 0), .val (.slice none 0 0)], .str [(0, 1), (1, 1)]) := by kernel_rfl
theorem bd_32 (parts : List (Nat × AV)) : evalBuild Tryz.prog 32 parts = (fillA (fun i => [(0, 1), (1, 1)][i]?) [.val (.int .i64 0), .val (.slice none 0 0)] parts).map .agg := by simp only [evalBuild, lay_32]; rfl
theorem ld_36 (y : AV) (off : Nat) : evalLd Tryz.prog 36 y off = ldOne y off := ld_one _ aggN_36 y off
theorem st_36 (V : Nat → Option AO) (l sz i off : Nat) (v : AV) : evalStore Tryz.prog 36 V (.loc l sz i off) v = if hasSize v 1 = true then (rowT (V l) sz i).bind fun p => (stAV p.2.2 off v).map fun x' => [(l, some (.row p.1 sz (p.2.1.set i x')))] else none := store_loc _ aggN_36 V l sz i off v
theorem bx_36 (x : Operand) (V : Nat → Option AO) (new : Nat) (ρ : Operand → AV) : evalOp Tryz.prog (.box 36 x) V new ρ = if hasSize (ρ x) 1 = true then some (.loc new 1 0 0, [(new, some (.row 36 1 [ρ x]))]) else none := by rw [E_box, aggN_36, boxK_some]
theorem al_36 (V : Nat → Option AO) (new : Nat) (ρ : Operand → AV) : evalOp Tryz.prog (.alloc 36) V new ρ = some (.loc new 1 0 0, [(new, some (.row 36 1 [.val (.slice none 0 0)]))]) := by rw [E_alloc, aggN_36, zero_36, allocK_some]; rfl
theorem iS_36 (xs : List AV) (k : IntKind) (n : Int) : evalIndexAddr Tryz.prog 36 (.sl 4 xs) (.val (.int k n)) = if 0 ≤ n then (xs[n.toNat]?).map fun z => .ptr z 0 else none := indexAddr_sl _ elemOfT_36 aggN_38 xs k n
theorem iM_36 (l len : Nat) (k : IntKind) (n : Int) : evalIndexAddr Tryz.prog 36 (.msl l len) (.val (.int k n)) = if 0 ≤ n ∧ n < len then some (.loc l 4 n.toNat 0) else none := indexAddr_msl _ elemOfT_36 aggN_38 l len k n
theorem ap_36 (V : Nat → Option AO) (s x : AV) (new : Nat) : evalAppend Tryz.prog 36 V s x new = appK 32 38 4 new (oldsOf V s 38 4) (newsOf V x 4) := append_eq _ V elemOfT_36 aggN_38 bytesOfT_38 zero_38 rfl s x new
theorem mk_36 (ka kb : IntKind) (a c : Int) (new : Nat) : evalMakeSlice Tryz.prog 36 (.val (.int ka a)) (.val (.int kb c)) new = if 0 ≤ a ∧ a ≤ c ∧ (32 : Int) * c ≤ 281474976710656 ∧ c ≤ 9223372036854775807 then some (.msl new a.toNat, [(new, some (.row 38 4 (List.replicate a.toNat (.agg [.val (.int .i64 0), .val (.int .i64 0), .val (.int .i64 0), .val (.int .i64 0)]))))]) else none := by have h := makeSlice_eq _ elemOfT_36 aggN_38 bytesOfT_38 zero_38 rfl ka kb a c new; exact h
theorem bS_36 (len : Nat) (parts : Array (Nat × Operand)) (V : Nat → Option AO) (new : Nat) (ρ : Operand → AV) : evalOp Tryz.prog (.buildSlice 36 len parts) V new ρ = if len * 4 ≤ 16777216 then (setsA 4 (List.replicate len (.agg [.val (.int .i64 0), .val (.int .i64 0), .val (.int .i64 0), .val (.int .i64 0)])) (parts.toList.map fun p => (p.1, ρ p.2))).map fun xs => (.msl new len, [(new, some (.row 38 4 xs))]) else none := by rw [E_buildSlice _ _ _ _ 36 len parts 38 elemOfT_36, aggN_38, zero_38, buildSliceK]; simp [hasSize, AV.one, Value.oneCell']
theorem lS_36 (sz : Nat) (xs : List AV) : evalLen Tryz.prog 36 (.sl sz xs) = some (int xs.length) := len_sl _ elemOfT_36 sz xs
theorem lM_36 (l n : Nat) : evalLen Tryz.prog 36 (.msl l n) = some (int n) := len_msl _ elemOfT_36 l n
theorem lN_36  : evalLen Tryz.prog 36 nilS = some (int 0) := len_nil _ elemOfT_36
theorem l0_36  : evalLen Tryz.prog 36 .e0 = some (int 0) := len_e0 _ elemOfT_36
theorem ld_38 (y : AV) (off : Nat) : evalLd Tryz.prog 38 y off = ldAgg y off 4 := ld_agg _ aggN_38 y off
theorem st_38 (V : Nat → Option AO) (l sz i off : Nat) (v : AV) : evalStore Tryz.prog 38 V (.loc l sz i off) v = if hasSize v 4 = true then (rowT (V l) sz i).bind fun p => (stAV p.2.2 off v).map fun x' => [(l, some (.row p.1 sz (p.2.1.set i x')))] else none := store_loc _ aggN_38 V l sz i off v
theorem bx_38 (x : Operand) (V : Nat → Option AO) (new : Nat) (ρ : Operand → AV) : evalOp Tryz.prog (.box 38 x) V new ρ = if hasSize (ρ x) 4 = true then some (.loc new 4 0 0, [(new, some (.row 38 4 [ρ x]))]) else none := by rw [E_box, aggN_38, boxK_some]
theorem al_38 (V : Nat → Option AO) (new : Nat) (ρ : Operand → AV) : evalOp Tryz.prog (.alloc 38) V new ρ = some (.loc new 4 0 0, [(new, some (.row 38 4 [.agg [.val (.int .i64 0), .val (.int .i64 0), .val (.int .i64 0), .val (.int .i64 0)]]))]) := by rw [E_alloc, aggN_38, zero_38, allocK_some]; rfl
theorem fL_38_0 (l sz i off : Nat) : evalFieldAddr Tryz.prog 38 0 (.loc l sz i off) = some (.loc l sz i (off + 0)) := fieldAddr_loc _ fieldOf_38_0 aggN_3 (by decide) l sz i off
theorem fP_38_0 (y : AV) (off : Nat) : evalFieldAddr Tryz.prog 38 0 (.ptr y off) = some (.ptr y (off + 0)) := fieldAddr_ptr _ fieldOf_38_0 aggN_3 (by decide) y off
theorem fd_38_0 (x : AV) : evalField Tryz.prog 38 0 x = partO 0 x := field_one fieldOf_38_0 aggN_3 x
theorem fL_38_1 (l sz i off : Nat) : evalFieldAddr Tryz.prog 38 1 (.loc l sz i off) = some (.loc l sz i (off + 1)) := fieldAddr_loc _ fieldOf_38_1 aggN_3 (by decide) l sz i off
theorem fP_38_1 (y : AV) (off : Nat) : evalFieldAddr Tryz.prog 38 1 (.ptr y off) = some (.ptr y (off + 1)) := fieldAddr_ptr _ fieldOf_38_1 aggN_3 (by decide) y off
theorem fd_38_1 (x : AV) : evalField Tryz.prog 38 1 x = partO 1 x := field_one fieldOf_38_1 aggN_3 x
theorem fL_38_2 (l sz i off : Nat) : evalFieldAddr Tryz.prog 38 2 (.loc l sz i off) = some (.loc l sz i (off + 2)) := fieldAddr_loc _ fieldOf_38_2 aggN_3 (by decide) l sz i off
theorem fP_38_2 (y : AV) (off : Nat) : evalFieldAddr Tryz.prog 38 2 (.ptr y off) = some (.ptr y (off + 2)) := fieldAddr_ptr _ fieldOf_38_2 aggN_3 (by decide) y off
theorem fd_38_2 (x : AV) : evalField Tryz.prog 38 2 x = partO 2 x := field_one fieldOf_38_2 aggN_3 x
theorem fL_38_3 (l sz i off : Nat) : evalFieldAddr Tryz.prog 38 3 (.loc l sz i off) = some (.loc l sz i (off + 3)) := fieldAddr_loc _ fieldOf_38_3 aggN_3 (by decide) l sz i off
theorem fP_38_3 (y : AV) (off : Nat) : evalFieldAddr Tryz.prog 38 3 (.ptr y off) = some (.ptr y (off + 3)) := fieldAddr_ptr _ fieldOf_38_3 aggN_3 (by decide) y off
theorem fd_38_3 (x : AV) : evalField Tryz.prog 38 3 x = partO 3 x := field_one fieldOf_38_3 aggN_3 x
theorem lay_38 : layOf Tryz.prog 38 = some ([.val (.int .i64 0), .val (.int .i64 0), .val (.int .i64 0), .val (.int .i64 0)], .str [(0, 1), (1, 1), (2, 1), (3, 1)]) := by kernel_rfl
theorem bd_38 (parts : List (Nat × AV)) : evalBuild Tryz.prog 38 parts = (fillA (fun i => [(0, 1), (1, 1), (2, 1), (3, 1)][i]?) [.val (.int .i64 0), .val (.int .i64 0), .val (.int .i64 0), .val (.int .i64 0)] parts).map .agg := by simp only [evalBuild, lay_38]; rfl
theorem ld_42 (y : AV) (off : Nat) : evalLd Tryz.prog 42 y off = ldOne y off := ld_one _ aggN_42 y off
theorem st_42 (V : Nat → Option AO) (l sz i off : Nat) (v : AV) : evalStore Tryz.prog 42 V (.loc l sz i off) v = if hasSize v 1 = true then (rowT (V l) sz i).bind fun p => (stAV p.2.2 off v).map fun x' => [(l, some (.row p.1 sz (p.2.1.set i x')))] else none := store_loc _ aggN_42 V l sz i off v
theorem bx_42 (x : Operand) (V : Nat → Option AO) (new : Nat) (ρ : Operand → AV) : evalOp Tryz.prog (.box 42 x) V new ρ = if hasSize (ρ x) 1 = true then some (.loc new 1 0 0, [(new, some (.row 42 1 [ρ x]))]) else none := by rw [E_box, aggN_42, boxK_some]
theorem al_42 (V : Nat → Option AO) (new : Nat) (ρ : Operand → AV) : evalOp Tryz.prog (.alloc 42) V new ρ = some (.loc new 1 0 0, [(new, some (.row 42 1 [.val (.slice none 0 0)]))]) := by rw [E_alloc, aggN_42, zero_42, allocK_some]; rfl
theorem iS_42 (xs : List AV) (k : IntKind) (n : Int) : evalIndexAddr Tryz.prog 42 (.sl 1 xs) (.val (.int k n)) = if 0 ≤ n then (xs[n.toNat]?).map fun z => .ptr z 0 else none := indexAddr_sl _ elemOfT_42 aggN_9 xs k n
theorem iM_42 (l len : Nat) (k : IntKind) (n : Int) : evalIndexAddr Tryz.prog 42 (.msl l len) (.val (.int k n)) = if 0 ≤ n ∧ n < len then some (.loc l 1 n.toNat 0) else none := indexAddr_msl _ elemOfT_42 aggN_9 l len k n
theorem ap_42 (V : Nat → Option AO) (s x : AV) (new : Nat) : evalAppend Tryz.prog 42 V s x new = appK 16 9 1 new (oldsOf V s 9 1) (newsOf V x 1) := append_eq _ V elemOfT_42 aggN_9 bytesOfT_9 zero_9 rfl s x new
theorem mk_42 (ka kb : IntKind) (a c : Int) (new : Nat) : evalMakeSlice Tryz.prog 42 (.val (.int ka a)) (.val (.int kb c)) new = if 0 ≤ a ∧ a ≤ c ∧ (16 : Int) * c ≤ 281474976710656 ∧ c ≤ 9223372036854775807 then some (.msl new a.toNat, [(new, some (.row 9 1 (List.replicate a.toNat (.val (.string ⟨#[]⟩)))))]) else none := by have h := makeSlice_eq _ elemOfT_42 aggN_9 bytesOfT_9 zero_9 rfl ka kb a c new; exact h
theorem bS_42 (len : Nat) (parts : Array (Nat × Operand)) (V : Nat → Option AO) (new : Nat) (ρ : Operand → AV) : evalOp Tryz.prog (.buildSlice 42 len parts) V new ρ = if len * 1 ≤ 16777216 then (setsA 1 (List.replicate len (.val (.string ⟨#[]⟩))) (parts.toList.map fun p => (p.1, ρ p.2))).map fun xs => (.msl new len, [(new, some (.row 9 1 xs))]) else none := by rw [E_buildSlice _ _ _ _ 42 len parts 9 elemOfT_42, aggN_9, zero_9, buildSliceK]; simp [hasSize, AV.one, Value.oneCell']
theorem lS_42 (sz : Nat) (xs : List AV) : evalLen Tryz.prog 42 (.sl sz xs) = some (int xs.length) := len_sl _ elemOfT_42 sz xs
theorem lM_42 (l n : Nat) : evalLen Tryz.prog 42 (.msl l n) = some (int n) := len_msl _ elemOfT_42 l n
theorem lN_42  : evalLen Tryz.prog 42 nilS = some (int 0) := len_nil _ elemOfT_42
theorem l0_42  : evalLen Tryz.prog 42 .e0 = some (int 0) := len_e0 _ elemOfT_42
theorem ld_45 (y : AV) (off : Nat) : evalLd Tryz.prog 45 y off = ldAgg y off 2 := ld_agg _ aggN_45 y off
theorem st_45 (V : Nat → Option AO) (l sz i off : Nat) (v : AV) : evalStore Tryz.prog 45 V (.loc l sz i off) v = if hasSize v 2 = true then (rowT (V l) sz i).bind fun p => (stAV p.2.2 off v).map fun x' => [(l, some (.row p.1 sz (p.2.1.set i x')))] else none := store_loc _ aggN_45 V l sz i off v
theorem bx_45 (x : Operand) (V : Nat → Option AO) (new : Nat) (ρ : Operand → AV) : evalOp Tryz.prog (.box 45 x) V new ρ = if hasSize (ρ x) 2 = true then some (.loc new 2 0 0, [(new, some (.row 45 2 [ρ x]))]) else none := by rw [E_box, aggN_45, boxK_some]
theorem al_45 (V : Nat → Option AO) (new : Nat) (ρ : Operand → AV) : evalOp Tryz.prog (.alloc 45) V new ρ = some (.loc new 2 0 0, [(new, some (.row 45 2 [.agg [.val (.int .i64 0), .val (.int .i64 0)]]))]) := by rw [E_alloc, aggN_45, zero_45, allocK_some]; rfl
theorem fL_45_0 (l sz i off : Nat) : evalFieldAddr Tryz.prog 45 0 (.loc l sz i off) = some (.loc l sz i (off + 0)) := fieldAddr_loc _ fieldOf_45_0 aggN_3 (by decide) l sz i off
theorem fP_45_0 (y : AV) (off : Nat) : evalFieldAddr Tryz.prog 45 0 (.ptr y off) = some (.ptr y (off + 0)) := fieldAddr_ptr _ fieldOf_45_0 aggN_3 (by decide) y off
theorem fd_45_0 (x : AV) : evalField Tryz.prog 45 0 x = partO 0 x := field_one fieldOf_45_0 aggN_3 x
theorem fL_45_1 (l sz i off : Nat) : evalFieldAddr Tryz.prog 45 1 (.loc l sz i off) = some (.loc l sz i (off + 1)) := fieldAddr_loc _ fieldOf_45_1 aggN_3 (by decide) l sz i off
theorem fP_45_1 (y : AV) (off : Nat) : evalFieldAddr Tryz.prog 45 1 (.ptr y off) = some (.ptr y (off + 1)) := fieldAddr_ptr _ fieldOf_45_1 aggN_3 (by decide) y off
theorem fd_45_1 (x : AV) : evalField Tryz.prog 45 1 x = partO 1 x := field_one fieldOf_45_1 aggN_3 x
theorem lay_45 : layOf Tryz.prog 45 = some ([.val (.int .i64 0), .val (.int .i64 0)], .str [(0, 1), (1, 1)]) := by kernel_rfl
theorem bd_45 (parts : List (Nat × AV)) : evalBuild Tryz.prog 45 parts = (fillA (fun i => [(0, 1), (1, 1)][i]?) [.val (.int .i64 0), .val (.int .i64 0)] parts).map .agg := by simp only [evalBuild, lay_45]; rfl
theorem ld_55 (y : AV) (off : Nat) : evalLd Tryz.prog 55 y off = ldAgg y off 3 := ld_agg _ aggN_55 y off
theorem st_55 (V : Nat → Option AO) (l sz i off : Nat) (v : AV) : evalStore Tryz.prog 55 V (.loc l sz i off) v = if hasSize v 3 = true then (rowT (V l) sz i).bind fun p => (stAV p.2.2 off v).map fun x' => [(l, some (.row p.1 sz (p.2.1.set i x')))] else none := store_loc _ aggN_55 V l sz i off v
theorem bx_55 (x : Operand) (V : Nat → Option AO) (new : Nat) (ρ : Operand → AV) : evalOp Tryz.prog (.box 55 x) V new ρ = if hasSize (ρ x) 3 = true then some (.loc new 3 0 0, [(new, some (.row 55 3 [ρ x]))]) else none := by rw [E_box, aggN_55, boxK_some]
theorem al_55 (V : Nat → Option AO) (new : Nat) (ρ : Operand → AV) : evalOp Tryz.prog (.alloc 55) V new ρ = some (.loc new 3 0 0, [(new, some (.row 55 3 [.agg [.val (.int .i64 0), .val (.int .i64 0), .val (.string ⟨#[]⟩)]]))]) := by rw [E_alloc, aggN_55, zero_55, allocK_some]; rfl
theorem fL_55_0 (l sz i off : Nat) : evalFieldAddr Tryz.prog 55 0 (.loc l sz i off) = some (.loc l sz i (off + 0)) := fieldAddr_loc _ fieldOf_55_0 aggN_3 (by decide) l sz i off
theorem fP_55_0 (y : AV) (off : Nat) : evalFieldAddr Tryz.prog 55 0 (.ptr y off) = some (.ptr y (off + 0)) := fieldAddr_ptr _ fieldOf_55_0 aggN_3 (by decide) y off
theorem fd_55_0 (x : AV) : evalField Tryz.prog 55 0 x = partO 0 x := field_one fieldOf_55_0 aggN_3 x
theorem fL_55_1 (l sz i off : Nat) : evalFieldAddr Tryz.prog 55 1 (.loc l sz i off) = some (.loc l sz i (off + 1)) := fieldAddr_loc _ fieldOf_55_1 aggN_3 (by decide) l sz i off
theorem fP_55_1 (y : AV) (off : Nat) : evalFieldAddr Tryz.prog 55 1 (.ptr y off) = some (.ptr y (off + 1)) := fieldAddr_ptr _ fieldOf_55_1 aggN_3 (by decide) y off
theorem fd_55_1 (x : AV) : evalField Tryz.prog 55 1 x = partO 1 x := field_one fieldOf_55_1 aggN_3 x
theorem fL_55_2 (l sz i off : Nat) : evalFieldAddr Tryz.prog 55 2 (.loc l sz i off) = some (.loc l sz i (off + 2)) := fieldAddr_loc _ fieldOf_55_2 aggN_9 (by decide) l sz i off
theorem fP_55_2 (y : AV) (off : Nat) : evalFieldAddr Tryz.prog 55 2 (.ptr y off) = some (.ptr y (off + 2)) := fieldAddr_ptr _ fieldOf_55_2 aggN_9 (by decide) y off
theorem fd_55_2 (x : AV) : evalField Tryz.prog 55 2 x = partO 2 x := field_one fieldOf_55_2 aggN_9 x
theorem lay_55 : layOf Tryz.prog 55 = some ([.val (.int .i64 0), .val (.int .i64 0), .val (.string ⟨#[]⟩)], .str [(0, 1), (1, 1), (2, 1)]) := by kernel_rfl
theorem bd_55 (parts : List (Nat × AV)) : evalBuild Tryz.prog 55 parts = (fillA (fun i => [(0, 1), (1, 1), (2, 1)][i]?) [.val (.int .i64 0), .val (.int .i64 0), .val (.string ⟨#[]⟩)] parts).map .agg := by simp only [evalBuild, lay_55]; rfl
theorem ld_61 (y : AV) (off : Nat) : evalLd Tryz.prog 61 y off = ldOne y off := ld_one _ aggN_61 y off
theorem st_61 (V : Nat → Option AO) (l sz i off : Nat) (v : AV) : evalStore Tryz.prog 61 V (.loc l sz i off) v = if hasSize v 1 = true then (rowT (V l) sz i).bind fun p => (stAV p.2.2 off v).map fun x' => [(l, some (.row p.1 sz (p.2.1.set i x')))] else none := store_loc _ aggN_61 V l sz i off v
theorem bx_61 (x : Operand) (V : Nat → Option AO) (new : Nat) (ρ : Operand → AV) : evalOp Tryz.prog (.box 61 x) V new ρ = if hasSize (ρ x) 1 = true then some (.loc new 1 0 0, [(new, some (.row 61 1 [ρ x]))]) else none := by rw [E_box, aggN_61, boxK_some]
theorem al_61 (V : Nat → Option AO) (new : Nat) (ρ : Operand → AV) : evalOp Tryz.prog (.alloc 61) V new ρ = some (.loc new 1 0 0, [(new, some (.row 61 1 [.val (.slice none 0 0)]))]) := by rw [E_alloc, aggN_61, zero_61, allocK_some]; rfl
theorem iS_61 (xs : List AV) (k : IntKind) (n : Int) : evalIndexAddr Tryz.prog 61 (.sl 1 xs) (.val (.int k n)) = if 0 ≤ n then (xs[n.toNat]?).map fun z => .ptr z 0 else none := indexAddr_sl _ elemOfT_61 aggN_5 xs k n
theorem iM_61 (l len : Nat) (k : IntKind) (n : Int) : evalIndexAddr Tryz.prog 61 (.msl l len) (.val (.int k n)) = if 0 ≤ n ∧ n < len then some (.loc l 1 n.toNat 0) else none := indexAddr_msl _ elemOfT_61 aggN_5 l len k n
theorem ap_61 (V : Nat → Option AO) (s x : AV) (new : Nat) : evalAppend Tryz.prog 61 V s x new = appK 1 5 1 new (oldsOf V s 5 1) (newsOf V x 1) := append_eq _ V elemOfT_61 aggN_5 bytesOfT_5 zero_5 rfl s x new
theorem mk_61 (ka kb : IntKind) (a c : Int) (new : Nat) : evalMakeSlice Tryz.prog 61 (.val (.int ka a)) (.val (.int kb c)) new = if 0 ≤ a ∧ a ≤ c ∧ (1 : Int) * c ≤ 281474976710656 ∧ c ≤ 9223372036854775807 then some (.msl new a.toNat, [(new, some (.row 5 1 (List.replicate a.toNat (.val (.int .u8 0)))))]) else none := by have h := makeSlice_eq _ elemOfT_61 aggN_5 bytesOfT_5 zero_5 rfl ka kb a c new; exact h
theorem bS_61 (len : Nat) (parts : Array (Nat × Operand)) (V : Nat → Option AO) (new : Nat) (ρ : Operand → AV) : evalOp Tryz.prog (.buildSlice 61 len parts) V new ρ = if len * 1 ≤ 16777216 then (setsA 1 (List.replicate len (.val (.int .u8 0))) (parts.toList.map fun p => (p.1, ρ p.2))).map fun xs => (.msl new len, [(new, some (.row 5 1 xs))]) else none := by rw [E_buildSlice _ _ _ _ 61 len parts 5 elemOfT_61, aggN_5, zero_5, buildSliceK]; simp [hasSize, AV.one, Value.oneCell']
theorem lS_61 (sz : Nat) (xs : List AV) : evalLen Tryz.prog 61 (.sl sz xs) = some (int xs.length) := len_sl _ elemOfT_61 sz xs
theorem lM_61 (l n : Nat) : evalLen Tryz.prog 61 (.msl l n) = some (int n) := len_msl _ elemOfT_61 l n
theorem lN_61  : evalLen Tryz.prog 61 nilS = some (int 0) := len_nil _ elemOfT_61
theorem l0_61  : evalLen Tryz.prog 61 .e0 = some (int 0) := len_e0 _ elemOfT_61
theorem ld_62 (y : AV) (off : Nat) : evalLd Tryz.prog 62 y off = ldOne y off := ld_one _ aggN_62 y off
theorem st_62 (V : Nat → Option AO) (l sz i off : Nat) (v : AV) : evalStore Tryz.prog 62 V (.loc l sz i off) v = if hasSize v 1 = true then (rowT (V l) sz i).bind fun p => (stAV p.2.2 off v).map fun x' => [(l, some (.row p.1 sz (p.2.1.set i x')))] else none := store_loc _ aggN_62 V l sz i off v
theorem bx_62 (x : Operand) (V : Nat → Option AO) (new : Nat) (ρ : Operand → AV) : evalOp Tryz.prog (.box 62 x) V new ρ = if hasSize (ρ x) 1 = true then some (.loc new 1 0 0, [(new, some (.row 62 1 [ρ x]))]) else none := by rw [E_box, aggN_62, boxK_some]
theorem al_62 (V : Nat → Option AO) (new : Nat) (ρ : Operand → AV) : evalOp Tryz.prog (.alloc 62) V new ρ = some (.loc new 1 0 0, [(new, some (.row 62 1 [.val (.slice none 0 0)]))]) := by rw [E_alloc, aggN_62, zero_62, allocK_some]; rfl
theorem iS_62 (xs : List AV) (k : IntKind) (n : Int) : evalIndexAddr Tryz.prog 62 (.sl 3 xs) (.val (.int k n)) = if 0 ≤ n then (xs[n.toNat]?).map fun z => .ptr z 0 else none := indexAddr_sl _ elemOfT_62 aggN_55 xs k n
theorem iM_62 (l len : Nat) (k : IntKind) (n : Int) : evalIndexAddr Tryz.prog 62 (.msl l len) (.val (.int k n)) = if 0 ≤ n ∧ n < len then some (.loc l 3 n.toNat 0) else none := indexAddr_msl _ elemOfT_62 aggN_55 l len k n
theorem ap_62 (V : Nat → Option AO) (s x : AV) (new : Nat) : evalAppend Tryz.prog 62 V s x new = appK 32 55 3 new (oldsOf V s 55 3) (newsOf V x 3) := append_eq _ V elemOfT_62 aggN_55 bytesOfT_55 zero_55 rfl s x new
theorem mk_62 (ka kb : IntKind) (a c : Int) (new : Nat) : evalMakeSlice Tryz.prog 62 (.val (.int ka a)) (.val (.int kb c)) new = if 0 ≤ a ∧ a ≤ c ∧ (32 : Int) * c ≤ 281474976710656 ∧ c ≤ 9223372036854775807 then some (.msl new a.toNat, [(new, some (.row 55 3 (List.replicate a.toNat (.agg [.val (.int .i64 0), .val (.int .i64 0), .val (.string ⟨#[]⟩)]))))]) else none := by have h := makeSlice_eq _ elemOfT_62 aggN_55 bytesOfT_55 zero_55 rfl ka kb a c new; exact h
theorem bS_62 (len : Nat) (parts : Array (Nat × Operand)) (V : Nat → Option AO) (new : Nat) (ρ : Operand → AV) : evalOp Tryz.prog (.buildSlice 62 len parts) V new ρ = if len * 3 ≤ 16777216 then (setsA 3 (List.replicate len (.agg [.val (.int .i64 0), .val (.int .i64 0), .val (.string ⟨#[]⟩)])) (parts.toList.map fun p => (p.1, ρ p.2))).map fun xs => (.msl new len, [(new, some (.row 55 3 xs))]) else none := by rw [E_buildSlice _ _ _ _ 62 len parts 55 elemOfT_62, aggN_55, zero_55, buildSliceK]; simp [hasSize, AV.one, Value.oneCell']
theorem lS_62 (sz : Nat) (xs : List AV) : evalLen Tryz.prog 62 (.sl sz xs) = some (int xs.length) := len_sl _ elemOfT_62 sz xs
theorem lM_62 (l n : Nat) : evalLen Tryz.prog 62 (.msl l n) = some (int n) := len_msl _ elemOfT_62 l n
theorem lN_62  : evalLen Tryz.prog 62 nilS = some (int 0) := len_nil _ elemOfT_62
theorem l0_62  : evalLen Tryz.prog 62 .e0 = some (int 0) := len_e0 _ elemOfT_62
theorem ld_66 (y : AV) (off : Nat) : evalLd Tryz.prog 66 y off = ldAgg y off 7 := ld_agg _ aggN_66 y off
theorem st_66 (V : Nat → Option AO) (l sz i off : Nat) (v : AV) : evalStore Tryz.prog 66 V (.loc l sz i off) v = if hasSize v 7 = true then (rowT (V l) sz i).bind fun p => (stAV p.2.2 off v).map fun x' => [(l, some (.row p.1 sz (p.2.1.set i x')))] else none := store_loc _ aggN_66 V l sz i off v
theorem bx_66 (x : Operand) (V : Nat → Option AO) (new : Nat) (ρ : Operand → AV) : evalOp Tryz.prog (.box 66 x) V new ρ = if hasSize (ρ x) 7 = true then some (.loc new 7 0 0, [(new, some (.row 66 7 [ρ x]))]) else none := by rw [E_box, aggN_66, boxK_some]
theorem al_66 (V : Nat → Option AO) (new : Nat) (ρ : Operand → AV) : evalOp Tryz.prog (.alloc 66) V new ρ = some (.loc new 7 0 0, [(new, some (.row 66 7 [.agg [.val (.int .i64 0), .val (.int .i64 0), .val (.string ⟨#[]⟩), .val (.int .i64 0), .val (.int .i64 0), .val (.int .i64 0), .val (.int .i64 0)]]))]) := by rw [E_alloc, aggN_66, zero_66, allocK_some]; rfl
theorem fL_66_0 (l sz i off : Nat) : evalFieldAddr Tryz.prog 66 0 (.loc l sz i off) = some (.loc l sz i (off + 0)) := fieldAddr_loc _ fieldOf_66_0 aggN_3 (by decide) l sz i off
theorem fP_66_0 (y : AV) (off : Nat) : evalFieldAddr Tryz.prog 66 0 (.ptr y off) = some (.ptr y (off + 0)) := fieldAddr_ptr _ fieldOf_66_0 aggN_3 (by decide) y off
theorem fd_66_0 (x : AV) : evalField Tryz.prog 66 0 x = partO 0 x := field_one fieldOf_66_0 aggN_3 x
theorem fL_66_1 (l sz i off : Nat) : evalFieldAddr Tryz.prog 66 1 (.loc l sz i off) = some (.loc l sz i (off + 1)) := fieldAddr_loc _ fieldOf_66_1 aggN_3 (by decide) l sz i off
theorem fP_66_1 (y : AV) (off : Nat) : evalFieldAddr Tryz.prog 66 1 (.ptr y off) = some (.ptr y (off + 1)) := fieldAddr_ptr _ fieldOf_66_1 aggN_3 (by decide) y off
theorem fd_66_1 (x : AV) : evalField Tryz.prog 66 1 x = partO 1 x := field_one fieldOf_66_1 aggN_3 x
theorem fL_66_2 (l sz i off : Nat) : evalFieldAddr Tryz.prog 66 2 (.loc l sz i off) = some (.loc l sz i (off + 2)) := fieldAddr_loc _ fieldOf_66_2 aggN_9 (by decide) l sz i off
theorem fP_66_2 (y : AV) (off : Nat) : evalFieldAddr Tryz.prog 66 2 (.ptr y off) = some (.ptr y (off + 2)) := fieldAddr_ptr _ fieldOf_66_2 aggN_9 (by decide) y off
theorem fd_66_2 (x : AV) : evalField Tryz.prog 66 2 x = partO 2 x := field_one fieldOf_66_2 aggN_9 x
theorem fL_66_3 (l sz i off : Nat) : evalFieldAddr Tryz.prog 66 3 (.loc l sz i off) = some (.loc l sz i (off + 3)) := fieldAddr_loc _ fieldOf_66_3 aggN_64 (by decide) l sz i off
theorem fP_66_3 (y : AV) (off : Nat) : evalFieldAddr Tryz.prog 66 3 (.ptr y off) = some (.ptr y (off + 3)) := fieldAddr_ptr _ fieldOf_66_3 aggN_64 (by decide) y off
theorem fd_66_3 (x : AV) : evalField Tryz.prog 66 3 x = partA 3 3 x := field_agg' fieldOf_66_3 aggN_64 x
theorem fL_66_4 (l sz i off : Nat) : evalFieldAddr Tryz.prog 66 4 (.loc l sz i off) = some (.loc l sz i (off + 6)) := fieldAddr_loc _ fieldOf_66_4 aggN_3 (by decide) l sz i off
theorem fP_66_4 (y : AV) (off : Nat) : evalFieldAddr Tryz.prog 66 4 (.ptr y off) = some (.ptr y (off + 6)) := fieldAddr_ptr _ fieldOf_66_4 aggN_3 (by decide) y off
theorem fd_66_4 (x : AV) : evalField Tryz.prog 66 4 x = partO 6 x := field_one fieldOf_66_4 aggN_3 x
theorem lay_66 : layOf Tryz.prog 66 = some ([.val (.int .i64 0), .val (.int .i64 0), .val (.string ⟨#[]⟩), .val (.int .i64 0), .val (.int .i64 0), .val (.int .i64 0), .val (.int .i64 0)], .str [(0, 1), (1, 1), (2, 1), (3, 3), (6, 1)]) := by kernel_rfl
theorem bd_66 (parts : List (Nat × AV)) : evalBuild Tryz.prog 66 parts = (fillA (fun i => [(0, 1), (1, 1), (2, 1), (3, 3), (6, 1)][i]?) [.val (.int .i64 0), .val (.int .i64 0), .val (.string ⟨#[]⟩), .val (.int .i64 0), .val (.int .i64 0), .val (.int .i64 0), .val (.int .i64 0)] parts).map .agg := by simp only [evalBuild, lay_66]; rfl
theorem ld_68 (y : AV) (off : Nat) : evalLd Tryz.prog 68 y off = ldAgg y off 13 := ld_agg _ aggN_68 y off
theorem st_68 (V : Nat → Option AO) (l sz i off : Nat) (v : AV) : evalStore Tryz.prog 68 V (.loc l sz i off) v = if hasSize v 13 = true then (rowT (V l) sz i).bind fun p => (stAV p.2.2 off v).map fun x' => [(l, some (.row p.1 sz (p.2.1.set i x')))] else none := store_loc _ aggN_68 V l sz i off v
theorem bx_68 (x : Operand) (V : Nat → Option AO) (new : Nat) (ρ : Operand → AV) : evalOp Tryz.prog (.box 68 x) V new ρ = if hasSize (ρ x) 13 = true then some (.loc new 13 0 0, [(new, some (.row 68 13 [ρ x]))]) else none := by rw [E_box, aggN_68, boxK_some]
theorem al_68 (V : Nat → Option AO) (new : Nat) (ρ : Operand → AV) : evalOp Tryz.prog (.alloc 68) V new ρ = some (.loc new 13 0 0, [(new, some (.row 68 13 [.agg [.val (.int .i64 0), .val (.int .i64 0), .val (.int .i64 0), .val (.int .i64 0), .val (.slice none 0 0), .val (.slice none 0 0), .val (.int .i64 0), .val (.int .i64 0), .val (.string ⟨#[]⟩), .val (.int .i64 0), .val (.int .i64 0), .val (.int .i64 0), .val (.int .i64 0)]]))]) := by rw [E_alloc, aggN_68, zero_68, allocK_some]; rfl
theorem fL_68_0 (l sz i off : Nat) : evalFieldAddr Tryz.prog 68 0 (.loc l sz i off) = some (.loc l sz i (off + 0)) := fieldAddr_loc _ fieldOf_68_0 aggN_3 (by decide) l sz i off
theorem fP_68_0 (y : AV) (off : Nat) : evalFieldAddr Tryz.prog 68 0 (.ptr y off) = some (.ptr y (off + 0)) := fieldAddr_ptr _ fieldOf_68_0 aggN_3 (by decide) y off
theorem fd_68_0 (x : AV) : evalField Tryz.prog 68 0 x = partO 0 x := field_one fieldOf_68_0 aggN_3 x
theorem fL_68_1 (l sz i off : Nat) : evalFieldAddr Tryz.prog 68 1 (.loc l sz i off) = some (.loc l sz i (off + 1)) := fieldAddr_loc _ fieldOf_68_1 aggN_3 (by decide) l sz i off
theorem fP_68_1 (y : AV) (off : Nat) : evalFieldAddr Tryz.prog 68 1 (.ptr y off) = some (.ptr y (off + 1)) := fieldAddr_ptr _ fieldOf_68_1 aggN_3 (by decide) y off
theorem fd_68_1 (x : AV) : evalField Tryz.prog 68 1 x = partO 1 x := field_one fieldOf_68_1 aggN_3 x
theorem fL_68_2 (l sz i off : Nat) : evalFieldAddr Tryz.prog 68 2 (.loc l sz i off) = some (.loc l sz i (off + 2)) := fieldAddr_loc _ fieldOf_68_2 aggN_3 (by decide) l sz i off
theorem fP_68_2 (y : AV) (off : Nat) : evalFieldAddr Tryz.prog 68 2 (.ptr y off) = some (.ptr y (off + 2)) := fieldAddr_ptr _ fieldOf_68_2 aggN_3 (by decide) y off
theorem fd_68_2 (x : AV) : evalField Tryz.prog 68 2 x = partO 2 x := field_one fieldOf_68_2 aggN_3 x
theorem fL_68_3 (l sz i off : Nat) : evalFieldAddr Tryz.prog 68 3 (.loc l sz i off) = some (.loc l sz i (off + 3)) := fieldAddr_loc _ fieldOf_68_3 aggN_3 (by decide) l sz i off
theorem fP_68_3 (y : AV) (off : Nat) : evalFieldAddr Tryz.prog 68 3 (.ptr y off) = some (.ptr y (off + 3)) := fieldAddr_ptr _ fieldOf_68_3 aggN_3 (by decide) y off
theorem fd_68_3 (x : AV) : evalField Tryz.prog 68 3 x = partO 3 x := field_one fieldOf_68_3 aggN_3 x
theorem fL_68_4 (l sz i off : Nat) : evalFieldAddr Tryz.prog 68 4 (.loc l sz i off) = some (.loc l sz i (off + 4)) := fieldAddr_loc _ fieldOf_68_4 aggN_61 (by decide) l sz i off
theorem fP_68_4 (y : AV) (off : Nat) : evalFieldAddr Tryz.prog 68 4 (.ptr y off) = some (.ptr y (off + 4)) := fieldAddr_ptr _ fieldOf_68_4 aggN_61 (by decide) y off
theorem fd_68_4 (x : AV) : evalField Tryz.prog 68 4 x = partO 4 x := field_one fieldOf_68_4 aggN_61 x
theorem fL_68_5 (l sz i off : Nat) : evalFieldAddr Tryz.prog 68 5 (.loc l sz i off) = some (.loc l sz i (off + 5)) := fieldAddr_loc _ fieldOf_68_5 aggN_62 (by decide) l sz i off
theorem fP_68_5 (y : AV) (off : Nat) : evalFieldAddr Tryz.prog 68 5 (.ptr y off) = some (.ptr y (off + 5)) := fieldAddr_ptr _ fieldOf_68_5 aggN_62 (by decide) y off
theorem fd_68_5 (x : AV) : evalField Tryz.prog 68 5 x = partO 5 x := field_one fieldOf_68_5 aggN_62 x
theorem fL_68_6 (l sz i off : Nat) : evalFieldAddr Tryz.prog 68 6 (.loc l sz i off) = some (.loc l sz i (off + 6)) := fieldAddr_loc _ fieldOf_68_6 aggN_66 (by decide) l sz i off
theorem fP_68_6 (y : AV) (off : Nat) : evalFieldAddr Tryz.prog 68 6 (.ptr y off) = some (.ptr y (off + 6)) := fieldAddr_ptr _ fieldOf_68_6 aggN_66 (by decide) y off
theorem fd_68_6 (x : AV) : evalField Tryz.prog 68 6 x = partA 6 7 x := field_agg' fieldOf_68_6 aggN_66 x
theorem lay_68 : layOf Tryz.prog 68 = some ([.val (.int .i64 0), .val (.int .i64 0), .val (.int .i64 0), .val (.int .i64 0), .val (.slice none 0 0), .val (.slice none 0 0), .val (.int .i64 0), .val (.int .i64 0), .val (.string ⟨#[]⟩), .val (.int .i64 0), .val (.int .i64 0), .val (.int .i64 0), .val (.int .i64 0)], .str [(0, 1), (1, 1), (2, 1), (3, 1), (4, 1), (5, 1), (6, 7)]) := by kernel_rfl
theorem bd_68 (parts : List (Nat × AV)) : evalBuild Tryz.prog 68 parts = (fillA (fun i => [(0, 1), (1, 1), (2, 1), (3, 1), (4, 1), (5, 1), (6, 7)][i]?) [.val (.int .i64 0), .val (.int .i64 0), .val (.int .i64 0), .val (.int .i64 0), .val (.slice none 0 0), .val (.slice none 0 0), .val (.int .i64 0), .val (.int .i64 0), .val (.string ⟨#[]⟩), .val (.int .i64 0), .val (.int .i64 0), .val (.int .i64 0), .val (.int .i64 0)] parts).map .agg := by simp only [evalBuild, lay_68]; rfl
theorem ld_71 (y : AV) (off : Nat) : evalLd Tryz.prog 71 y off = ldOne y off := ld_one _ aggN_71 y off
theorem st_71 (V : Nat → Option AO) (l sz i off : Nat) (v : AV) : evalStore Tryz.prog 71 V (.loc l sz i off) v = if hasSize v 1 = true then (rowT (V l) sz i).bind fun p => (stAV p.2.2 off v).map fun x' => [(l, some (.row p.1 sz (p.2.1.set i x')))] else none := store_loc _ aggN_71 V l sz i off v
theorem bx_71 (x : Operand) (V : Nat → Option AO) (new : Nat) (ρ : Operand → AV) : evalOp Tryz.prog (.box 71 x) V new ρ = if hasSize (ρ x) 1 = true then some (.loc new 1 0 0, [(new, some (.row 71 1 [ρ x]))]) else none := by rw [E_box, aggN_71, boxK_some]
theorem ld_73 (y : AV) (off : Nat) : evalLd Tryz.prog 73 y off = ldOne y off := ld_one _ aggN_73 y off
theorem st_73 (V : Nat → Option AO) (l sz i off : Nat) (v : AV) : evalStore Tryz.prog 73 V (.loc l sz i off) v = if hasSize v 1 = true then (rowT (V l) sz i).bind fun p => (stAV p.2.2 off v).map fun x' => [(l, some (.row p.1 sz (p.2.1.set i x')))] else none := store_loc _ aggN_73 V l sz i off v
theorem bx_73 (x : Operand) (V : Nat → Option AO) (new : Nat) (ρ : Operand → AV) : evalOp Tryz.prog (.box 73 x) V new ρ = if hasSize (ρ x) 1 = true then some (.loc new 1 0 0, [(new, some (.row 73 1 [ρ x]))]) else none := by rw [E_box, aggN_73, boxK_some]
theorem al_73 (V : Nat → Option AO) (new : Nat) (ρ : Operand → AV) : evalOp Tryz.prog (.alloc 73) V new ρ = some (.loc new 1 0 0, [(new, some (.row 73 1 [.val (.slice none 0 0)]))]) := by rw [E_alloc, aggN_73, zero_73, allocK_some]; rfl
theorem iS_73 (xs : List AV) (k : IntKind) (n : Int) : evalIndexAddr Tryz.prog 73 (.sl 3 xs) (.val (.int k n)) = if 0 ≤ n then (xs[n.toNat]?).map fun z => .ptr z 0 else none := indexAddr_sl _ elemOfT_73 aggN_79 xs k n
theorem iM_73 (l len : Nat) (k : IntKind) (n : Int) : evalIndexAddr Tryz.prog 73 (.msl l len) (.val (.int k n)) = if 0 ≤ n ∧ n < len then some (.loc l 3 n.toNat 0) else none := indexAddr_msl _ elemOfT_73 aggN_79 l len k n
theorem ap_73 (V : Nat → Option AO) (s x : AV) (new : Nat) : evalAppend Tryz.prog 73 V s x new = appK 32 79 3 new (oldsOf V s 79 3) (newsOf V x 3) := append_eq _ V elemOfT_73 aggN_79 bytesOfT_79 zero_79 rfl s x new
theorem mk_73 (ka kb : IntKind) (a c : Int) (new : Nat) : evalMakeSlice Tryz.prog 73 (.val (.int ka a)) (.val (.int kb c)) new = if 0 ≤ a ∧ a ≤ c ∧ (32 : Int) * c ≤ 281474976710656 ∧ c ≤ 9223372036854775807 then some (.msl new a.toNat, [(new, some (.row 79 3 (List.replicate a.toNat (.agg [.val (.int .i64 0), .val (.int .i64 0), .val (.string ⟨#[]⟩)]))))]) else none := by have h := makeSlice_eq _ elemOfT_73 aggN_79 bytesOfT_79 zero_79 rfl ka kb a c new; exact h
theorem bS_73 (len : Nat) (parts : Array (Nat × Operand)) (V : Nat → Option AO) (new : Nat) (ρ : Operand → AV) : evalOp Tryz.prog (.buildSlice 73 len parts) V new ρ = if len * 3 ≤ 16777216 then (setsA 3 (List.replicate len (.agg [.val (.int .i64 0), .val (.int .i64 0), .val (.string ⟨#[]⟩)])) (parts.toList.map fun p => (p.1, ρ p.2))).map fun xs => (.msl new len, [(new, some (.row 79 3 xs))]) else none := by rw [E_buildSlice _ _ _ _ 73 len parts 79 elemOfT_73, aggN_79, zero_79, buildSliceK]; simp [hasSize, AV.one, Value.oneCell']
theorem lS_73 (sz : Nat) (xs : List AV) : evalLen Tryz.prog 73 (.sl sz xs) = some (int xs.length) := len_sl _ elemOfT_73 sz xs
theorem lM_73 (l n : Nat) : evalLen Tryz.prog 73 (.msl l n) = some (int n) := len_msl _ elemOfT_73 l n
theorem lN_73  : evalLen Tryz.prog 73 nilS = some (int 0) := len_nil _ elemOfT_73
theorem l0_73  : evalLen Tryz.prog 73 .e0 = some (int 0) := len_e0 _ elemOfT_73
theorem ld_74 (y : AV) (off : Nat) : evalLd Tryz.prog 74 y off = ldOne y off := ld_one _ aggN_74 y off
theorem st_74 (V : Nat → Option AO) (l sz i off : Nat) (v : AV) : evalStore Tryz.prog 74 V (.loc l sz i off) v = if hasSize v 1 = true then (rowT (V l) sz i).bind fun p => (stAV p.2.2 off v).map fun x' => [(l, some (.row p.1 sz (p.2.1.set i x')))] else none := store_loc _ aggN_74 V l sz i off v
theorem bx_74 (x : Operand) (V : Nat → Option AO) (new : Nat) (ρ : Operand → AV) : evalOp Tryz.prog (.box 74 x) V new ρ = if hasSize (ρ x) 1 = true then some (.loc new 1 0 0, [(new, some (.row 74 1 [ρ x]))]) else none := by rw [E_box, aggN_74, boxK_some]
theorem al_74 (V : Nat → Option AO) (new : Nat) (ρ : Operand → AV) : evalOp Tryz.prog (.alloc 74) V new ρ = some (.loc new 1 0 0, [(new, some (.row 74 1 [.val (.slice none 0 0)]))]) := by rw [E_alloc, aggN_74, zero_74, allocK_some]; rfl
theorem iS_74 (xs : List AV) (k : IntKind) (n : Int) : evalIndexAddr Tryz.prog 74 (.sl 2 xs) (.val (.int k n)) = if 0 ≤ n then (xs[n.toNat]?).map fun z => .ptr z 0 else none := indexAddr_sl _ elemOfT_74 aggN_32 xs k n
theorem iM_74 (l len : Nat) (k : IntKind) (n : Int) : evalIndexAddr Tryz.prog 74 (.msl l len) (.val (.int k n)) = if 0 ≤ n ∧ n < len then some (.loc l 2 n.toNat 0) else none := indexAddr_msl _ elemOfT_74 aggN_32 l len k n
theorem ap_74 (V : Nat → Option AO) (s x : AV) (new : Nat) : evalAppend Tryz.prog 74 V s x new = appK 32 32 2 new (oldsOf V s 32 2) (newsOf V x 2) := append_eq _ V elemOfT_74 aggN_32 bytesOfT_32 zero_32 rfl s x new
theorem mk_74 (ka kb : IntKind) (a c : Int) (new : Nat) : evalMakeSlice Tryz.prog 74 (.val (.int ka a)) (.val (.int kb c)) new = if 0 ≤ a ∧ a ≤ c ∧ (32 : Int) * c ≤ 281474976710656 ∧ c ≤ 9223372036854775807 then some (.msl new a.toNat, [(new, some (.row 32 2 (List.replicate a.toNat (.agg [.val (.int .i64 0), .val (.slice none 0 0)]))))]) else none := by have h := makeSlice_eq _ elemOfT_74 aggN_32 bytesOfT_32 zero_32 rfl ka kb a c new; exact h
theorem bS_74 (len : Nat) (parts : Array (Nat × Operand)) (V : Nat → Option AO) (new : Nat) (ρ : Operand → AV) : evalOp Tryz.prog (.buildSlice 74 len parts) V new ρ = if len * 2 ≤ 16777216 then (setsA 2 (List.replicate len (.agg [.val (.int .i64 0), .val (.slice none 0 0)])) (parts.toList.map fun p => (p.1, ρ p.2))).map fun xs => (.msl new len, [(new, some (.row 32 2 xs))]) else none := by rw [E_buildSlice _ _ _ _ 74 len parts 32 elemOfT_74, aggN_32, zero_32, buildSliceK]; simp [hasSize, AV.one, Value.oneCell']
theorem lS_74 (sz : Nat) (xs : List AV) : evalLen Tryz.prog 74 (.sl sz xs) = some (int xs.length) := len_sl _ elemOfT_74 sz xs
theorem lM_74 (l n : Nat) : evalLen Tryz.prog 74 (.msl l n) = some (int n) := len_msl _ elemOfT_74 l n
theorem lN_74  : evalLen Tryz.prog 74 nilS = some (int 0) := len_nil _ elemOfT_74
theorem l0_74  : evalLen Tryz.prog 74 .e0 = some (int 0) := len_e0 _ elemOfT_74
theorem ld_79 (y : AV) (off : Nat) : evalLd Tryz.prog 79 y off = ldAgg y off 3 := ld_agg _ aggN_79 y off
theorem st_79 (V : Nat → Option AO) (l sz i off : Nat) (v : AV) : evalStore Tryz.prog 79 V (.loc l sz i off) v = if hasSize v 3 = true then (rowT (V l) sz i).bind fun p => (stAV p.2.2 off v).map fun x' => [(l, some (.row p.1 sz (p.2.1.set i x')))] else none := store_loc _ aggN_79 V l sz i off v
theorem bx_79 (x : Operand) (V : Nat → Option AO) (new : Nat) (ρ : Operand → AV) : evalOp Tryz.prog (.box 79 x) V new ρ = if hasSize (ρ x) 3 = true then some (.loc new 3 0 0, [(new, some (.row 79 3 [ρ x]))]) else none := by rw [E_box, aggN_79, boxK_some]
theorem al_79 (V : Nat → Option AO) (new : Nat) (ρ : Operand → AV) : evalOp Tryz.prog (.alloc 79) V new ρ = some (.loc new 3 0 0, [(new, some (.row 79 3 [.agg [.val (.int .i64 0), .val (.int .i64 0), .val (.string ⟨#[]⟩)]]))]) := by rw [E_alloc, aggN_79, zero_79, allocK_some]; rfl
theorem fL_79_0 (l sz i off : Nat) : evalFieldAddr Tryz.prog 79 0 (.loc l sz i off) = some (.loc l sz i (off + 0)) := fieldAddr_loc _ fieldOf_79_0 aggN_3 (by decide) l sz i off
theorem fP_79_0 (y : AV) (off : Nat) : evalFieldAddr Tryz.prog 79 0 (.ptr y off) = some (.ptr y (off + 0)) := fieldAddr_ptr _ fieldOf_79_0 aggN_3 (by decide) y off
theorem fd_79_0 (x : AV) : evalField Tryz.prog 79 0 x = partO 0 x := field_one fieldOf_79_0 aggN_3 x
theorem fL_79_1 (l sz i off : Nat) : evalFieldAddr Tryz.prog 79 1 (.loc l sz i off) = some (.loc l sz i (off + 1)) := fieldAddr_loc _ fieldOf_79_1 aggN_3 (by decide) l sz i off
theorem fP_79_1 (y : AV) (off : Nat) : evalFieldAddr Tryz.prog 79 1 (.ptr y off) = some (.ptr y (off + 1)) := fieldAddr_ptr _ fieldOf_79_1 aggN_3 (by decide) y off
theorem fd_79_1 (x : AV) : evalField Tryz.prog 79 1 x = partO 1 x := field_one fieldOf_79_1 aggN_3 x
theorem fL_79_2 (l sz i off : Nat) : evalFieldAddr Tryz.prog 79 2 (.loc l sz i off) = some (.loc l sz i (off + 2)) := fieldAddr_loc _ fieldOf_79_2 aggN_9 (by decide) l sz i off
theorem fP_79_2 (y : AV) (off : Nat) : evalFieldAddr Tryz.prog 79 2 (.ptr y off) = some (.ptr y (off + 2)) := fieldAddr_ptr _ fieldOf_79_2 aggN_9 (by decide) y off
theorem fd_79_2 (x : AV) : evalField Tryz.prog 79 2 x = partO 2 x := field_one fieldOf_79_2 aggN_9 x
theorem lay_79 : layOf Tryz.prog 79 = some ([.val (.int .i64 0), .val (.int .i64 0), .val (.string ⟨#[]⟩)], .str [(0, 1), (1, 1), (2, 1)]) := by kernel_rfl
theorem bd_79 (parts : List (Nat × AV)) : evalBuild Tryz.prog 79 parts = (fillA (fun i => [(0, 1), (1, 1), (2, 1)][i]?) [.val (.int .i64 0), .val (.int .i64 0), .val (.string ⟨#[]⟩)] parts).map .agg := by simp only [evalBuild, lay_79]; rfl
theorem ld_82 (y : AV) (off : Nat) : evalLd Tryz.prog 82 y off = ldOne y off := ld_one _ aggN_82 y off
theorem st_82 (V : Nat → Option AO) (l sz i off : Nat) (v : AV) : evalStore Tryz.prog 82 V (.loc l sz i off) v = if hasSize v 1 = true then (rowT (V l) sz i).bind fun p => (stAV p.2.2 off v).map fun x' => [(l, some (.row p.1 sz (p.2.1.set i x')))] else none := store_loc _ aggN_82 V l sz i off v
theorem bx_82 (x : Operand) (V : Nat → Option AO) (new : Nat) (ρ : Operand → AV) : evalOp Tryz.prog (.box 82 x) V new ρ = if hasSize (ρ x) 1 = true then some (.loc new 1 0 0, [(new, some (.row 82 1 [ρ x]))]) else none := by rw [E_box, aggN_82, boxK_some]
theorem ld_86 (y : AV) (off : Nat) : evalLd Tryz.prog 86 y off = ldOne y off := ld_one _ aggN_86 y off
theorem st_86 (V : Nat → Option AO) (l sz i off : Nat) (v : AV) : evalStore Tryz.prog 86 V (.loc l sz i off) v = if hasSize v 1 = true then (rowT (V l) sz i).bind fun p => (stAV p.2.2 off v).map fun x' => [(l, some (.row p.1 sz (p.2.1.set i x')))] else none := store_loc _ aggN_86 V l sz i off v
theorem bx_86 (x : Operand) (V : Nat → Option AO) (new : Nat) (ρ : Operand → AV) : evalOp Tryz.prog (.box 86 x) V new ρ = if hasSize (ρ x) 1 = true then some (.loc new 1 0 0, [(new, some (.row 86 1 [ρ x]))]) else none := by rw [E_box, aggN_86, boxK_some]
theorem ld_92 (y : AV) (off : Nat) : evalLd Tryz.prog 92 y off = ldAgg y off 6 := ld_agg _ aggN_92 y off
theorem st_92 (V : Nat → Option AO) (l sz i off : Nat) (v : AV) : evalStore Tryz.prog 92 V (.loc l sz i off) v = if hasSize v 6 = true then (rowT (V l) sz i).bind fun p => (stAV p.2.2 off v).map fun x' => [(l, some (.row p.1 sz (p.2.1.set i x')))] else none := store_loc _ aggN_92 V l sz i off v
theorem bx_92 (x : Operand) (V : Nat → Option AO) (new : Nat) (ρ : Operand → AV) : evalOp Tryz.prog (.box 92 x) V new ρ = if hasSize (ρ x) 6 = true then some (.loc new 6 0 0, [(new, some (.row 92 6 [ρ x]))]) else none := by rw [E_box, aggN_92, boxK_some]
theorem al_92 (V : Nat → Option AO) (new : Nat) (ρ : Operand → AV) : evalOp Tryz.prog (.alloc 92) V new ρ = some (.loc new 6 0 0, [(new, some (.row 92 6 [.agg [.val (.int .i64 0), .val (.int .i64 0), .val (.int .i64 0), .val (.int .i64 0), .val (.slice none 0 0), .val (.slice none 0 0)]]))]) := by rw [E_alloc, aggN_92, zero_92, allocK_some]; rfl
theorem fL_92_0 (l sz i off : Nat) : evalFieldAddr Tryz.prog 92 0 (.loc l sz i off) = some (.loc l sz i (off + 0)) := fieldAddr_loc _ fieldOf_92_0 aggN_29 (by decide) l sz i off
theorem fP_92_0 (y : AV) (off : Nat) : evalFieldAddr Tryz.prog 92 0 (.ptr y off) = some (.ptr y (off + 0)) := fieldAddr_ptr _ fieldOf_92_0 aggN_29 (by decide) y off
theorem fd_92_0 (x : AV) : evalField Tryz.prog 92 0 x = partA 0 6 x := field_agg' fieldOf_92_0 aggN_29 x
theorem lay_92 : layOf Tryz.prog 92 = some ([.val (.int .i64 0), .val (.int .i64 0), .val (.int .i64 0), .val (.int .i64 0), .val (.slice none 0 0), .val (.slice none 0 0)], .str [(0, 6)]) := by kernel_rfl
theorem bd_92 (parts : List (Nat × AV)) : evalBuild Tryz.prog 92 parts = (fillA (fun i => [(0, 6)][i]?) [.val (.int .i64 0), .val (.int .i64 0), .val (.int .i64 0), .val (.int .i64 0), .val (.slice none 0 0), .val (.slice none 0 0)] parts).map .agg := by simp only [evalBuild, lay_92]; rfl
theorem ld_104 (y : AV) (off : Nat) : evalLd Tryz.prog 104 y off = ldOne y off := ld_one _ aggN_104 y off
theorem st_104 (V : Nat → Option AO) (l sz i off : Nat) (v : AV) : evalStore Tryz.prog 104 V (.loc l sz i off) v = if hasSize v 1 = true then (rowT (V l) sz i).bind fun p => (stAV p.2.2 off v).map fun x' => [(l, some (.row p.1 sz (p.2.1.set i x')))] else none := store_loc _ aggN_104 V l sz i off v
theorem bx_104 (x : Operand) (V : Nat → Option AO) (new : Nat) (ρ : Operand → AV) : evalOp Tryz.prog (.box 104 x) V new ρ = if hasSize (ρ x) 1 = true then some (.loc new 1 0 0, [(new, some (.row 104 1 [ρ x]))]) else none := by rw [E_box, aggN_104, boxK_some]
theorem ld_106 (y : AV) (off : Nat) : evalLd Tryz.prog 106 y off = ldOne y off := ld_one _ aggN_106 y off
theorem st_106 (V : Nat → Option AO) (l sz i off : Nat) (v : AV) : evalStore Tryz.prog 106 V (.loc l sz i off) v = if hasSize v 1 = true then (rowT (V l) sz i).bind fun p => (stAV p.2.2 off v).map fun x' => [(l, some (.row p.1 sz (p.2.1.set i x')))] else none := store_loc _ aggN_106 V l sz i off v
theorem bx_106 (x : Operand) (V : Nat → Option AO) (new : Nat) (ρ : Operand → AV) : evalOp Tryz.prog (.box 106 x) V new ρ = if hasSize (ρ x) 1 = true then some (.loc new 1 0 0, [(new, some (.row 106 1 [ρ x]))]) else none := by rw [E_box, aggN_106, boxK_some]
theorem al_106 (V : Nat → Option AO) (new : Nat) (ρ : Operand → AV) : evalOp Tryz.prog (.alloc 106) V new ρ = some (.loc new 1 0 0, [(new, some (.row 106 1 [.val (.slice none 0 0)]))]) := by rw [E_alloc, aggN_106, zero_106, allocK_some]; rfl
theorem iS_106 (xs : List AV) (k : IntKind) (n : Int) : evalIndexAddr Tryz.prog 106 (.sl 1 xs) (.val (.int k n)) = if 0 ≤ n then (xs[n.toNat]?).map fun z => .ptr z 0 else none := indexAddr_sl _ elemOfT_106 aggN_26 xs k n
theorem iM_106 (l len : Nat) (k : IntKind) (n : Int) : evalIndexAddr Tryz.prog 106 (.msl l len) (.val (.int k n)) = if 0 ≤ n ∧ n < len then some (.loc l 1 n.toNat 0) else none := indexAddr_msl _ elemOfT_106 aggN_26 l len k n
theorem ap_106 (V : Nat → Option AO) (s x : AV) (new : Nat) : evalAppend Tryz.prog 106 V s x new = appK 24 26 1 new (oldsOf V s 26 1) (newsOf V x 1) := append_eq _ V elemOfT_106 aggN_26 bytesOfT_26 zero_26 rfl s x new
theorem mk_106 (ka kb : IntKind) (a c : Int) (new : Nat) : evalMakeSlice Tryz.prog 106 (.val (.int ka a)) (.val (.int kb c)) new = if 0 ≤ a ∧ a ≤ c ∧ (24 : Int) * c ≤ 281474976710656 ∧ c ≤ 9223372036854775807 then some (.msl new a.toNat, [(new, some (.row 26 1 (List.replicate a.toNat (.agg [.val (.slice none 0 0)]))))]) else none := by have h := makeSlice_eq _ elemOfT_106 aggN_26 bytesOfT_26 zero_26 rfl ka kb a c new; exact h
theorem bS_106 (len : Nat) (parts : Array (Nat × Operand)) (V : Nat → Option AO) (new : Nat) (ρ : Operand → AV) : evalOp Tryz.prog (.buildSlice 106 len parts) V new ρ = if len * 1 ≤ 16777216 then (setsA 1 (List.replicate len (.agg [.val (.slice none 0 0)])) (parts.toList.map fun p => (p.1, ρ p.2))).map fun xs => (.msl new len, [(new, some (.row 26 1 xs))]) else none := by rw [E_buildSlice _ _ _ _ 106 len parts 26 elemOfT_106, aggN_26, zero_26, buildSliceK]; simp [hasSize, AV.one, Value.oneCell']
theorem lS_106 (sz : Nat) (xs : List AV) : evalLen Tryz.prog 106 (.sl sz xs) = some (int xs.length) := len_sl _ elemOfT_106 sz xs
theorem lM_106 (l n : Nat) : evalLen Tryz.prog 106 (.msl l n) = some (int n) := len_msl _ elemOfT_106 l n
theorem lN_106  : evalLen Tryz.prog 106 nilS = some (int 0) := len_nil _ elemOfT_106
theorem l0_106  : evalLen Tryz.prog 106 .e0 = some (int 0) := len_e0 _ elemOfT_106
theorem ld_111 (y : AV) (off : Nat) : evalLd Tryz.prog 111 y off = ldOne y off := ld_one _ aggN_111 y off
theorem st_111 (V : Nat → Option AO) (l sz i off : Nat) (v : AV) : evalStore Tryz.prog 111 V (.loc l sz i off) v = if hasSize v 1 = true then (rowT (V l) sz i).bind fun p => (stAV p.2.2 off v).map fun x' => [(l, some (.row p.1 sz (p.2.1.set i x')))] else none := store_loc _ aggN_111 V l sz i off v
theorem bx_111 (x : Operand) (V : Nat → Option AO) (new : Nat) (ρ : Operand → AV) : evalOp Tryz.prog (.box 111 x) V new ρ = if hasSize (ρ x) 1 = true then some (.loc new 1 0 0, [(new, some (.row 111 1 [ρ x]))]) else none := by rw [E_box, aggN_111, boxK_some]
theorem al_111 (V : Nat → Option AO) (new : Nat) (ρ : Operand → AV) : evalOp Tryz.prog (.alloc 111) V new ρ = some (.loc new 1 0 0, [(new, some (.row 111 1 [.val (.slice none 0 0)]))]) := by rw [E_alloc, aggN_111, zero_111, allocK_some]; rfl
theorem iS_111 (xs : List AV) (k : IntKind) (n : Int) : evalIndexAddr Tryz.prog 111 (.sl 1 xs) (.val (.int k n)) = if 0 ≤ n then (xs[n.toNat]?).map fun z => .ptr z 0 else none := indexAddr_sl _ elemOfT_111 aggN_3 xs k n
theorem iM_111 (l len : Nat) (k : IntKind) (n : Int) : evalIndexAddr Tryz.prog 111 (.msl l len) (.val (.int k n)) = if 0 ≤ n ∧ n < len then some (.loc l 1 n.toNat 0) else none := indexAddr_msl _ elemOfT_111 aggN_3 l len k n
theorem ap_111 (V : Nat → Option AO) (s x : AV) (new : Nat) : evalAppend Tryz.prog 111 V s x new = appK 8 3 1 new (oldsOf V s 3 1) (newsOf V x 1) := append_eq _ V elemOfT_111 aggN_3 bytesOfT_3 zero_3 rfl s x new
theorem mk_111 (ka kb : IntKind) (a c : Int) (new : Nat) : evalMakeSlice Tryz.prog 111 (.val (.int ka a)) (.val (.int kb c)) new = if 0 ≤ a ∧ a ≤ c ∧ (8 : Int) * c ≤ 281474976710656 ∧ c ≤ 9223372036854775807 then some (.msl new a.toNat, [(new, some (.row 3 1 (List.replicate a.toNat (.val (.int .i64 0)))))]) else none := by have h := makeSlice_eq _ elemOfT_111 aggN_3 bytesOfT_3 zero_3 rfl ka kb a c new; exact h
theorem bS_111 (len : Nat) (parts : Array (Nat × Operand)) (V : Nat → Option AO) (new : Nat) (ρ : Operand → AV) : evalOp Tryz.prog (.buildSlice 111 len parts) V new ρ = if len * 1 ≤ 16777216 then (setsA 1 (List.replicate len (.val (.int .i64 0))) (parts.toList.map fun p => (p.1, ρ p.2))).map fun xs => (.msl new len, [(new, some (.row 3 1 xs))]) else none := by rw [E_buildSlice _ _ _ _ 111 len parts 3 elemOfT_111, aggN_3, zero_3, buildSliceK]; simp [hasSize, AV.one, Value.oneCell']
theorem lS_111 (sz : Nat) (xs : List AV) : evalLen Tryz.prog 111 (.sl sz xs) = some (int xs.length) := len_sl _ elemOfT_111 sz xs
theorem lM_111 (l n : Nat) : evalLen Tryz.prog 111 (.msl l n) = some (int n) := len_msl _ elemOfT_111 l n
theorem lN_111  : evalLen Tryz.prog 111 nilS = some (int 0) := len_nil _ elemOfT_111
theorem l0_111  : evalLen Tryz.prog 111 .e0 = some (int 0) := len_e0 _ elemOfT_111
theorem ld_112 (y : AV) (off : Nat) : evalLd Tryz.prog 112 y off = ldOne y off := ld_one _ aggN_112 y off
theorem st_112 (V : Nat → Option AO) (l sz i off : Nat) (v : AV) : evalStore Tryz.prog 112 V (.loc l sz i off) v = if hasSize v 1 = true then (rowT (V l) sz i).bind fun p => (stAV p.2.2 off v).map fun x' => [(l, some (.row p.1 sz (p.2.1.set i x')))] else none := store_loc _ aggN_112 V l sz i off v
theorem bx_112 (x : Operand) (V : Nat → Option AO) (new : Nat) (ρ : Operand → AV) : evalOp Tryz.prog (.box 112 x) V new ρ = if hasSize (ρ x) 1 = true then some (.loc new 1 0 0, [(new, some (.row 112 1 [ρ x]))]) else none := by rw [E_box, aggN_112, boxK_some]
theorem al_112 (V : Nat → Option AO) (new : Nat) (ρ : Operand → AV) : evalOp Tryz.prog (.alloc 112) V new ρ = some (.loc new 1 0 0, [(new, some (.row 112 1 [.val (.map none)]))]) := by rw [E_alloc, aggN_112, zero_112, allocK_some]; rfl
theorem mapOf_112 : mapOf Tryz.prog 112 = some (.int .i64, 3) := by kernel_rfl
theorem lk_112 (V : Nat → Option AO) (c : Bool) (l : Nat) (kv : Value) : evalLookup Tryz.prog 112 c V (.mp l) (.val kv) = lookK c (.int .i64) (zeroOf Tryz.prog 3) kv (V l) := look_mp _ V mapOf_112 c l kv
theorem mu_112 (V : Nat → Option AO) (l : Nat) (kv : Value) (x : AV) : evalMapUpdate Tryz.prog 112 V (.mp l) (.val kv) x = mupdK (.int .i64) kv x l (V l) := mupd_mp _ V mapOf_112 l kv x
theorem ld_113 (y : AV) (off : Nat) : evalLd Tryz.prog 113 y off = ldOne y off := ld_one _ aggN_113 y off
theorem st_113 (V : Nat → Option AO) (l sz i off : Nat) (v : AV) : evalStore Tryz.prog 113 V (.loc l sz i off) v = if hasSize v 1 = true then (rowT (V l) sz i).bind fun p => (stAV p.2.2 off v).map fun x' => [(l, some (.row p.1 sz (p.2.1.set i x')))] else none := store_loc _ aggN_113 V l sz i off v
theorem bx_113 (x : Operand) (V : Nat → Option AO) (new : Nat) (ρ : Operand → AV) : evalOp Tryz.prog (.box 113 x) V new ρ = if hasSize (ρ x) 1 = true then some (.loc new 1 0 0, [(new, some (.row 113 1 [ρ x]))]) else none := by rw [E_box, aggN_113, boxK_some]
theorem al_113 (V : Nat → Option AO) (new : Nat) (ρ : Operand → AV) : evalOp Tryz.prog (.alloc 113) V new ρ = some (.loc new 1 0 0, [(new, some (.row 113 1 [.val (.slice none 0 0)]))]) := by rw [E_alloc, aggN_113, zero_113, allocK_some]; rfl
theorem iS_113 (xs : List AV) (k : IntKind) (n : Int) : evalIndexAddr Tryz.prog 113 (.sl 2 xs) (.val (.int k n)) = if 0 ≤ n then (xs[n.toNat]?).map fun z => .ptr z 0 else none := indexAddr_sl _ elemOfT_113 aggN_144 xs k n
theorem iM_113 (l len : Nat) (k : IntKind) (n : Int) : evalIndexAddr Tryz.prog 113 (.msl l len) (.val (.int k n)) = if 0 ≤ n ∧ n < len then some (.loc l 2 n.toNat 0) else none := indexAddr_msl _ elemOfT_113 aggN_144 l len k n
theorem ap_113 (V : Nat → Option AO) (s x : AV) (new : Nat) : evalAppend Tryz.prog 113 V s x new = appK 16 144 2 new (oldsOf V s 144 2) (newsOf V x 2) := append_eq _ V elemOfT_113 aggN_144 bytesOfT_144 zero_144 rfl s x new
theorem mk_113 (ka kb : IntKind) (a c : Int) (new : Nat) : evalMakeSlice Tryz.prog 113 (.val (.int ka a)) (.val (.int kb c)) new = if 0 ≤ a ∧ a ≤ c ∧ (16 : Int) * c ≤ 281474976710656 ∧ c ≤ 9223372036854775807 then some (.msl new a.toNat, [(new, some (.row 144 2 (List.replicate a.toNat (.agg [.val (.int .i64 0), .val (.int .i64 0)]))))]) else none := by have h := makeSlice_eq _ elemOfT_113 aggN_144 bytesOfT_144 zero_144 rfl ka kb a c new; exact h
theorem bS_113 (len : Nat) (parts : Array (Nat × Operand)) (V : Nat → Option AO) (new : Nat) (ρ : Operand → AV) : evalOp Tryz.prog (.buildSlice 113 len parts) V new ρ = if len * 2 ≤ 16777216 then (setsA 2 (List.replicate len (.agg [.val (.int .i64 0), .val (.int .i64 0)])) (parts.toList.map fun p => (p.1, ρ p.2))).map fun xs => (.msl new len, [(new, some (.row 144 2 xs))]) else none := by rw [E_buildSlice _ _ _ _ 113 len parts 144 elemOfT_113, aggN_144, zero_144, buildSliceK]; simp [hasSize, AV.one, Value.oneCell']
theorem lS_113 (sz : Nat) (xs : List AV) : evalLen Tryz.prog 113 (.sl sz xs) = some (int xs.length) := len_sl _ elemOfT_113 sz xs
theorem lM_113 (l n : Nat) : evalLen Tryz.prog 113 (.msl l n) = some (int n) := len_msl _ elemOfT_113 l n
theorem lN_113  : evalLen Tryz.prog 113 nilS = some (int 0) := len_nil _ elemOfT_113
theorem l0_113  : evalLen Tryz.prog 113 .e0 = some (int 0) := len_e0 _ elemOfT_113
theorem ld_115 (y : AV) (off : Nat) : evalLd Tryz.prog 115 y off = ldAgg y off 4 := ld_agg _ aggN_115 y off
theorem st_115 (V : Nat → Option AO) (l sz i off : Nat) (v : AV) : evalStore Tryz.prog 115 V (.loc l sz i off) v = if hasSize v 4 = true then (rowT (V l) sz i).bind fun p => (stAV p.2.2 off v).map fun x' => [(l, some (.row p.1 sz (p.2.1.set i x')))] else none := store_loc _ aggN_115 V l sz i off v
theorem bx_115 (x : Operand) (V : Nat → Option AO) (new : Nat) (ρ : Operand → AV) : evalOp Tryz.prog (.box 115 x) V new ρ = if hasSize (ρ x) 4 = true then some (.loc new 4 0 0, [(new, some (.row 115 4 [ρ x]))]) else none := by rw [E_box, aggN_115, boxK_some]
theorem al_115 (V : Nat → Option AO) (new : Nat) (ρ : Operand → AV) : evalOp Tryz.prog (.alloc 115) V new ρ = some (.loc new 4 0 0, [(new, some (.row 115 4 [.agg [.val (.slice none 0 0), .val (.slice none 0 0), .val (.map none), .val (.slice none 0 0)]]))]) := by rw [E_alloc, aggN_115, zero_115, allocK_some]; rfl
theorem fL_115_0 (l sz i off : Nat) : evalFieldAddr Tryz.prog 115 0 (.loc l sz i off) = some (.loc l sz i (off + 0)) := fieldAddr_loc _ fieldOf_115_0 aggN_26 (by decide) l sz i off
theorem fP_115_0 (y : AV) (off : Nat) : evalFieldAddr Tryz.prog 115 0 (.ptr y off) = some (.ptr y (off + 0)) := fieldAddr_ptr _ fieldOf_115_0 aggN_26 (by decide) y off
theorem fd_115_0 (x : AV) : evalField Tryz.prog 115 0 x = partA 0 1 x := field_agg' fieldOf_115_0 aggN_26 x
theorem fL_115_1 (l sz i off : Nat) : evalFieldAddr Tryz.prog 115 1 (.loc l sz i off) = some (.loc l sz i (off + 1)) := fieldAddr_loc _ fieldOf_115_1 aggN_73 (by decide) l sz i off
theorem fP_115_1 (y : AV) (off : Nat) : evalFieldAddr Tryz.prog 115 1 (.ptr y off) = some (.ptr y (off + 1)) := fieldAddr_ptr _ fieldOf_115_1 aggN_73 (by decide) y off
theorem fd_115_1 (x : AV) : evalField Tryz.prog 115 1 x = partO 1 x := field_one fieldOf_115_1 aggN_73 x
theorem fL_115_2 (l sz i off : Nat) : evalFieldAddr Tryz.prog 115 2 (.loc l sz i off) = some (.loc l sz i (off + 2)) := fieldAddr_loc _ fieldOf_115_2 aggN_112 (by decide) l sz i off
theorem fP_115_2 (y : AV) (off : Nat) : evalFieldAddr Tryz.prog 115 2 (.ptr y off) = some (.ptr y (off + 2)) := fieldAddr_ptr _ fieldOf_115_2 aggN_112 (by decide) y off
theorem fd_115_2 (x : AV) : evalField Tryz.prog 115 2 x = partO 2 x := field_one fieldOf_115_2 aggN_112 x
theorem fL_115_3 (l sz i off : Nat) : evalFieldAddr Tryz.prog 115 3 (.loc l sz i off) = some (.loc l sz i (off + 3)) := fieldAddr_loc _ fieldOf_115_3 aggN_113 (by decide) l sz i off
theorem fP_115_3 (y : AV) (off : Nat) : evalFieldAddr Tryz.prog 115 3 (.ptr y off) = some (.ptr y (off + 3)) := fieldAddr_ptr _ fieldOf_115_3 aggN_113 (by decide) y off
theorem fd_115_3 (x : AV) : evalField Tryz.prog 115 3 x = partO 3 x := field_one fieldOf_115_3 aggN_113 x
theorem lay_115 : layOf Tryz.prog 115 = some ([.val (.slice none 0 0), .val (.slice none 0 0), .val (.map none), .val (.slice none 0 0)], .str [(0, 1), (1, 1), (2, 1), (3, 1)]) := by kernel_rfl
theorem bd_115 (parts : List (Nat × AV)) : evalBuild Tryz.prog 115 parts = (fillA (fun i => [(0, 1), (1, 1), (2, 1), (3, 1)][i]?) [.val (.slice none 0 0), .val (.slice none 0 0), .val (.map none), .val (.slice none 0 0)] parts).map .agg := by simp only [evalBuild, lay_115]; rfl
theorem ld_116 (y : AV) (off : Nat) : evalLd Tryz.prog 116 y off = ldOne y off := ld_one _ aggN_116 y off
theorem st_116 (V : Nat → Option AO) (l sz i off : Nat) (v : AV) : evalStore Tryz.prog 116 V (.loc l sz i off) v = if hasSize v 1 = true then (rowT (V l) sz i).bind fun p => (stAV p.2.2 off v).map fun x' => [(l, some (.row p.1 sz (p.2.1.set i x')))] else none := store_loc _ aggN_116 V l sz i off v
theorem bx_116 (x : Operand) (V : Nat → Option AO) (new : Nat) (ρ : Operand → AV) : evalOp Tryz.prog (.box 116 x) V new ρ = if hasSize (ρ x) 1 = true then some (.loc new 1 0 0, [(new, some (.row 116 1 [ρ x]))]) else none := by rw [E_box, aggN_116, boxK_some]
theorem al_116 (V : Nat → Option AO) (new : Nat) (ρ : Operand → AV) : evalOp Tryz.prog (.alloc 116) V new ρ = some (.loc new 1 0 0, [(new, some (.row 116 1 [.val (.pointer none)]))]) := by rw [E_alloc, aggN_116, zero_116, allocK_some]; rfl
theorem ld_144 (y : AV) (off : Nat) : evalLd Tryz.prog 144 y off = ldAgg y off 2 := ld_agg _ aggN_144 y off
theorem st_144 (V : Nat → Option AO) (l sz i off : Nat) (v : AV) : evalStore Tryz.prog 144 V (.loc l sz i off) v = if hasSize v 2 = true then (rowT (V l) sz i).bind fun p => (stAV p.2.2 off v).map fun x' => [(l, some (.row p.1 sz (p.2.1.set i x')))] else none := store_loc _ aggN_144 V l sz i off v
theorem bx_144 (x : Operand) (V : Nat → Option AO) (new : Nat) (ρ : Operand → AV) : evalOp Tryz.prog (.box 144 x) V new ρ = if hasSize (ρ x) 2 = true then some (.loc new 2 0 0, [(new, some (.row 144 2 [ρ x]))]) else none := by rw [E_box, aggN_144, boxK_some]
theorem al_144 (V : Nat → Option AO) (new : Nat) (ρ : Operand → AV) : evalOp Tryz.prog (.alloc 144) V new ρ = some (.loc new 2 0 0, [(new, some (.row 144 2 [.agg [.val (.int .i64 0), .val (.int .i64 0)]]))]) := by rw [E_alloc, aggN_144, zero_144, allocK_some]; rfl
theorem lay_144 : layOf Tryz.prog 144 = some ([.val (.int .i64 0), .val (.int .i64 0)], .arr 1) := by kernel_rfl
theorem bd_144 (parts : List (Nat × AV)) : evalBuild Tryz.prog 144 parts = (fillA (fun i => some (i * 1, 1)) [.val (.int .i64 0), .val (.int .i64 0)] parts).map .agg := by simp only [evalBuild, lay_144]; rfl
theorem iL_144 (l sz i off : Nat) (k : IntKind) (n : Int) : evalIndexAddr Tryz.prog 144 (.loc l sz i off) (.val (.int k n)) = if 0 ≤ n ∧ n < (2 : Nat) then some (.loc l sz i (off + n.toNat * 1)) else none := indexAddr_aloc _ elemOfT_144 arrOfT_144 aggN_3 l sz i off k n
theorem iP_144 (y : AV) (off : Nat) (k : IntKind) (n : Int) : evalIndexAddr Tryz.prog 144 (.ptr y off) (.val (.int k n)) = if 0 ≤ n ∧ n < (2 : Nat) then some (.ptr y (off + n.toNat * 1)) else none := indexAddr_aptr _ elemOfT_144 arrOfT_144 aggN_3 y off k n
theorem ld_159 (y : AV) (off : Nat) : evalLd Tryz.prog 159 y off = ldOne y off := ld_one _ aggN_159 y off
theorem st_159 (V : Nat → Option AO) (l sz i off : Nat) (v : AV) : evalStore Tryz.prog 159 V (.loc l sz i off) v = if hasSize v 1 = true then (rowT (V l) sz i).bind fun p => (stAV p.2.2 off v).map fun x' => [(l, some (.row p.1 sz (p.2.1.set i x')))] else none := store_loc _ aggN_159 V l sz i off v
theorem bx_159 (x : Operand) (V : Nat → Option AO) (new : Nat) (ρ : Operand → AV) : evalOp Tryz.prog (.box 159 x) V new ρ = if hasSize (ρ x) 1 = true then some (.loc new 1 0 0, [(new, some (.row 159 1 [ρ x]))]) else none := by rw [E_box, aggN_159, boxK_some]
end Go.Proofs.YtapdjibjnfeipaaGreatDoor.AL

