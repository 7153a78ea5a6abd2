/- A law of the given program is proved: part 26 of 49. -/
import Derived.Test.YtnmljicimdhpmaaH25
set_option linter.all false
/- AL: the evaluator's rules with the facts of this seat's types, printed by rules.py. -/
set_option linter.unusedSimpArgs false
set_option linter.unusedVariables false
namespace Go.Proofs.Ytnmljicimdhpmaa.AL
open Go Go.Proofs
set_option maxRecDepth 100000
theorem mixed : Try.prog.follows .mixedOrders = true := by kernel_rfl
theorem zero_2 : zeroOf Try.prog 2 = some (.val (.int .i64 0)) := by kernel_rfl
theorem zero_3 : zeroOf Try.prog 3 = some (.val (.int .i64 0)) := by kernel_rfl
theorem zero_4 : zeroOf Try.prog 4 = some (.val (.bool false)) := by kernel_rfl
theorem zero_5 : zeroOf Try.prog 5 = some (.val (.int .u8 0)) := by kernel_rfl
theorem zero_9 : zeroOf Try.prog 9 = some (.val (.string ⟨#[]⟩)) := by kernel_rfl
theorem zero_24 : zeroOf Try.prog 24 = some (.val (.slice none 0 0)) := by kernel_rfl
theorem zero_26 : zeroOf Try.prog 26 = some (.agg [.val (.slice none 0 0)]) := by kernel_rfl
theorem zero_39 : zeroOf Try.prog 39 = some (.val (.slice none 0 0)) := by kernel_rfl
theorem zero_40 : zeroOf Try.prog 40 = some (.val (.slice none 0 0)) := by kernel_rfl
theorem zero_44 : zeroOf Try.prog 44 = some (.agg [.val (.int .i64 0), .val (.int .i64 0), .val (.string ⟨#[]⟩), .val (.int .i64 0), .val (.int .i64 0), .val (.int .i64 0), .val (.int .i64 0)]) := by kernel_rfl
theorem zero_46 : zeroOf Try.prog 46 = some (.agg [.val (.int .i64 0), .val (.int .i64 0), .val (.int .i64 0), .val (.int .i64 0), .val (.slice none 0 0), .val (.slice none 0 0), .val (.int .i64 0), .val (.int .i64 0), .val (.string ⟨#[]⟩), .val (.int .i64 0), .val (.int .i64 0), .val (.int .i64 0), .val (.int .i64 0)]) := by kernel_rfl
theorem zero_49 : zeroOf Try.prog 49 = some (.val (.slice none 0 0)) := by kernel_rfl
theorem zero_52 : zeroOf Try.prog 52 = some (.agg [.val (.int .i64 0), .val (.int .i64 0), .val (.string ⟨#[]⟩)]) := by kernel_rfl
theorem zero_54 : zeroOf Try.prog 54 = some (.agg [.val (.int .i64 0), .val (.int .i64 0), .val (.string ⟨#[]⟩)]) := by kernel_rfl
theorem zero_63 : zeroOf Try.prog 63 = some (.val (.slice none 0 0)) := by kernel_rfl
theorem zero_67 : zeroOf Try.prog 67 = some (.val (.slice none 0 0)) := by kernel_rfl
theorem zero_68 : zeroOf Try.prog 68 = some (.agg [.val (.int .i64 0), .val (.int .i64 0)]) := by kernel_rfl
theorem zero_72 : zeroOf Try.prog 72 = some (.val (.slice none 0 0)) := by kernel_rfl
theorem zero_94 : zeroOf Try.prog 94 = some (.val (.map none)) := by kernel_rfl
theorem zero_96 : zeroOf Try.prog 96 = some (.agg [.val (.slice none 0 0), .val (.slice none 0 0), .val (.map none), .val (.slice none 0 0)]) := by kernel_rfl
theorem zero_97 : zeroOf Try.prog 97 = some (.val (.pointer none)) := by kernel_rfl
theorem ld_1 (y : AV) (off : Nat) : evalLd Try.prog 1 y off = ldOne y off := ld_one _ aggN_1 y off
theorem st_1 (V : Nat → Option AO) (l sz i off : Nat) (v : AV) : evalStore Try.prog 1 V (.loc l sz i off) v = if hasSize v 1 = true then (rowT (V l) sz i).bind fun p => (stAV p.2.2 off v).map fun x' => [(l, some (.row p.1 sz (p.2.1.set i x')))] else none := store_loc _ aggN_1 V l sz i off v
theorem bx_1 (x : Operand) (V : Nat → Option AO) (new : Nat) (ρ : Operand → AV) : evalOp Try.prog (.box 1 x) V new ρ = if hasSize (ρ x) 1 = true then some (.loc new 1 0 0, [(new, some (.row 1 1 [ρ x]))]) else none := by rw [E_box, aggN_1, boxK_some]
theorem ld_2 (y : AV) (off : Nat) : evalLd Try.prog 2 y off = ldOne y off := ld_one _ aggN_2 y off
theorem st_2 (V : Nat → Option AO) (l sz i off : Nat) (v : AV) : evalStore Try.prog 2 V (.loc l sz i off) v = if hasSize v 1 = true then (rowT (V l) sz i).bind fun p => (stAV p.2.2 off v).map fun x' => [(l, some (.row p.1 sz (p.2.1.set i x')))] else none := store_loc _ aggN_2 V l sz i off v
theorem bx_2 (x : Operand) (V : Nat → Option AO) (new : Nat) (ρ : Operand → AV) : evalOp Try.prog (.box 2 x) V new ρ = if hasSize (ρ x) 1 = true then some (.loc new 1 0 0, [(new, some (.row 2 1 [ρ x]))]) else none := by rw [E_box, aggN_2, boxK_some]
theorem al_2 (V : Nat → Option AO) (new : Nat) (ρ : Operand → AV) : evalOp Try.prog (.alloc 2) V new ρ = some (.loc new 1 0 0, [(new, some (.row 2 1 [.val (.int .i64 0)]))]) := by rw [E_alloc, aggN_2, zero_2, allocK_some]; rfl
theorem ld_3 (y : AV) (off : Nat) : evalLd Try.prog 3 y off = ldOne y off := ld_one _ aggN_3 y off
theorem st_3 (V : Nat → Option AO) (l sz i off : Nat) (v : AV) : evalStore Try.prog 3 V (.loc l sz i off) v = if hasSize v 1 = true then (rowT (V l) sz i).bind fun p => (stAV p.2.2 off v).map fun x' => [(l, some (.row p.1 sz (p.2.1.set i x')))] else none := store_loc _ aggN_3 V l sz i off v
theorem bx_3 (x : Operand) (V : Nat → Option AO) (new : Nat) (ρ : Operand → AV) : evalOp Try.prog (.box 3 x) V new ρ = if hasSize (ρ x) 1 = true then some (.loc new 1 0 0, [(new, some (.row 3 1 [ρ x]))]) else none := by rw [E_box, aggN_3, boxK_some]
theorem al_3 (V : Nat → Option AO) (new : Nat) (ρ : Operand → AV) : evalOp Try.prog (.alloc 3) V new ρ = some (.loc new 1 0 0, [(new, some (.row 3 1 [.val (.int .i64 0)]))]) := by rw [E_alloc, aggN_3, zero_3, allocK_some]; rfl
theorem ld_4 (y : AV) (off : Nat) : evalLd Try.prog 4 y off = ldOne y off := ld_one _ aggN_4 y off
theorem st_4 (V : Nat → Option AO) (l sz i off : Nat) (v : AV) : evalStore Try.prog 4 V (.loc l sz i off) v = if hasSize v 1 = true then (rowT (V l) sz i).bind fun p => (stAV p.2.2 off v).map fun x' => [(l, some (.row p.1 sz (p.2.1.set i x')))] else none := store_loc _ aggN_4 V l sz i off v
theorem bx_4 (x : Operand) (V : Nat → Option AO) (new : Nat) (ρ : Operand → AV) : evalOp Try.prog (.box 4 x) V new ρ = if hasSize (ρ x) 1 = true then some (.loc new 1 0 0, [(new, some (.row 4 1 [ρ x]))]) else none := by rw [E_box, aggN_4, boxK_some]
theorem al_4 (V : Nat → Option AO) (new : Nat) (ρ : Operand → AV) : evalOp Try.prog (.alloc 4) V new ρ = some (.loc new 1 0 0, [(new, some (.row 4 1 [.val (.bool false)]))]) := by rw [E_alloc, aggN_4, zero_4, allocK_some]; rfl
theorem bq_4 (a b : Bool) : binK Try.prog .eql 4 (bool a) (bool b) = brR (a == b) := bool_eql kindOf_4 a b
theorem bn_4 (a b : Bool) : binK Try.prog .neq 4 (bool a) (bool b) = brR (!(a == b)) := bool_neq kindOf_4 a b
theorem ld_5 (y : AV) (off : Nat) : evalLd Try.prog 5 y off = ldOne y off := ld_one _ aggN_5 y off
theorem st_5 (V : Nat → Option AO) (l sz i off : Nat) (v : AV) : evalStore Try.prog 5 V (.loc l sz i off) v = if hasSize v 1 = true then (rowT (V l) sz i).bind fun p => (stAV p.2.2 off v).map fun x' => [(l, some (.row p.1 sz (p.2.1.set i x')))] else none := store_loc _ aggN_5 V l sz i off v
theorem bx_5 (x : Operand) (V : Nat → Option AO) (new : Nat) (ρ : Operand → AV) : evalOp Try.prog (.box 5 x) V new ρ = if hasSize (ρ x) 1 = true then some (.loc new 1 0 0, [(new, some (.row 5 1 [ρ x]))]) else none := by rw [E_box, aggN_5, boxK_some]
theorem al_5 (V : Nat → Option AO) (new : Nat) (ρ : Operand → AV) : evalOp Try.prog (.alloc 5) V new ρ = some (.loc new 1 0 0, [(new, some (.row 5 1 [.val (.int .u8 0)]))]) := by rw [E_alloc, aggN_5, zero_5, allocK_some]; rfl
theorem ld_9 (y : AV) (off : Nat) : evalLd Try.prog 9 y off = ldOne y off := ld_one _ aggN_9 y off
theorem st_9 (V : Nat → Option AO) (l sz i off : Nat) (v : AV) : evalStore Try.prog 9 V (.loc l sz i off) v = if hasSize v 1 = true then (rowT (V l) sz i).bind fun p => (stAV p.2.2 off v).map fun x' => [(l, some (.row p.1 sz (p.2.1.set i x')))] else none := store_loc _ aggN_9 V l sz i off v
theorem bx_9 (x : Operand) (V : Nat → Option AO) (new : Nat) (ρ : Operand → AV) : evalOp Try.prog (.box 9 x) V new ρ = if hasSize (ρ x) 1 = true then some (.loc new 1 0 0, [(new, some (.row 9 1 [ρ x]))]) else none := by rw [E_box, aggN_9, boxK_some]
theorem al_9 (V : Nat → Option AO) (new : Nat) (ρ : Operand → AV) : evalOp Try.prog (.alloc 9) V new ρ = some (.loc new 1 0 0, [(new, some (.row 9 1 [.val (.string ⟨#[]⟩)]))]) := by rw [E_alloc, aggN_9, zero_9, allocK_some]; rfl
theorem lB_9 (s : ByteArray) : evalLen Try.prog 9 (.val (.string s)) = some (int s.size) := len_str _ kindOf_9 s
theorem iB_9 (s : ByteArray) (k : IntKind) (n : Int) : evalIndex Try.prog 9 (.val (.string s)) (.val (.int k n)) = if 0 ≤ n then (s[n.toNat]?).map fun b => u8 b else none := index_str _ kindOf_9 s k n
theorem ld_24 (y : AV) (off : Nat) : evalLd Try.prog 24 y off = ldOne y off := ld_one _ aggN_24 y off
theorem st_24 (V : Nat → Option AO) (l sz i off : Nat) (v : AV) : evalStore Try.prog 24 V (.loc l sz i off) v = if hasSize v 1 = true then (rowT (V l) sz i).bind fun p => (stAV p.2.2 off v).map fun x' => [(l, some (.row p.1 sz (p.2.1.set i x')))] else none := store_loc _ aggN_24 V l sz i off v
theorem bx_24 (x : Operand) (V : Nat → Option AO) (new : Nat) (ρ : Operand → AV) : evalOp Try.prog (.box 24 x) V new ρ = if hasSize (ρ x) 1 = true then some (.loc new 1 0 0, [(new, some (.row 24 1 [ρ x]))]) else none := by rw [E_box, aggN_24, boxK_some]
theorem al_24 (V : Nat → Option AO) (new : Nat) (ρ : Operand → AV) : evalOp Try.prog (.alloc 24) V new ρ = some (.loc new 1 0 0, [(new, some (.row 24 1 [.val (.slice none 0 0)]))]) := by rw [E_alloc, aggN_24, zero_24, allocK_some]; rfl
theorem iS_24 (xs : List AV) (k : IntKind) (n : Int) : evalIndexAddr Try.prog 24 (.sl 13 xs) (.val (.int k n)) = if 0 ≤ n then (xs[n.toNat]?).map fun z => .ptr z 0 else none := indexAddr_sl _ elemOfT_24 aggN_46 xs k n
theorem iM_24 (l len : Nat) (k : IntKind) (n : Int) : evalIndexAddr Try.prog 24 (.msl l len) (.val (.int k n)) = if 0 ≤ n ∧ n < len then some (.loc l 13 n.toNat 0) else none := indexAddr_msl _ elemOfT_24 aggN_46 l len k n
theorem ap_24 (V : Nat → Option AO) (s x : AV) (new : Nat) : evalAppend Try.prog 24 V s x new = appK 144 46 13 new (oldsOf V s 46 13) (newsOf V x 13) := append_eq _ V elemOfT_24 aggN_46 bytesOfT_46 zero_46 rfl s x new
theorem mk_24 (ka kb : IntKind) (a c : Int) (new : Nat) : evalMakeSlice Try.prog 24 (.val (.int ka a)) (.val (.int kb c)) new = if 0 ≤ a ∧ a ≤ c ∧ (144 : Int) * c ≤ 281474976710656 ∧ c ≤ 9223372036854775807 then some (.msl new a.toNat, [(new, some (.row 46 13 (List.replicate a.toNat (.agg [.val (.int .i64 0), .val (.int .i64 0), .val (.int .i64 0), .val (.int .i64 0), .val (.slice none 0 0), .val (.slice none 0 0), .val (.int .i64 0), .val (.int .i64 0), .val (.string ⟨#[]⟩), .val (.int .i64 0), .val (.int .i64 0), .val (.int .i64 0), .val (.int .i64 0)]))))]) else none := by have h := makeSlice_eq _ elemOfT_24 aggN_46 bytesOfT_46 zero_46 rfl ka kb a c new; exact h
theorem bS_24 (len : Nat) (parts : Array (Nat × Operand)) (V : Nat → Option AO) (new : Nat) (ρ : Operand → AV) : evalOp Try.prog (.buildSlice 24 len parts) V new ρ = if len * 13 ≤ 16777216 then (setsA 13 (List.replicate len (.agg [.val (.int .i64 0), .val (.int .i64 0), .val (.int .i64 0), .val (.int .i64 0), .val (.slice none 0 0), .val (.slice none 0 0), .val (.int .i64 0), .val (.int .i64 0), .val (.string ⟨#[]⟩), .val (.int .i64 0), .val (.int .i64 0), .val (.int .i64 0), .val (.int .i64 0)])) (parts.toList.map fun p => (p.1, ρ p.2))).map fun xs => (.msl new len, [(new, some (.row 46 13 xs))]) else none := by rw [E_buildSlice _ _ _ _ 24 len parts 46 elemOfT_24, aggN_46, zero_46, buildSliceK]; simp [hasSize, AV.one, Value.oneCell']
theorem lS_24 (sz : Nat) (xs : List AV) : evalLen Try.prog 24 (.sl sz xs) = some (int xs.length) := len_sl _ elemOfT_24 sz xs
theorem lM_24 (l n : Nat) : evalLen Try.prog 24 (.msl l n) = some (int n) := len_msl _ elemOfT_24 l n
theorem lN_24  : evalLen Try.prog 24 nilS = some (int 0) := len_nil _ elemOfT_24
theorem l0_24  : evalLen Try.prog 24 .e0 = some (int 0) := len_e0 _ elemOfT_24
theorem ld_26 (y : AV) (off : Nat) : evalLd Try.prog 26 y off = ldAgg y off 1 := ld_agg _ aggN_26 y off
theorem st_26 (V : Nat → Option AO) (l sz i off : Nat) (v : AV) : evalStore Try.prog 26 V (.loc l sz i off) v = if hasSize v 1 = true then (rowT (V l) sz i).bind fun p => (stAV p.2.2 off v).map fun x' => [(l, some (.row p.1 sz (p.2.1.set i x')))] else none := store_loc _ aggN_26 V l sz i off v
theorem bx_26 (x : Operand) (V : Nat → Option AO) (new : Nat) (ρ : Operand → AV) : evalOp Try.prog (.box 26 x) V new ρ = if hasSize (ρ x) 1 = true then some (.loc new 1 0 0, [(new, some (.row 26 1 [ρ x]))]) else none := by rw [E_box, aggN_26, boxK_some]
theorem al_26 (V : Nat → Option AO) (new : Nat) (ρ : Operand → AV) : evalOp Try.prog (.alloc 26) V new ρ = some (.loc new 1 0 0, [(new, some (.row 26 1 [.agg [.val (.slice none 0 0)]]))]) := by rw [E_alloc, aggN_26, zero_26, allocK_some]; rfl
theorem fL_26_0 (l sz i off : Nat) : evalFieldAddr Try.prog 26 0 (.loc l sz i off) = some (.loc l sz i (off + 0)) := fieldAddr_loc _ fieldOf_26_0 aggN_24 (by decide) l sz i off
theorem fP_26_0 (y : AV) (off : Nat) : evalFieldAddr Try.prog 26 0 (.ptr y off) = some (.ptr y (off + 0)) := fieldAddr_ptr _ fieldOf_26_0 aggN_24 (by decide) y off
theorem fd_26_0 (x : AV) : evalField Try.prog 26 0 x = partO 0 x := field_one fieldOf_26_0 aggN_24 x
theorem lay_26 : layOf Try.prog 26 = some ([.val (.slice none 0 0)], .str [(0, 1)]) := by kernel_rfl
theorem bd_26 (parts : List (Nat × AV)) : evalBuild Try.prog 26 parts = (fillA (fun i => [(0, 1)][i]?) [.val (.slice none 0 0)] parts).map .agg := by simp only [evalBuild, lay_26]; rfl
theorem ld_39 (y : AV) (off : Nat) : evalLd Try.prog 39 y off = ldOne y off := ld_one _ aggN_39 y off
theorem st_39 (V : Nat → Option AO) (l sz i off : Nat) (v : AV) : evalStore Try.prog 39 V (.loc l sz i off) v = if hasSize v 1 = true then (rowT (V l) sz i).bind fun p => (stAV p.2.2 off v).map fun x' => [(l, some (.row p.1 sz (p.2.1.set i x')))] else none := store_loc _ aggN_39 V l sz i off v
theorem bx_39 (x : Operand) (V : Nat → Option AO) (new : Nat) (ρ : Operand → AV) : evalOp Try.prog (.box 39 x) V new ρ = if hasSize (ρ x) 1 = true then some (.loc new 1 0 0, [(new, some (.row 39 1 [ρ x]))]) else none := by rw [E_box, aggN_39, boxK_some]
theorem al_39 (V : Nat → Option AO) (new : Nat) (ρ : Operand → AV) : evalOp Try.prog (.alloc 39) V new ρ = some (.loc new 1 0 0, [(new, some (.row 39 1 [.val (.slice none 0 0)]))]) := by rw [E_alloc, aggN_39, zero_39, allocK_some]; rfl
theorem iS_39 (xs : List AV) (k : IntKind) (n : Int) : evalIndexAddr Try.prog 39 (.sl 1 xs) (.val (.int k n)) = if 0 ≤ n then (xs[n.toNat]?).map fun z => .ptr z 0 else none := indexAddr_sl _ elemOfT_39 aggN_5 xs k n
theorem iM_39 (l len : Nat) (k : IntKind) (n : Int) : evalIndexAddr Try.prog 39 (.msl l len) (.val (.int k n)) = if 0 ≤ n ∧ n < len then some (.loc l 1 n.toNat 0) else none := indexAddr_msl _ elemOfT_39 aggN_5 l len k n
theorem ap_39 (V : Nat → Option AO) (s x : AV) (new : Nat) : evalAppend Try.prog 39 V s x new = appK 1 5 1 new (oldsOf V s 5 1) (newsOf V x 1) := append_eq _ V elemOfT_39 aggN_5 bytesOfT_5 zero_5 rfl s x new
theorem mk_39 (ka kb : IntKind) (a c : Int) (new : Nat) : evalMakeSlice Try.prog 39 (.val (.int ka a)) (.val (.int kb c)) new = if 0 ≤ a ∧ a ≤ c ∧ (1 : Int) * c ≤ 281474976710656 ∧ c ≤ 9223372036854775807 then some (.msl new a.toNat, [(new, some (.row 5 1 (List.replicate a.toNat (.val (.int .u8 0)))))]) else none := by have h := makeSlice_eq _ elemOfT_39 aggN_5 bytesOfT_5 zero_5 rfl ka kb a c new; exact h
theorem bS_39 (len : Nat) (parts : Array (Nat × Operand)) (V : Nat → Option AO) (new : Nat) (ρ : Operand → AV) : evalOp Try.prog (.buildSlice 39 len parts) V new ρ = if len * 1 ≤ 16777216 then (setsA 1 (List.replicate len (.val (.int .u8 0))) (parts.toList.map fun p => (p.1, ρ p.2))).map fun xs => (.msl new len, [(new, some (.row 5 1 xs))]) else none := by rw [E_buildSlice _ _ _ _ 39 len parts 5 elemOfT_39, aggN_5, zero_5, buildSliceK]; simp [hasSize, AV.one, Value.oneCell']
theorem lS_39 (sz : Nat) (xs : List AV) : evalLen Try.prog 39 (.sl sz xs) = some (int xs.length) := len_sl _ elemOfT_39 sz xs
theorem lM_39 (l n : Nat) : evalLen Try.prog 39 (.msl l n) = some (int n) := len_msl _ elemOfT_39 l n
theorem lN_39  : evalLen Try.prog 39 nilS = some (int 0) := len_nil _ elemOfT_39
theorem l0_39  : evalLen Try.prog 39 .e0 = some (int 0) := len_e0 _ elemOfT_39
theorem ld_40 (y : AV) (off : Nat) : evalLd Try.prog 40 y off = ldOne y off := ld_one _ aggN_40 y off
theorem st_40 (V : Nat → Option AO) (l sz i off : Nat) (v : AV) : evalStore Try.prog 40 V (.loc l sz i off) v = if hasSize v 1 = true then (rowT (V l) sz i).bind fun p => (stAV p.2.2 off v).map fun x' => [(l, some (.row p.1 sz (p.2.1.set i x')))] else none := store_loc _ aggN_40 V l sz i off v
theorem bx_40 (x : Operand) (V : Nat → Option AO) (new : Nat) (ρ : Operand → AV) : evalOp Try.prog (.box 40 x) V new ρ = if hasSize (ρ x) 1 = true then some (.loc new 1 0 0, [(new, some (.row 40 1 [ρ x]))]) else none := by rw [E_box, aggN_40, boxK_some]
theorem al_40 (V : Nat → Option AO) (new : Nat) (ρ : Operand → AV) : evalOp Try.prog (.alloc 40) V new ρ = some (.loc new 1 0 0, [(new, some (.row 40 1 [.val (.slice none 0 0)]))]) := by rw [E_alloc, aggN_40, zero_40, allocK_some]; rfl
theorem iS_40 (xs : List AV) (k : IntKind) (n : Int) : evalIndexAddr Try.prog 40 (.sl 3 xs) (.val (.int k n)) = if 0 ≤ n then (xs[n.toNat]?).map fun z => .ptr z 0 else none := indexAddr_sl _ elemOfT_40 aggN_54 xs k n
theorem iM_40 (l len : Nat) (k : IntKind) (n : Int) : evalIndexAddr Try.prog 40 (.msl l len) (.val (.int k n)) = if 0 ≤ n ∧ n < len then some (.loc l 3 n.toNat 0) else none := indexAddr_msl _ elemOfT_40 aggN_54 l len k n
theorem ap_40 (V : Nat → Option AO) (s x : AV) (new : Nat) : evalAppend Try.prog 40 V s x new = appK 32 54 3 new (oldsOf V s 54 3) (newsOf V x 3) := append_eq _ V elemOfT_40 aggN_54 bytesOfT_54 zero_54 rfl s x new
theorem mk_40 (ka kb : IntKind) (a c : Int) (new : Nat) : evalMakeSlice Try.prog 40 (.val (.int ka a)) (.val (.int kb c)) new = if 0 ≤ a ∧ a ≤ c ∧ (32 : Int) * c ≤ 281474976710656 ∧ c ≤ 9223372036854775807 then some (.msl new a.toNat, [(new, some (.row 54 3 (List.replicate a.toNat (.agg [.val (.int .i64 0), .val (.int .i64 0), .val (.string ⟨#[]⟩)]))))]) else none := by have h := makeSlice_eq _ elemOfT_40 aggN_54 bytesOfT_54 zero_54 rfl ka kb a c new; exact h
theorem bS_40 (len : Nat) (parts : Array (Nat × Operand)) (V : Nat → Option AO) (new : Nat) (ρ : Operand → AV) : evalOp Try.prog (.buildSlice 40 len parts) V new ρ = if len * 3 ≤ 16777216 then (setsA 3 (List.replicate len (.agg [.val (.int .i64 0), .val (.int .i64 0), .val (.string ⟨#[]⟩)])) (parts.toList.map fun p => (p.1, ρ p.2))).map fun xs => (.msl new len, [(new, some (.row 54 3 xs))]) else none := by rw [E_buildSlice _ _ _ _ 40 len parts 54 elemOfT_40, aggN_54, zero_54, buildSliceK]; simp [hasSize, AV.one, Value.oneCell']
theorem lS_40 (sz : Nat) (xs : List AV) : evalLen Try.prog 40 (.sl sz xs) = some (int xs.length) := len_sl _ elemOfT_40 sz xs
theorem lM_40 (l n : Nat) : evalLen Try.prog 40 (.msl l n) = some (int n) := len_msl _ elemOfT_40 l n
theorem lN_40  : evalLen Try.prog 40 nilS = some (int 0) := len_nil _ elemOfT_40
theorem l0_40  : evalLen Try.prog 40 .e0 = some (int 0) := len_e0 _ elemOfT_40
theorem ld_44 (y : AV) (off : Nat) : evalLd Try.prog 44 y off = ldAgg y off 7 := ld_agg _ aggN_44 y off
theorem st_44 (V : Nat → Option AO) (l sz i off : Nat) (v : AV) : evalStore Try.prog 44 V (.loc l sz i off) v = if hasSize v 7 = true then (rowT (V l) sz i).bind fun p => (stAV p.2.2 off v).map fun x' => [(l, some (.row p.1 sz (p.2.1.set i x')))] else none := store_loc _ aggN_44 V l sz i off v
theorem bx_44 (x : Operand) (V : Nat → Option AO) (new : Nat) (ρ : Operand → AV) : evalOp Try.prog (.box 44 x) V new ρ = if hasSize (ρ x) 7 = true then some (.loc new 7 0 0, [(new, some (.row 44 7 [ρ x]))]) else none := by rw [E_box, aggN_44, boxK_some]
theorem al_44 (V : Nat → Option AO) (new : Nat) (ρ : Operand → AV) : evalOp Try.prog (.alloc 44) V new ρ = some (.loc new 7 0 0, [(new, some (.row 44 7 [.agg [.val (.int .i64 0), .val (.int .i64 0), .val (.string ⟨#[]⟩), .val (.int .i64 0), .val (.int .i64 0), .val (.int .i64 0), .val (.int .i64 0)]]))]) := by rw [E_alloc, aggN_44, zero_44, allocK_some]; rfl
theorem fL_44_0 (l sz i off : Nat) : evalFieldAddr Try.prog 44 0 (.loc l sz i off) = some (.loc l sz i (off + 0)) := fieldAddr_loc _ fieldOf_44_0 aggN_3 (by decide) l sz i off
theorem fP_44_0 (y : AV) (off : Nat) : evalFieldAddr Try.prog 44 0 (.ptr y off) = some (.ptr y (off + 0)) := fieldAddr_ptr _ fieldOf_44_0 aggN_3 (by decide) y off
theorem fd_44_0 (x : AV) : evalField Try.prog 44 0 x = partO 0 x := field_one fieldOf_44_0 aggN_3 x
theorem fL_44_1 (l sz i off : Nat) : evalFieldAddr Try.prog 44 1 (.loc l sz i off) = some (.loc l sz i (off + 1)) := fieldAddr_loc _ fieldOf_44_1 aggN_3 (by decide) l sz i off
theorem fP_44_1 (y : AV) (off : Nat) : evalFieldAddr Try.prog 44 1 (.ptr y off) = some (.ptr y (off + 1)) := fieldAddr_ptr _ fieldOf_44_1 aggN_3 (by decide) y off
theorem fd_44_1 (x : AV) : evalField Try.prog 44 1 x = partO 1 x := field_one fieldOf_44_1 aggN_3 x
theorem fL_44_2 (l sz i off : Nat) : evalFieldAddr Try.prog 44 2 (.loc l sz i off) = some (.loc l sz i (off + 2)) := fieldAddr_loc _ fieldOf_44_2 aggN_9 (by decide) l sz i off
theorem fP_44_2 (y : AV) (off : Nat) : evalFieldAddr Try.prog 44 2 (.ptr y off) = some (.ptr y (off + 2)) := fieldAddr_ptr _ fieldOf_44_2 aggN_9 (by decide) y off
theorem fd_44_2 (x : AV) : evalField Try.prog 44 2 x = partO 2 x := field_one fieldOf_44_2 aggN_9 x
theorem fL_44_3 (l sz i off : Nat) : evalFieldAddr Try.prog 44 3 (.loc l sz i off) = some (.loc l sz i (off + 3)) := fieldAddr_loc _ fieldOf_44_3 aggN_42 (by decide) l sz i off
theorem fP_44_3 (y : AV) (off : Nat) : evalFieldAddr Try.prog 44 3 (.ptr y off) = some (.ptr y (off + 3)) := fieldAddr_ptr _ fieldOf_44_3 aggN_42 (by decide) y off
theorem fd_44_3 (x : AV) : evalField Try.prog 44 3 x = partA 3 3 x := field_agg' fieldOf_44_3 aggN_42 x
theorem fL_44_4 (l sz i off : Nat) : evalFieldAddr Try.prog 44 4 (.loc l sz i off) = some (.loc l sz i (off + 6)) := fieldAddr_loc _ fieldOf_44_4 aggN_3 (by decide) l sz i off
theorem fP_44_4 (y : AV) (off : Nat) : evalFieldAddr Try.prog 44 4 (.ptr y off) = some (.ptr y (off + 6)) := fieldAddr_ptr _ fieldOf_44_4 aggN_3 (by decide) y off
theorem fd_44_4 (x : AV) : evalField Try.prog 44 4 x = partO 6 x := field_one fieldOf_44_4 aggN_3 x
theorem lay_44 : layOf Try.prog 44 = some ([.val (.int .i64 0), .val (.int .i64 0), .val (.string ⟨#[]⟩), .val (.int .i64 0), .val (.int .i64 0), .val (.int .i64 0), .val (.int .i64 0)], .str [(0, 1), (1, 1), (2, 1), (3, 3), (6, 1)]) := by kernel_rfl
theorem bd_44 (parts : List (Nat × AV)) : evalBuild Try.prog 44 parts = (fillA (fun i => [(0, 1), (1, 1), (2, 1), (3, 3), (6, 1)][i]?) [.val (.int .i64 0), .val (.int .i64 0), .val (.string ⟨#[]⟩), .val (.int .i64 0), .val (.int .i64 0), .val (.int .i64 0), .val (.int .i64 0)] parts).map .agg := by simp only [evalBuild, lay_44]; rfl
theorem ld_46 (y : AV) (off : Nat) : evalLd Try.prog 46 y off = ldAgg y off 13 := ld_agg _ aggN_46 y off
theorem st_46 (V : Nat → Option AO) (l sz i off : Nat) (v : AV) : evalStore Try.prog 46 V (.loc l sz i off) v = if hasSize v 13 = true then (rowT (V l) sz i).bind fun p => (stAV p.2.2 off v).map fun x' => [(l, some (.row p.1 sz (p.2.1.set i x')))] else none := store_loc _ aggN_46 V l sz i off v
theorem bx_46 (x : Operand) (V : Nat → Option AO) (new : Nat) (ρ : Operand → AV) : evalOp Try.prog (.box 46 x) V new ρ = if hasSize (ρ x) 13 = true then some (.loc new 13 0 0, [(new, some (.row 46 13 [ρ x]))]) else none := by rw [E_box, aggN_46, boxK_some]
theorem al_46 (V : Nat → Option AO) (new : Nat) (ρ : Operand → AV) : evalOp Try.prog (.alloc 46) V new ρ = some (.loc new 13 0 0, [(new, some (.row 46 13 [.agg [.val (.int .i64 0), .val (.int .i64 0), .val (.int .i64 0), .val (.int .i64 0), .val (.slice none 0 0), .val (.slice none 0 0), .val (.int .i64 0), .val (.int .i64 0), .val (.string ⟨#[]⟩), .val (.int .i64 0), .val (.int .i64 0), .val (.int .i64 0), .val (.int .i64 0)]]))]) := by rw [E_alloc, aggN_46, zero_46, allocK_some]; rfl
theorem fL_46_0 (l sz i off : Nat) : evalFieldAddr Try.prog 46 0 (.loc l sz i off) = some (.loc l sz i (off + 0)) := fieldAddr_loc _ fieldOf_46_0 aggN_3 (by decide) l sz i off
theorem fP_46_0 (y : AV) (off : Nat) : evalFieldAddr Try.prog 46 0 (.ptr y off) = some (.ptr y (off + 0)) := fieldAddr_ptr _ fieldOf_46_0 aggN_3 (by decide) y off
theorem fd_46_0 (x : AV) : evalField Try.prog 46 0 x = partO 0 x := field_one fieldOf_46_0 aggN_3 x
theorem fL_46_1 (l sz i off : Nat) : evalFieldAddr Try.prog 46 1 (.loc l sz i off) = some (.loc l sz i (off + 1)) := fieldAddr_loc _ fieldOf_46_1 aggN_3 (by decide) l sz i off
theorem fP_46_1 (y : AV) (off : Nat) : evalFieldAddr Try.prog 46 1 (.ptr y off) = some (.ptr y (off + 1)) := fieldAddr_ptr _ fieldOf_46_1 aggN_3 (by decide) y off
theorem fd_46_1 (x : AV) : evalField Try.prog 46 1 x = partO 1 x := field_one fieldOf_46_1 aggN_3 x
theorem fL_46_2 (l sz i off : Nat) : evalFieldAddr Try.prog 46 2 (.loc l sz i off) = some (.loc l sz i (off + 2)) := fieldAddr_loc _ fieldOf_46_2 aggN_3 (by decide) l sz i off
theorem fP_46_2 (y : AV) (off : Nat) : evalFieldAddr Try.prog 46 2 (.ptr y off) = some (.ptr y (off + 2)) := fieldAddr_ptr _ fieldOf_46_2 aggN_3 (by decide) y off
theorem fd_46_2 (x : AV) : evalField Try.prog 46 2 x = partO 2 x := field_one fieldOf_46_2 aggN_3 x
theorem fL_46_3 (l sz i off : Nat) : evalFieldAddr Try.prog 46 3 (.loc l sz i off) = some (.loc l sz i (off + 3)) := fieldAddr_loc _ fieldOf_46_3 aggN_3 (by decide) l sz i off
theorem fP_46_3 (y : AV) (off : Nat) : evalFieldAddr Try.prog 46 3 (.ptr y off) = some (.ptr y (off + 3)) := fieldAddr_ptr _ fieldOf_46_3 aggN_3 (by decide) y off
theorem fd_46_3 (x : AV) : evalField Try.prog 46 3 x = partO 3 x := field_one fieldOf_46_3 aggN_3 x
theorem fL_46_4 (l sz i off : Nat) : evalFieldAddr Try.prog 46 4 (.loc l sz i off) = some (.loc l sz i (off + 4)) := fieldAddr_loc _ fieldOf_46_4 aggN_39 (by decide) l sz i off
theorem fP_46_4 (y : AV) (off : Nat) : evalFieldAddr Try.prog 46 4 (.ptr y off) = some (.ptr y (off + 4)) := fieldAddr_ptr _ fieldOf_46_4 aggN_39 (by decide) y off
theorem fd_46_4 (x : AV) : evalField Try.prog 46 4 x = partO 4 x := field_one fieldOf_46_4 aggN_39 x
theorem fL_46_5 (l sz i off : Nat) : evalFieldAddr Try.prog 46 5 (.loc l sz i off) = some (.loc l sz i (off + 5)) := fieldAddr_loc _ fieldOf_46_5 aggN_40 (by decide) l sz i off
theorem fP_46_5 (y : AV) (off : Nat) : evalFieldAddr Try.prog 46 5 (.ptr y off) = some (.ptr y (off + 5)) := fieldAddr_ptr _ fieldOf_46_5 aggN_40 (by decide) y off
theorem fd_46_5 (x : AV) : evalField Try.prog 46 5 x = partO 5 x := field_one fieldOf_46_5 aggN_40 x
theorem fL_46_6 (l sz i off : Nat) : evalFieldAddr Try.prog 46 6 (.loc l sz i off) = some (.loc l sz i (off + 6)) := fieldAddr_loc _ fieldOf_46_6 aggN_44 (by decide) l sz i off
theorem fP_46_6 (y : AV) (off : Nat) : evalFieldAddr Try.prog 46 6 (.ptr y off) = some (.ptr y (off + 6)) := fieldAddr_ptr _ fieldOf_46_6 aggN_44 (by decide) y off
theorem fd_46_6 (x : AV) : evalField Try.prog 46 6 x = partA 6 7 x := field_agg' fieldOf_46_6 aggN_44 x
theorem lay_46 : layOf Try.prog 46 = some ([.val (.int .i64 0), .val (.int .i64 0), .val (.int .i64 0), .val (.int .i64 0), .val (.slice none 0 0), .val (.slice none 0 0), .val (.int .i64 0), .val (.int .i64 0), .val (.string ⟨#[]⟩), .val (.int .i64 0), .val (.int .i64 0), .val (.int .i64 0), .val (.int .i64 0)], .str [(0, 1), (1, 1), (2, 1), (3, 1), (4, 1), (5, 1), (6, 7)]) := by kernel_rfl
theorem bd_46 (parts : List (Nat × AV)) : evalBuild Try.prog 46 parts = (fillA (fun i => [(0, 1), (1, 1), (2, 1), (3, 1), (4, 1), (5, 1), (6, 7)][i]?) [.val (.int .i64 0), .val (.int .i64 0), .val (.int .i64 0), .val (.int .i64 0), .val (.slice none 0 0), .val (.slice none 0 0), .val (.int .i64 0), .val (.int .i64 0), .val (.string ⟨#[]⟩), .val (.int .i64 0), .val (.int .i64 0), .val (.int .i64 0), .val (.int .i64 0)] parts).map .agg := by simp only [evalBuild, lay_46]; rfl
theorem ld_49 (y : AV) (off : Nat) : evalLd Try.prog 49 y off = ldOne y off := ld_one _ aggN_49 y off
theorem st_49 (V : Nat → Option AO) (l sz i off : Nat) (v : AV) : evalStore Try.prog 49 V (.loc l sz i off) v = if hasSize v 1 = true then (rowT (V l) sz i).bind fun p => (stAV p.2.2 off v).map fun x' => [(l, some (.row p.1 sz (p.2.1.set i x')))] else none := store_loc _ aggN_49 V l sz i off v
theorem bx_49 (x : Operand) (V : Nat → Option AO) (new : Nat) (ρ : Operand → AV) : evalOp Try.prog (.box 49 x) V new ρ = if hasSize (ρ x) 1 = true then some (.loc new 1 0 0, [(new, some (.row 49 1 [ρ x]))]) else none := by rw [E_box, aggN_49, boxK_some]
theorem al_49 (V : Nat → Option AO) (new : Nat) (ρ : Operand → AV) : evalOp Try.prog (.alloc 49) V new ρ = some (.loc new 1 0 0, [(new, some (.row 49 1 [.val (.slice none 0 0)]))]) := by rw [E_alloc, aggN_49, zero_49, allocK_some]; rfl
theorem iS_49 (xs : List AV) (k : IntKind) (n : Int) : evalIndexAddr Try.prog 49 (.sl 3 xs) (.val (.int k n)) = if 0 ≤ n then (xs[n.toNat]?).map fun z => .ptr z 0 else none := indexAddr_sl _ elemOfT_49 aggN_52 xs k n
theorem iM_49 (l len : Nat) (k : IntKind) (n : Int) : evalIndexAddr Try.prog 49 (.msl l len) (.val (.int k n)) = if 0 ≤ n ∧ n < len then some (.loc l 3 n.toNat 0) else none := indexAddr_msl _ elemOfT_49 aggN_52 l len k n
theorem ap_49 (V : Nat → Option AO) (s x : AV) (new : Nat) : evalAppend Try.prog 49 V s x new = appK 32 52 3 new (oldsOf V s 52 3) (newsOf V x 3) := append_eq _ V elemOfT_49 aggN_52 bytesOfT_52 zero_52 rfl s x new
theorem mk_49 (ka kb : IntKind) (a c : Int) (new : Nat) : evalMakeSlice Try.prog 49 (.val (.int ka a)) (.val (.int kb c)) new = if 0 ≤ a ∧ a ≤ c ∧ (32 : Int) * c ≤ 281474976710656 ∧ c ≤ 9223372036854775807 then some (.msl new a.toNat, [(new, some (.row 52 3 (List.replicate a.toNat (.agg [.val (.int .i64 0), .val (.int .i64 0), .val (.string ⟨#[]⟩)]))))]) else none := by have h := makeSlice_eq _ elemOfT_49 aggN_52 bytesOfT_52 zero_52 rfl ka kb a c new; exact h
theorem bS_49 (len : Nat) (parts : Array (Nat × Operand)) (V : Nat → Option AO) (new : Nat) (ρ : Operand → AV) : evalOp Try.prog (.buildSlice 49 len parts) V new ρ = if len * 3 ≤ 16777216 then (setsA 3 (List.replicate len (.agg [.val (.int .i64 0), .val (.int .i64 0), .val (.string ⟨#[]⟩)])) (parts.toList.map fun p => (p.1, ρ p.2))).map fun xs => (.msl new len, [(new, some (.row 52 3 xs))]) else none := by rw [E_buildSlice _ _ _ _ 49 len parts 52 elemOfT_49, aggN_52, zero_52, buildSliceK]; simp [hasSize, AV.one, Value.oneCell']
theorem lS_49 (sz : Nat) (xs : List AV) : evalLen Try.prog 49 (.sl sz xs) = some (int xs.length) := len_sl _ elemOfT_49 sz xs
theorem lM_49 (l n : Nat) : evalLen Try.prog 49 (.msl l n) = some (int n) := len_msl _ elemOfT_49 l n
theorem lN_49  : evalLen Try.prog 49 nilS = some (int 0) := len_nil _ elemOfT_49
theorem l0_49  : evalLen Try.prog 49 .e0 = some (int 0) := len_e0 _ elemOfT_49
theorem ld_52 (y : AV) (off : Nat) : evalLd Try.prog 52 y off = ldAgg y off 3 := ld_agg _ aggN_52 y off
theorem st_52 (V : Nat → Option AO) (l sz i off : Nat) (v : AV) : evalStore Try.prog 52 V (.loc l sz i off) v = if hasSize v 3 = true then (rowT (V l) sz i).bind fun p => (stAV p.2.2 off v).map fun x' => [(l, some (.row p.1 sz (p.2.1.set i x')))] else none := store_loc _ aggN_52 V l sz i off v
theorem bx_52 (x : Operand) (V : Nat → Option AO) (new : Nat) (ρ : Operand → AV) : evalOp Try.prog (.box 52 x) V new ρ = if hasSize (ρ x) 3 = true then some (.loc new 3 0 0, [(new, some (.row 52 3 [ρ x]))]) else none := by rw [E_box, aggN_52, boxK_some]
theorem al_52 (V : Nat → Option AO) (new : Nat) (ρ : Operand → AV) : evalOp Try.prog (.alloc 52) V new ρ = some (.loc new 3 0 0, [(new, some (.row 52 3 [.agg [.val (.int .i64 0), .val (.int .i64 0), .val (.string ⟨#[]⟩)]]))]) := by rw [E_alloc, aggN_52, zero_52, allocK_some]; rfl
theorem fL_52_0 (l sz i off : Nat) : evalFieldAddr Try.prog 52 0 (.loc l sz i off) = some (.loc l sz i (off + 0)) := fieldAddr_loc _ fieldOf_52_0 aggN_3 (by decide) l sz i off
theorem fP_52_0 (y : AV) (off : Nat) : evalFieldAddr Try.prog 52 0 (.ptr y off) = some (.ptr y (off + 0)) := fieldAddr_ptr _ fieldOf_52_0 aggN_3 (by decide) y off
theorem fd_52_0 (x : AV) : evalField Try.prog 52 0 x = partO 0 x := field_one fieldOf_52_0 aggN_3 x
theorem fL_52_1 (l sz i off : Nat) : evalFieldAddr Try.prog 52 1 (.loc l sz i off) = some (.loc l sz i (off + 1)) := fieldAddr_loc _ fieldOf_52_1 aggN_3 (by decide) l sz i off
theorem fP_52_1 (y : AV) (off : Nat) : evalFieldAddr Try.prog 52 1 (.ptr y off) = some (.ptr y (off + 1)) := fieldAddr_ptr _ fieldOf_52_1 aggN_3 (by decide) y off
theorem fd_52_1 (x : AV) : evalField Try.prog 52 1 x = partO 1 x := field_one fieldOf_52_1 aggN_3 x
theorem fL_52_2 (l sz i off : Nat) : evalFieldAddr Try.prog 52 2 (.loc l sz i off) = some (.loc l sz i (off + 2)) := fieldAddr_loc _ fieldOf_52_2 aggN_9 (by decide) l sz i off
theorem fP_52_2 (y : AV) (off : Nat) : evalFieldAddr Try.prog 52 2 (.ptr y off) = some (.ptr y (off + 2)) := fieldAddr_ptr _ fieldOf_52_2 aggN_9 (by decide) y off
theorem fd_52_2 (x : AV) : evalField Try.prog 52 2 x = partO 2 x := field_one fieldOf_52_2 aggN_9 x
theorem lay_52 : layOf Try.prog 52 = some ([.val (.int .i64 0), .val (.int .i64 0), .val (.string ⟨#[]⟩)], .str [(0, 1), (1, 1), (2, 1)]) := by kernel_rfl
theorem bd_52 (parts : List (Nat × AV)) : evalBuild Try.prog 52 parts = (fillA (fun i => [(0, 1), (1, 1), (2, 1)][i]?) [.val (.int .i64 0), .val (.int .i64 0), .val (.string ⟨#[]⟩)] parts).map .agg := by simp only [evalBuild, lay_52]; rfl
theorem ld_54 (y : AV) (off : Nat) : evalLd Try.prog 54 y off = ldAgg y off 3 := ld_agg _ aggN_54 y off
theorem st_54 (V : Nat → Option AO) (l sz i off : Nat) (v : AV) : evalStore Try.prog 54 V (.loc l sz i off) v = if hasSize v 3 = true then (rowT (V l) sz i).bind fun p => (stAV p.2.2 off v).map fun x' => [(l, some (.row p.1 sz (p.2.1.set i x')))] else none := store_loc _ aggN_54 V l sz i off v
theorem bx_54 (x : Operand) (V : Nat → Option AO) (new : Nat) (ρ : Operand → AV) : evalOp Try.prog (.box 54 x) V new ρ = if hasSize (ρ x) 3 = true then some (.loc new 3 0 0, [(new, some (.row 54 3 [ρ x]))]) else none := by rw [E_box, aggN_54, boxK_some]
theorem al_54 (V : Nat → Option AO) (new : Nat) (ρ : Operand → AV) : evalOp Try.prog (.alloc 54) V new ρ = some (.loc new 3 0 0, [(new, some (.row 54 3 [.agg [.val (.int .i64 0), .val (.int .i64 0), .val (.string ⟨#[]⟩)]]))]) := by rw [E_alloc, aggN_54, zero_54, allocK_some]; rfl
theorem fL_54_0 (l sz i off : Nat) : evalFieldAddr Try.prog 54 0 (.loc l sz i off) = some (.loc l sz i (off + 0)) := fieldAddr_loc _ fieldOf_54_0 aggN_3 (by decide) l sz i off
theorem fP_54_0 (y : AV) (off : Nat) : evalFieldAddr Try.prog 54 0 (.ptr y off) = some (.ptr y (off + 0)) := fieldAddr_ptr _ fieldOf_54_0 aggN_3 (by decide) y off
theorem fd_54_0 (x : AV) : evalField Try.prog 54 0 x = partO 0 x := field_one fieldOf_54_0 aggN_3 x
theorem fL_54_1 (l sz i off : Nat) : evalFieldAddr Try.prog 54 1 (.loc l sz i off) = some (.loc l sz i (off + 1)) := fieldAddr_loc _ fieldOf_54_1 aggN_3 (by decide) l sz i off
theorem fP_54_1 (y : AV) (off : Nat) : evalFieldAddr Try.prog 54 1 (.ptr y off) = some (.ptr y (off + 1)) := fieldAddr_ptr _ fieldOf_54_1 aggN_3 (by decide) y off
theorem fd_54_1 (x : AV) : evalField Try.prog 54 1 x = partO 1 x := field_one fieldOf_54_1 aggN_3 x
theorem fL_54_2 (l sz i off : Nat) : evalFieldAddr Try.prog 54 2 (.loc l sz i off) = some (.loc l sz i (off + 2)) := fieldAddr_loc _ fieldOf_54_2 aggN_9 (by decide) l sz i off
theorem fP_54_2 (y : AV) (off : Nat) : evalFieldAddr Try.prog 54 2 (.ptr y off) = some (.ptr y (off + 2)) := fieldAddr_ptr _ fieldOf_54_2 aggN_9 (by decide) y off
theorem fd_54_2 (x : AV) : evalField Try.prog 54 2 x = partO 2 x := field_one fieldOf_54_2 aggN_9 x
theorem lay_54 : layOf Try.prog 54 = some ([.val (.int .i64 0), .val (.int .i64 0), .val (.string ⟨#[]⟩)], .str [(0, 1), (1, 1), (2, 1)]) := by kernel_rfl
theorem bd_54 (parts : List (Nat × AV)) : evalBuild Try.prog 54 parts = (fillA (fun i => [(0, 1), (1, 1), (2, 1)][i]?) [.val (.int .i64 0), .val (.int .i64 0), .val (.string ⟨#[]⟩)] parts).map .agg := by simp only [evalBuild, lay_54]; rfl
theorem ld_57 (y : AV) (off : Nat) : evalLd Try.prog 57 y off = ldOne y off := ld_one _ aggN_57 y off
theorem st_57 (V : Nat → Option AO) (l sz i off : Nat) (v : AV) : evalStore Try.prog 57 V (.loc l sz i off) v = if hasSize v 1 = true then (rowT (V l) sz i).bind fun p => (stAV p.2.2 off v).map fun x' => [(l, some (.row p.1 sz (p.2.1.set i x')))] else none := store_loc _ aggN_57 V l sz i off v
theorem bx_57 (x : Operand) (V : Nat → Option AO) (new : Nat) (ρ : Operand → AV) : evalOp Try.prog (.box 57 x) V new ρ = if hasSize (ρ x) 1 = true then some (.loc new 1 0 0, [(new, some (.row 57 1 [ρ x]))]) else none := by rw [E_box, aggN_57, boxK_some]
theorem ld_63 (y : AV) (off : Nat) : evalLd Try.prog 63 y off = ldOne y off := ld_one _ aggN_63 y off
theorem st_63 (V : Nat → Option AO) (l sz i off : Nat) (v : AV) : evalStore Try.prog 63 V (.loc l sz i off) v = if hasSize v 1 = true then (rowT (V l) sz i).bind fun p => (stAV p.2.2 off v).map fun x' => [(l, some (.row p.1 sz (p.2.1.set i x')))] else none := store_loc _ aggN_63 V l sz i off v
theorem bx_63 (x : Operand) (V : Nat → Option AO) (new : Nat) (ρ : Operand → AV) : evalOp Try.prog (.box 63 x) V new ρ = if hasSize (ρ x) 1 = true then some (.loc new 1 0 0, [(new, some (.row 63 1 [ρ x]))]) else none := by rw [E_box, aggN_63, boxK_some]
theorem al_63 (V : Nat → Option AO) (new : Nat) (ρ : Operand → AV) : evalOp Try.prog (.alloc 63) V new ρ = some (.loc new 1 0 0, [(new, some (.row 63 1 [.val (.slice none 0 0)]))]) := by rw [E_alloc, aggN_63, zero_63, allocK_some]; rfl
theorem iS_63 (xs : List AV) (k : IntKind) (n : Int) : evalIndexAddr Try.prog 63 (.sl 1 xs) (.val (.int k n)) = if 0 ≤ n then (xs[n.toNat]?).map fun z => .ptr z 0 else none := indexAddr_sl _ elemOfT_63 aggN_3 xs k n
theorem iM_63 (l len : Nat) (k : IntKind) (n : Int) : evalIndexAddr Try.prog 63 (.msl l len) (.val (.int k n)) = if 0 ≤ n ∧ n < len then some (.loc l 1 n.toNat 0) else none := indexAddr_msl _ elemOfT_63 aggN_3 l len k n
theorem ap_63 (V : Nat → Option AO) (s x : AV) (new : Nat) : evalAppend Try.prog 63 V s x new = appK 8 3 1 new (oldsOf V s 3 1) (newsOf V x 1) := append_eq _ V elemOfT_63 aggN_3 bytesOfT_3 zero_3 rfl s x new
theorem mk_63 (ka kb : IntKind) (a c : Int) (new : Nat) : evalMakeSlice Try.prog 63 (.val (.int ka a)) (.val (.int kb c)) new = if 0 ≤ a ∧ a ≤ c ∧ (8 : Int) * c ≤ 281474976710656 ∧ c ≤ 9223372036854775807 then some (.msl new a.toNat, [(new, some (.row 3 1 (List.replicate a.toNat (.val (.int .i64 0)))))]) else none := by have h := makeSlice_eq _ elemOfT_63 aggN_3 bytesOfT_3 zero_3 rfl ka kb a c new; exact h
theorem bS_63 (len : Nat) (parts : Array (Nat × Operand)) (V : Nat → Option AO) (new : Nat) (ρ : Operand → AV) : evalOp Try.prog (.buildSlice 63 len parts) V new ρ = if len * 1 ≤ 16777216 then (setsA 1 (List.replicate len (.val (.int .i64 0))) (parts.toList.map fun p => (p.1, ρ p.2))).map fun xs => (.msl new len, [(new, some (.row 3 1 xs))]) else none := by rw [E_buildSlice _ _ _ _ 63 len parts 3 elemOfT_63, aggN_3, zero_3, buildSliceK]; simp [hasSize, AV.one, Value.oneCell']
theorem lS_63 (sz : Nat) (xs : List AV) : evalLen Try.prog 63 (.sl sz xs) = some (int xs.length) := len_sl _ elemOfT_63 sz xs
theorem lM_63 (l n : Nat) : evalLen Try.prog 63 (.msl l n) = some (int n) := len_msl _ elemOfT_63 l n
theorem lN_63  : evalLen Try.prog 63 nilS = some (int 0) := len_nil _ elemOfT_63
theorem l0_63  : evalLen Try.prog 63 .e0 = some (int 0) := len_e0 _ elemOfT_63
theorem ld_67 (y : AV) (off : Nat) : evalLd Try.prog 67 y off = ldOne y off := ld_one _ aggN_67 y off
theorem st_67 (V : Nat → Option AO) (l sz i off : Nat) (v : AV) : evalStore Try.prog 67 V (.loc l sz i off) v = if hasSize v 1 = true then (rowT (V l) sz i).bind fun p => (stAV p.2.2 off v).map fun x' => [(l, some (.row p.1 sz (p.2.1.set i x')))] else none := store_loc _ aggN_67 V l sz i off v
theorem bx_67 (x : Operand) (V : Nat → Option AO) (new : Nat) (ρ : Operand → AV) : evalOp Try.prog (.box 67 x) V new ρ = if hasSize (ρ x) 1 = true then some (.loc new 1 0 0, [(new, some (.row 67 1 [ρ x]))]) else none := by rw [E_box, aggN_67, boxK_some]
theorem al_67 (V : Nat → Option AO) (new : Nat) (ρ : Operand → AV) : evalOp Try.prog (.alloc 67) V new ρ = some (.loc new 1 0 0, [(new, some (.row 67 1 [.val (.slice none 0 0)]))]) := by rw [E_alloc, aggN_67, zero_67, allocK_some]; rfl
theorem iS_67 (xs : List AV) (k : IntKind) (n : Int) : evalIndexAddr Try.prog 67 (.sl 2 xs) (.val (.int k n)) = if 0 ≤ n then (xs[n.toNat]?).map fun z => .ptr z 0 else none := indexAddr_sl _ elemOfT_67 aggN_68 xs k n
theorem iM_67 (l len : Nat) (k : IntKind) (n : Int) : evalIndexAddr Try.prog 67 (.msl l len) (.val (.int k n)) = if 0 ≤ n ∧ n < len then some (.loc l 2 n.toNat 0) else none := indexAddr_msl _ elemOfT_67 aggN_68 l len k n
theorem ap_67 (V : Nat → Option AO) (s x : AV) (new : Nat) : evalAppend Try.prog 67 V s x new = appK 16 68 2 new (oldsOf V s 68 2) (newsOf V x 2) := append_eq _ V elemOfT_67 aggN_68 bytesOfT_68 zero_68 rfl s x new
theorem mk_67 (ka kb : IntKind) (a c : Int) (new : Nat) : evalMakeSlice Try.prog 67 (.val (.int ka a)) (.val (.int kb c)) new = if 0 ≤ a ∧ a ≤ c ∧ (16 : Int) * c ≤ 281474976710656 ∧ c ≤ 9223372036854775807 then some (.msl new a.toNat, [(new, some (.row 68 2 (List.replicate a.toNat (.agg [.val (.int .i64 0), .val (.int .i64 0)]))))]) else none := by have h := makeSlice_eq _ elemOfT_67 aggN_68 bytesOfT_68 zero_68 rfl ka kb a c new; exact h
theorem bS_67 (len : Nat) (parts : Array (Nat × Operand)) (V : Nat → Option AO) (new : Nat) (ρ : Operand → AV) : evalOp Try.prog (.buildSlice 67 len parts) V new ρ = if len * 2 ≤ 16777216 then (setsA 2 (List.replicate len (.agg [.val (.int .i64 0), .val (.int .i64 0)])) (parts.toList.map fun p => (p.1, ρ p.2))).map fun xs => (.msl new len, [(new, some (.row 68 2 xs))]) else none := by rw [E_buildSlice _ _ _ _ 67 len parts 68 elemOfT_67, aggN_68, zero_68, buildSliceK]; simp [hasSize, AV.one, Value.oneCell']
theorem lS_67 (sz : Nat) (xs : List AV) : evalLen Try.prog 67 (.sl sz xs) = some (int xs.length) := len_sl _ elemOfT_67 sz xs
theorem lM_67 (l n : Nat) : evalLen Try.prog 67 (.msl l n) = some (int n) := len_msl _ elemOfT_67 l n
theorem lN_67  : evalLen Try.prog 67 nilS = some (int 0) := len_nil _ elemOfT_67
theorem l0_67  : evalLen Try.prog 67 .e0 = some (int 0) := len_e0 _ elemOfT_67
theorem ld_68 (y : AV) (off : Nat) : evalLd Try.prog 68 y off = ldAgg y off 2 := ld_agg _ aggN_68 y off
theorem st_68 (V : Nat → Option AO) (l sz i off : Nat) (v : AV) : evalStore Try.prog 68 V (.loc l sz i off) v = if hasSize v 2 = true then (rowT (V l) sz i).bind fun p => (stAV p.2.2 off v).map fun x' => [(l, some (.row p.1 sz (p.2.1.set i x')))] else none := store_loc _ aggN_68 V l sz i off v
theorem bx_68 (x : Operand) (V : Nat → Option AO) (new : Nat) (ρ : Operand → AV) : evalOp Try.prog (.box 68 x) V new ρ = if hasSize (ρ x) 2 = true then some (.loc new 2 0 0, [(new, some (.row 68 2 [ρ x]))]) else none := by rw [E_box, aggN_68, boxK_some]
theorem al_68 (V : Nat → Option AO) (new : Nat) (ρ : Operand → AV) : evalOp Try.prog (.alloc 68) V new ρ = some (.loc new 2 0 0, [(new, some (.row 68 2 [.agg [.val (.int .i64 0), .val (.int .i64 0)]]))]) := by rw [E_alloc, aggN_68, zero_68, allocK_some]; rfl
theorem lay_68 : layOf Try.prog 68 = some ([.val (.int .i64 0), .val (.int .i64 0)], .arr 1) := by kernel_rfl
theorem bd_68 (parts : List (Nat × AV)) : evalBuild Try.prog 68 parts = (fillA (fun i => some (i * 1, 1)) [.val (.int .i64 0), .val (.int .i64 0)] parts).map .agg := by simp only [evalBuild, lay_68]; rfl
theorem iL_68 (l sz i off : Nat) (k : IntKind) (n : Int) : evalIndexAddr Try.prog 68 (.loc l sz i off) (.val (.int k n)) = if 0 ≤ n ∧ n < (2 : Nat) then some (.loc l sz i (off + n.toNat * 1)) else none := indexAddr_aloc _ elemOfT_68 arrOfT_68 aggN_3 l sz i off k n
theorem iP_68 (y : AV) (off : Nat) (k : IntKind) (n : Int) : evalIndexAddr Try.prog 68 (.ptr y off) (.val (.int k n)) = if 0 ≤ n ∧ n < (2 : Nat) then some (.ptr y (off + n.toNat * 1)) else none := indexAddr_aptr _ elemOfT_68 arrOfT_68 aggN_3 y off k n
theorem ld_72 (y : AV) (off : Nat) : evalLd Try.prog 72 y off = ldOne y off := ld_one _ aggN_72 y off
theorem st_72 (V : Nat → Option AO) (l sz i off : Nat) (v : AV) : evalStore Try.prog 72 V (.loc l sz i off) v = if hasSize v 1 = true then (rowT (V l) sz i).bind fun p => (stAV p.2.2 off v).map fun x' => [(l, some (.row p.1 sz (p.2.1.set i x')))] else none := store_loc _ aggN_72 V l sz i off v
theorem bx_72 (x : Operand) (V : Nat → Option AO) (new : Nat) (ρ : Operand → AV) : evalOp Try.prog (.box 72 x) V new ρ = if hasSize (ρ x) 1 = true then some (.loc new 1 0 0, [(new, some (.row 72 1 [ρ x]))]) else none := by rw [E_box, aggN_72, boxK_some]
theorem al_72 (V : Nat → Option AO) (new : Nat) (ρ : Operand → AV) : evalOp Try.prog (.alloc 72) V new ρ = some (.loc new 1 0 0, [(new, some (.row 72 1 [.val (.slice none 0 0)]))]) := by rw [E_alloc, aggN_72, zero_72, allocK_some]; rfl
theorem iS_72 (xs : List AV) (k : IntKind) (n : Int) : evalIndexAddr Try.prog 72 (.sl 1 xs) (.val (.int k n)) = if 0 ≤ n then (xs[n.toNat]?).map fun z => .ptr z 0 else none := indexAddr_sl _ elemOfT_72 aggN_4 xs k n
theorem iM_72 (l len : Nat) (k : IntKind) (n : Int) : evalIndexAddr Try.prog 72 (.msl l len) (.val (.int k n)) = if 0 ≤ n ∧ n < len then some (.loc l 1 n.toNat 0) else none := indexAddr_msl _ elemOfT_72 aggN_4 l len k n
theorem ap_72 (V : Nat → Option AO) (s x : AV) (new : Nat) : evalAppend Try.prog 72 V s x new = appK 1 4 1 new (oldsOf V s 4 1) (newsOf V x 1) := append_eq _ V elemOfT_72 aggN_4 bytesOfT_4 zero_4 rfl s x new
theorem mk_72 (ka kb : IntKind) (a c : Int) (new : Nat) : evalMakeSlice Try.prog 72 (.val (.int ka a)) (.val (.int kb c)) new = if 0 ≤ a ∧ a ≤ c ∧ (1 : Int) * c ≤ 281474976710656 ∧ c ≤ 9223372036854775807 then some (.msl new a.toNat, [(new, some (.row 4 1 (List.replicate a.toNat (.val (.bool false)))))]) else none := by have h := makeSlice_eq _ elemOfT_72 aggN_4 bytesOfT_4 zero_4 rfl ka kb a c new; exact h
theorem bS_72 (len : Nat) (parts : Array (Nat × Operand)) (V : Nat → Option AO) (new : Nat) (ρ : Operand → AV) : evalOp Try.prog (.buildSlice 72 len parts) V new ρ = if len * 1 ≤ 16777216 then (setsA 1 (List.replicate len (.val (.bool false))) (parts.toList.map fun p => (p.1, ρ p.2))).map fun xs => (.msl new len, [(new, some (.row 4 1 xs))]) else none := by rw [E_buildSlice _ _ _ _ 72 len parts 4 elemOfT_72, aggN_4, zero_4, buildSliceK]; simp [hasSize, AV.one, Value.oneCell']
theorem lS_72 (sz : Nat) (xs : List AV) : evalLen Try.prog 72 (.sl sz xs) = some (int xs.length) := len_sl _ elemOfT_72 sz xs
theorem lM_72 (l n : Nat) : evalLen Try.prog 72 (.msl l n) = some (int n) := len_msl _ elemOfT_72 l n
theorem lN_72  : evalLen Try.prog 72 nilS = some (int 0) := len_nil _ elemOfT_72
theorem l0_72  : evalLen Try.prog 72 .e0 = some (int 0) := len_e0 _ elemOfT_72
theorem ld_81 (y : AV) (off : Nat) : evalLd Try.prog 81 y off = ldOne y off := ld_one _ aggN_81 y off
theorem st_81 (V : Nat → Option AO) (l sz i off : Nat) (v : AV) : evalStore Try.prog 81 V (.loc l sz i off) v = if hasSize v 1 = true then (rowT (V l) sz i).bind fun p => (stAV p.2.2 off v).map fun x' => [(l, some (.row p.1 sz (p.2.1.set i x')))] else none := store_loc _ aggN_81 V l sz i off v
theorem bx_81 (x : Operand) (V : Nat → Option AO) (new : Nat) (ρ : Operand → AV) : evalOp Try.prog (.box 81 x) V new ρ = if hasSize (ρ x) 1 = true then some (.loc new 1 0 0, [(new, some (.row 81 1 [ρ x]))]) else none := by rw [E_box, aggN_81, boxK_some]
theorem ld_94 (y : AV) (off : Nat) : evalLd Try.prog 94 y off = ldOne y off := ld_one _ aggN_94 y off
theorem st_94 (V : Nat → Option AO) (l sz i off : Nat) (v : AV) : evalStore Try.prog 94 V (.loc l sz i off) v = if hasSize v 1 = true then (rowT (V l) sz i).bind fun p => (stAV p.2.2 off v).map fun x' => [(l, some (.row p.1 sz (p.2.1.set i x')))] else none := store_loc _ aggN_94 V l sz i off v
theorem bx_94 (x : Operand) (V : Nat → Option AO) (new : Nat) (ρ : Operand → AV) : evalOp Try.prog (.box 94 x) V new ρ = if hasSize (ρ x) 1 = true then some (.loc new 1 0 0, [(new, some (.row 94 1 [ρ x]))]) else none := by rw [E_box, aggN_94, boxK_some]
theorem al_94 (V : Nat → Option AO) (new : Nat) (ρ : Operand → AV) : evalOp Try.prog (.alloc 94) V new ρ = some (.loc new 1 0 0, [(new, some (.row 94 1 [.val (.map none)]))]) := by rw [E_alloc, aggN_94, zero_94, allocK_some]; rfl
theorem mapOf_94 : mapOf Try.prog 94 = some (.int .i64, 3) := by kernel_rfl
theorem lk_94 (V : Nat → Option AO) (c : Bool) (l : Nat) (kv : Value) : evalLookup Try.prog 94 c V (.mp l) (.val kv) = lookK c (.int .i64) (zeroOf Try.prog 3) kv (V l) := look_mp _ V mapOf_94 c l kv
theorem mu_94 (V : Nat → Option AO) (l : Nat) (kv : Value) (x : AV) : evalMapUpdate Try.prog 94 V (.mp l) (.val kv) x = mupdK (.int .i64) kv x l (V l) := mupd_mp _ V mapOf_94 l kv x
theorem ld_96 (y : AV) (off : Nat) : evalLd Try.prog 96 y off = ldAgg y off 4 := ld_agg _ aggN_96 y off
theorem st_96 (V : Nat → Option AO) (l sz i off : Nat) (v : AV) : evalStore Try.prog 96 V (.loc l sz i off) v = if hasSize v 4 = true then (rowT (V l) sz i).bind fun p => (stAV p.2.2 off v).map fun x' => [(l, some (.row p.1 sz (p.2.1.set i x')))] else none := store_loc _ aggN_96 V l sz i off v
theorem bx_96 (x : Operand) (V : Nat → Option AO) (new : Nat) (ρ : Operand → AV) : evalOp Try.prog (.box 96 x) V new ρ = if hasSize (ρ x) 4 = true then some (.loc new 4 0 0, [(new, some (.row 96 4 [ρ x]))]) else none := by rw [E_box, aggN_96, boxK_some]
theorem al_96 (V : Nat → Option AO) (new : Nat) (ρ : Operand → AV) : evalOp Try.prog (.alloc 96) V new ρ = some (.loc new 4 0 0, [(new, some (.row 96 4 [.agg [.val (.slice none 0 0), .val (.slice none 0 0), .val (.map none), .val (.slice none 0 0)]]))]) := by rw [E_alloc, aggN_96, zero_96, allocK_some]; rfl
theorem fL_96_0 (l sz i off : Nat) : evalFieldAddr Try.prog 96 0 (.loc l sz i off) = some (.loc l sz i (off + 0)) := fieldAddr_loc _ fieldOf_96_0 aggN_26 (by decide) l sz i off
theorem fP_96_0 (y : AV) (off : Nat) : evalFieldAddr Try.prog 96 0 (.ptr y off) = some (.ptr y (off + 0)) := fieldAddr_ptr _ fieldOf_96_0 aggN_26 (by decide) y off
theorem fd_96_0 (x : AV) : evalField Try.prog 96 0 x = partA 0 1 x := field_agg' fieldOf_96_0 aggN_26 x
theorem fL_96_1 (l sz i off : Nat) : evalFieldAddr Try.prog 96 1 (.loc l sz i off) = some (.loc l sz i (off + 1)) := fieldAddr_loc _ fieldOf_96_1 aggN_49 (by decide) l sz i off
theorem fP_96_1 (y : AV) (off : Nat) : evalFieldAddr Try.prog 96 1 (.ptr y off) = some (.ptr y (off + 1)) := fieldAddr_ptr _ fieldOf_96_1 aggN_49 (by decide) y off
theorem fd_96_1 (x : AV) : evalField Try.prog 96 1 x = partO 1 x := field_one fieldOf_96_1 aggN_49 x
theorem fL_96_2 (l sz i off : Nat) : evalFieldAddr Try.prog 96 2 (.loc l sz i off) = some (.loc l sz i (off + 2)) := fieldAddr_loc _ fieldOf_96_2 aggN_94 (by decide) l sz i off
theorem fP_96_2 (y : AV) (off : Nat) : evalFieldAddr Try.prog 96 2 (.ptr y off) = some (.ptr y (off + 2)) := fieldAddr_ptr _ fieldOf_96_2 aggN_94 (by decide) y off
theorem fd_96_2 (x : AV) : evalField Try.prog 96 2 x = partO 2 x := field_one fieldOf_96_2 aggN_94 x
theorem fL_96_3 (l sz i off : Nat) : evalFieldAddr Try.prog 96 3 (.loc l sz i off) = some (.loc l sz i (off + 3)) := fieldAddr_loc _ fieldOf_96_3 aggN_67 (by decide) l sz i off
theorem fP_96_3 (y : AV) (off : Nat) : evalFieldAddr Try.prog 96 3 (.ptr y off) = some (.ptr y (off + 3)) := fieldAddr_ptr _ fieldOf_96_3 aggN_67 (by decide) y off
theorem fd_96_3 (x : AV) : evalField Try.prog 96 3 x = partO 3 x := field_one fieldOf_96_3 aggN_67 x
theorem lay_96 : layOf Try.prog 96 = some ([.val (.slice none 0 0), .val (.slice none 0 0), .val (.map none), .val (.slice none 0 0)], .str [(0, 1), (1, 1), (2, 1), (3, 1)]) := by kernel_rfl
theorem bd_96 (parts : List (Nat × AV)) : evalBuild Try.prog 96 parts = (fillA (fun i => [(0, 1), (1, 1), (2, 1), (3, 1)][i]?) [.val (.slice none 0 0), .val (.slice none 0 0), .val (.map none), .val (.slice none 0 0)] parts).map .agg := by simp only [evalBuild, lay_96]; rfl
theorem ld_97 (y : AV) (off : Nat) : evalLd Try.prog 97 y off = ldOne y off := ld_one _ aggN_97 y off
theorem st_97 (V : Nat → Option AO) (l sz i off : Nat) (v : AV) : evalStore Try.prog 97 V (.loc l sz i off) v = if hasSize v 1 = true then (rowT (V l) sz i).bind fun p => (stAV p.2.2 off v).map fun x' => [(l, some (.row p.1 sz (p.2.1.set i x')))] else none := store_loc _ aggN_97 V l sz i off v
theorem bx_97 (x : Operand) (V : Nat → Option AO) (new : Nat) (ρ : Operand → AV) : evalOp Try.prog (.box 97 x) V new ρ = if hasSize (ρ x) 1 = true then some (.loc new 1 0 0, [(new, some (.row 97 1 [ρ x]))]) else none := by rw [E_box, aggN_97, boxK_some]
theorem al_97 (V : Nat → Option AO) (new : Nat) (ρ : Operand → AV) : evalOp Try.prog (.alloc 97) V new ρ = some (.loc new 1 0 0, [(new, some (.row 97 1 [.val (.pointer none)]))]) := by rw [E_alloc, aggN_97, zero_97, allocK_some]; rfl
theorem ld_100 (y : AV) (off : Nat) : evalLd Try.prog 100 y off = ldOne y off := ld_one _ aggN_100 y off
theorem st_100 (V : Nat → Option AO) (l sz i off : Nat) (v : AV) : evalStore Try.prog 100 V (.loc l sz i off) v = if hasSize v 1 = true then (rowT (V l) sz i).bind fun p => (stAV p.2.2 off v).map fun x' => [(l, some (.row p.1 sz (p.2.1.set i x')))] else none := store_loc _ aggN_100 V l sz i off v
theorem bx_100 (x : Operand) (V : Nat → Option AO) (new : Nat) (ρ : Operand → AV) : evalOp Try.prog (.box 100 x) V new ρ = if hasSize (ρ x) 1 = true then some (.loc new 1 0 0, [(new, some (.row 100 1 [ρ x]))]) else none := by rw [E_box, aggN_100, boxK_some]
end Go.Proofs.Ytnmljicimdhpmaa.AL

