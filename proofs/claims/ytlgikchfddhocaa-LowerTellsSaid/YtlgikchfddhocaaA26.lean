/- What any node of any stack should say of copies, and which say otherwise, is what the document says: part 26 of 45. -/
import Derived.Test.YtlgikchfddhocaaA25
set_option linter.all false
/- AL: the evaluator's rules with the facts of this seat's types, printed by rules.py. -/
set_option linter.unusedSimpArgs false
set_option linter.unusedVariables false
namespace Go.Proofs.Ytlgikchfddhocaa.AL
open Go Go.Proofs
set_option maxRecDepth 100000
theorem mixed : Try.prog.follows .mixedOrders = true := by kernel_rfl
theorem zero_2 : zeroOf Try.prog 2 = some (.val (.int .i64 0)) := by kernel_rfl
theorem zero_3 : zeroOf Try.prog 3 = some (.val (.int .i64 0)) := by kernel_rfl
theorem zero_4 : zeroOf Try.prog 4 = some (.val (.bool false)) := by kernel_rfl
theorem zero_5 : zeroOf Try.prog 5 = some (.val (.int .u8 0)) := by kernel_rfl
theorem zero_9 : zeroOf Try.prog 9 = some (.val (.string ⟨#[]⟩)) := by kernel_rfl
theorem zero_25 : zeroOf Try.prog 25 = some (.val (.slice none 0 0)) := by kernel_rfl
theorem zero_30 : zeroOf Try.prog 30 = some (.val (.slice none 0 0)) := by kernel_rfl
theorem zero_36 : zeroOf Try.prog 36 = some (.val (.slice none 0 0)) := by kernel_rfl
theorem zero_38 : zeroOf Try.prog 38 = some (.agg [.val (.slice none 0 0)]) := by kernel_rfl
theorem zero_39 : zeroOf Try.prog 39 = some (.val (.slice none 0 0)) := by kernel_rfl
theorem zero_41 : zeroOf Try.prog 41 = some (.agg [.val (.int .i64 0), .val (.int .i64 0), .val (.int .i64 0), .val (.int .i64 0), .val (.slice none 0 0), .val (.slice none 0 0)]) := by kernel_rfl
theorem zero_42 : zeroOf Try.prog 42 = some (.val (.slice none 0 0)) := by kernel_rfl
theorem zero_48 : zeroOf Try.prog 48 = some (.agg [.val (.int .i64 0), .val (.int .i64 0)]) := by kernel_rfl
theorem zero_66 : zeroOf Try.prog 66 = some (.val (.slice none 0 0)) := by kernel_rfl
theorem zero_67 : zeroOf Try.prog 67 = some (.val (.slice none 0 0)) := by kernel_rfl
theorem zero_71 : zeroOf Try.prog 71 = some (.agg [.val (.int .i64 0), .val (.int .i64 0), .val (.string ⟨#[]⟩), .val (.int .i64 0), .val (.int .i64 0), .val (.int .i64 0), .val (.int .i64 0)]) := by kernel_rfl
theorem zero_73 : zeroOf Try.prog 73 = some (.agg [.val (.int .i64 0), .val (.int .i64 0), .val (.int .i64 0), .val (.int .i64 0), .val (.slice none 0 0), .val (.slice none 0 0), .val (.int .i64 0), .val (.int .i64 0), .val (.string ⟨#[]⟩), .val (.int .i64 0), .val (.int .i64 0), .val (.int .i64 0), .val (.int .i64 0)]) := by kernel_rfl
theorem zero_83 : zeroOf Try.prog 83 = some (.agg [.val (.int .i64 0), .val (.int .i64 0), .val (.string ⟨#[]⟩)]) := by kernel_rfl
theorem ld_1 (y : AV) (off : Nat) : evalLd Try.prog 1 y off = ldOne y off := ld_one _ aggN_1 y off
theorem st_1 (V : Nat → Option AO) (l sz i off : Nat) (v : AV) : evalStore Try.prog 1 V (.loc l sz i off) v = if hasSize v 1 = true then (rowT (V l) sz i).bind fun p => (stAV p.2.2 off v).map fun x' => [(l, some (.row p.1 sz (p.2.1.set i x')))] else none := store_loc _ aggN_1 V l sz i off v
theorem bx_1 (x : Operand) (V : Nat → Option AO) (new : Nat) (ρ : Operand → AV) : evalOp Try.prog (.box 1 x) V new ρ = if hasSize (ρ x) 1 = true then some (.loc new 1 0 0, [(new, some (.row 1 1 [ρ x]))]) else none := by rw [E_box, aggN_1, boxK_some]
theorem ld_2 (y : AV) (off : Nat) : evalLd Try.prog 2 y off = ldOne y off := ld_one _ aggN_2 y off
theorem st_2 (V : Nat → Option AO) (l sz i off : Nat) (v : AV) : evalStore Try.prog 2 V (.loc l sz i off) v = if hasSize v 1 = true then (rowT (V l) sz i).bind fun p => (stAV p.2.2 off v).map fun x' => [(l, some (.row p.1 sz (p.2.1.set i x')))] else none := store_loc _ aggN_2 V l sz i off v
theorem bx_2 (x : Operand) (V : Nat → Option AO) (new : Nat) (ρ : Operand → AV) : evalOp Try.prog (.box 2 x) V new ρ = if hasSize (ρ x) 1 = true then some (.loc new 1 0 0, [(new, some (.row 2 1 [ρ x]))]) else none := by rw [E_box, aggN_2, boxK_some]
theorem al_2 (V : Nat → Option AO) (new : Nat) (ρ : Operand → AV) : evalOp Try.prog (.alloc 2) V new ρ = some (.loc new 1 0 0, [(new, some (.row 2 1 [.val (.int .i64 0)]))]) := by rw [E_alloc, aggN_2, zero_2, allocK_some]; rfl
theorem ld_3 (y : AV) (off : Nat) : evalLd Try.prog 3 y off = ldOne y off := ld_one _ aggN_3 y off
theorem st_3 (V : Nat → Option AO) (l sz i off : Nat) (v : AV) : evalStore Try.prog 3 V (.loc l sz i off) v = if hasSize v 1 = true then (rowT (V l) sz i).bind fun p => (stAV p.2.2 off v).map fun x' => [(l, some (.row p.1 sz (p.2.1.set i x')))] else none := store_loc _ aggN_3 V l sz i off v
theorem bx_3 (x : Operand) (V : Nat → Option AO) (new : Nat) (ρ : Operand → AV) : evalOp Try.prog (.box 3 x) V new ρ = if hasSize (ρ x) 1 = true then some (.loc new 1 0 0, [(new, some (.row 3 1 [ρ x]))]) else none := by rw [E_box, aggN_3, boxK_some]
theorem al_3 (V : Nat → Option AO) (new : Nat) (ρ : Operand → AV) : evalOp Try.prog (.alloc 3) V new ρ = some (.loc new 1 0 0, [(new, some (.row 3 1 [.val (.int .i64 0)]))]) := by rw [E_alloc, aggN_3, zero_3, allocK_some]; rfl
theorem ld_4 (y : AV) (off : Nat) : evalLd Try.prog 4 y off = ldOne y off := ld_one _ aggN_4 y off
theorem st_4 (V : Nat → Option AO) (l sz i off : Nat) (v : AV) : evalStore Try.prog 4 V (.loc l sz i off) v = if hasSize v 1 = true then (rowT (V l) sz i).bind fun p => (stAV p.2.2 off v).map fun x' => [(l, some (.row p.1 sz (p.2.1.set i x')))] else none := store_loc _ aggN_4 V l sz i off v
theorem bx_4 (x : Operand) (V : Nat → Option AO) (new : Nat) (ρ : Operand → AV) : evalOp Try.prog (.box 4 x) V new ρ = if hasSize (ρ x) 1 = true then some (.loc new 1 0 0, [(new, some (.row 4 1 [ρ x]))]) else none := by rw [E_box, aggN_4, boxK_some]
theorem al_4 (V : Nat → Option AO) (new : Nat) (ρ : Operand → AV) : evalOp Try.prog (.alloc 4) V new ρ = some (.loc new 1 0 0, [(new, some (.row 4 1 [.val (.bool false)]))]) := by rw [E_alloc, aggN_4, zero_4, allocK_some]; rfl
theorem bq_4 (a b : Bool) : binK Try.prog .eql 4 (bool a) (bool b) = brR (a == b) := bool_eql kindOf_4 a b
theorem bn_4 (a b : Bool) : binK Try.prog .neq 4 (bool a) (bool b) = brR (!(a == b)) := bool_neq kindOf_4 a b
theorem ld_5 (y : AV) (off : Nat) : evalLd Try.prog 5 y off = ldOne y off := ld_one _ aggN_5 y off
theorem st_5 (V : Nat → Option AO) (l sz i off : Nat) (v : AV) : evalStore Try.prog 5 V (.loc l sz i off) v = if hasSize v 1 = true then (rowT (V l) sz i).bind fun p => (stAV p.2.2 off v).map fun x' => [(l, some (.row p.1 sz (p.2.1.set i x')))] else none := store_loc _ aggN_5 V l sz i off v
theorem bx_5 (x : Operand) (V : Nat → Option AO) (new : Nat) (ρ : Operand → AV) : evalOp Try.prog (.box 5 x) V new ρ = if hasSize (ρ x) 1 = true then some (.loc new 1 0 0, [(new, some (.row 5 1 [ρ x]))]) else none := by rw [E_box, aggN_5, boxK_some]
theorem al_5 (V : Nat → Option AO) (new : Nat) (ρ : Operand → AV) : evalOp Try.prog (.alloc 5) V new ρ = some (.loc new 1 0 0, [(new, some (.row 5 1 [.val (.int .u8 0)]))]) := by rw [E_alloc, aggN_5, zero_5, allocK_some]; rfl
theorem ld_9 (y : AV) (off : Nat) : evalLd Try.prog 9 y off = ldOne y off := ld_one _ aggN_9 y off
theorem st_9 (V : Nat → Option AO) (l sz i off : Nat) (v : AV) : evalStore Try.prog 9 V (.loc l sz i off) v = if hasSize v 1 = true then (rowT (V l) sz i).bind fun p => (stAV p.2.2 off v).map fun x' => [(l, some (.row p.1 sz (p.2.1.set i x')))] else none := store_loc _ aggN_9 V l sz i off v
theorem bx_9 (x : Operand) (V : Nat → Option AO) (new : Nat) (ρ : Operand → AV) : evalOp Try.prog (.box 9 x) V new ρ = if hasSize (ρ x) 1 = true then some (.loc new 1 0 0, [(new, some (.row 9 1 [ρ x]))]) else none := by rw [E_box, aggN_9, boxK_some]
theorem al_9 (V : Nat → Option AO) (new : Nat) (ρ : Operand → AV) : evalOp Try.prog (.alloc 9) V new ρ = some (.loc new 1 0 0, [(new, some (.row 9 1 [.val (.string ⟨#[]⟩)]))]) := by rw [E_alloc, aggN_9, zero_9, allocK_some]; rfl
theorem lB_9 (s : ByteArray) : evalLen Try.prog 9 (.val (.string s)) = some (int s.size) := len_str _ kindOf_9 s
theorem iB_9 (s : ByteArray) (k : IntKind) (n : Int) : evalIndex Try.prog 9 (.val (.string s)) (.val (.int k n)) = if 0 ≤ n then (s[n.toNat]?).map fun b => u8 b else none := index_str _ kindOf_9 s k n
theorem ld_23 (y : AV) (off : Nat) : evalLd Try.prog 23 y off = ldOne y off := ld_one _ aggN_23 y off
theorem st_23 (V : Nat → Option AO) (l sz i off : Nat) (v : AV) : evalStore Try.prog 23 V (.loc l sz i off) v = if hasSize v 1 = true then (rowT (V l) sz i).bind fun p => (stAV p.2.2 off v).map fun x' => [(l, some (.row p.1 sz (p.2.1.set i x')))] else none := store_loc _ aggN_23 V l sz i off v
theorem bx_23 (x : Operand) (V : Nat → Option AO) (new : Nat) (ρ : Operand → AV) : evalOp Try.prog (.box 23 x) V new ρ = if hasSize (ρ x) 1 = true then some (.loc new 1 0 0, [(new, some (.row 23 1 [ρ x]))]) else none := by rw [E_box, aggN_23, boxK_some]
theorem ld_25 (y : AV) (off : Nat) : evalLd Try.prog 25 y off = ldOne y off := ld_one _ aggN_25 y off
theorem st_25 (V : Nat → Option AO) (l sz i off : Nat) (v : AV) : evalStore Try.prog 25 V (.loc l sz i off) v = if hasSize v 1 = true then (rowT (V l) sz i).bind fun p => (stAV p.2.2 off v).map fun x' => [(l, some (.row p.1 sz (p.2.1.set i x')))] else none := store_loc _ aggN_25 V l sz i off v
theorem bx_25 (x : Operand) (V : Nat → Option AO) (new : Nat) (ρ : Operand → AV) : evalOp Try.prog (.box 25 x) V new ρ = if hasSize (ρ x) 1 = true then some (.loc new 1 0 0, [(new, some (.row 25 1 [ρ x]))]) else none := by rw [E_box, aggN_25, boxK_some]
theorem al_25 (V : Nat → Option AO) (new : Nat) (ρ : Operand → AV) : evalOp Try.prog (.alloc 25) V new ρ = some (.loc new 1 0 0, [(new, some (.row 25 1 [.val (.slice none 0 0)]))]) := by rw [E_alloc, aggN_25, zero_25, allocK_some]; rfl
theorem iS_25 (xs : List AV) (k : IntKind) (n : Int) : evalIndexAddr Try.prog 25 (.sl 1 xs) (.val (.int k n)) = if 0 ≤ n then (xs[n.toNat]?).map fun z => .ptr z 0 else none := indexAddr_sl _ elemOfT_25 aggN_5 xs k n
theorem iM_25 (l len : Nat) (k : IntKind) (n : Int) : evalIndexAddr Try.prog 25 (.msl l len) (.val (.int k n)) = if 0 ≤ n ∧ n < len then some (.loc l 1 n.toNat 0) else none := indexAddr_msl _ elemOfT_25 aggN_5 l len k n
theorem ap_25 (V : Nat → Option AO) (s x : AV) (new : Nat) : evalAppend Try.prog 25 V s x new = appK 1 5 1 new (oldsOf V s 5 1) (newsOf V x 1) := append_eq _ V elemOfT_25 aggN_5 bytesOfT_5 zero_5 rfl s x new
theorem mk_25 (ka kb : IntKind) (a c : Int) (new : Nat) : evalMakeSlice Try.prog 25 (.val (.int ka a)) (.val (.int kb c)) new = if 0 ≤ a ∧ a ≤ c ∧ (1 : Int) * c ≤ 281474976710656 ∧ c ≤ 9223372036854775807 then some (.msl new a.toNat, [(new, some (.row 5 1 (List.replicate a.toNat (.val (.int .u8 0)))))]) else none := by have h := makeSlice_eq _ elemOfT_25 aggN_5 bytesOfT_5 zero_5 rfl ka kb a c new; exact h
theorem bS_25 (len : Nat) (parts : Array (Nat × Operand)) (V : Nat → Option AO) (new : Nat) (ρ : Operand → AV) : evalOp Try.prog (.buildSlice 25 len parts) V new ρ = if len * 1 ≤ 16777216 then (setsA 1 (List.replicate len (.val (.int .u8 0))) (parts.toList.map fun p => (p.1, ρ p.2))).map fun xs => (.msl new len, [(new, some (.row 5 1 xs))]) else none := by rw [E_buildSlice _ _ _ _ 25 len parts 5 elemOfT_25, aggN_5, zero_5, buildSliceK]; simp [hasSize, AV.one, Value.oneCell']
theorem lS_25 (sz : Nat) (xs : List AV) : evalLen Try.prog 25 (.sl sz xs) = some (int xs.length) := len_sl _ elemOfT_25 sz xs
theorem lM_25 (l n : Nat) : evalLen Try.prog 25 (.msl l n) = some (int n) := len_msl _ elemOfT_25 l n
theorem lN_25  : evalLen Try.prog 25 nilS = some (int 0) := len_nil _ elemOfT_25
theorem l0_25  : evalLen Try.prog 25 .e0 = some (int 0) := len_e0 _ elemOfT_25
theorem ld_30 (y : AV) (off : Nat) : evalLd Try.prog 30 y off = ldOne y off := ld_one _ aggN_30 y off
theorem st_30 (V : Nat → Option AO) (l sz i off : Nat) (v : AV) : evalStore Try.prog 30 V (.loc l sz i off) v = if hasSize v 1 = true then (rowT (V l) sz i).bind fun p => (stAV p.2.2 off v).map fun x' => [(l, some (.row p.1 sz (p.2.1.set i x')))] else none := store_loc _ aggN_30 V l sz i off v
theorem bx_30 (x : Operand) (V : Nat → Option AO) (new : Nat) (ρ : Operand → AV) : evalOp Try.prog (.box 30 x) V new ρ = if hasSize (ρ x) 1 = true then some (.loc new 1 0 0, [(new, some (.row 30 1 [ρ x]))]) else none := by rw [E_box, aggN_30, boxK_some]
theorem al_30 (V : Nat → Option AO) (new : Nat) (ρ : Operand → AV) : evalOp Try.prog (.alloc 30) V new ρ = some (.loc new 1 0 0, [(new, some (.row 30 1 [.val (.slice none 0 0)]))]) := by rw [E_alloc, aggN_30, zero_30, allocK_some]; rfl
theorem iS_30 (xs : List AV) (k : IntKind) (n : Int) : evalIndexAddr Try.prog 30 (.sl 1 xs) (.val (.int k n)) = if 0 ≤ n then (xs[n.toNat]?).map fun z => .ptr z 0 else none := indexAddr_sl _ elemOfT_30 aggN_9 xs k n
theorem iM_30 (l len : Nat) (k : IntKind) (n : Int) : evalIndexAddr Try.prog 30 (.msl l len) (.val (.int k n)) = if 0 ≤ n ∧ n < len then some (.loc l 1 n.toNat 0) else none := indexAddr_msl _ elemOfT_30 aggN_9 l len k n
theorem ap_30 (V : Nat → Option AO) (s x : AV) (new : Nat) : evalAppend Try.prog 30 V s x new = appK 16 9 1 new (oldsOf V s 9 1) (newsOf V x 1) := append_eq _ V elemOfT_30 aggN_9 bytesOfT_9 zero_9 rfl s x new
theorem mk_30 (ka kb : IntKind) (a c : Int) (new : Nat) : evalMakeSlice Try.prog 30 (.val (.int ka a)) (.val (.int kb c)) new = if 0 ≤ a ∧ a ≤ c ∧ (16 : Int) * c ≤ 281474976710656 ∧ c ≤ 9223372036854775807 then some (.msl new a.toNat, [(new, some (.row 9 1 (List.replicate a.toNat (.val (.string ⟨#[]⟩)))))]) else none := by have h := makeSlice_eq _ elemOfT_30 aggN_9 bytesOfT_9 zero_9 rfl ka kb a c new; exact h
theorem bS_30 (len : Nat) (parts : Array (Nat × Operand)) (V : Nat → Option AO) (new : Nat) (ρ : Operand → AV) : evalOp Try.prog (.buildSlice 30 len parts) V new ρ = if len * 1 ≤ 16777216 then (setsA 1 (List.replicate len (.val (.string ⟨#[]⟩))) (parts.toList.map fun p => (p.1, ρ p.2))).map fun xs => (.msl new len, [(new, some (.row 9 1 xs))]) else none := by rw [E_buildSlice _ _ _ _ 30 len parts 9 elemOfT_30, aggN_9, zero_9, buildSliceK]; simp [hasSize, AV.one, Value.oneCell']
theorem lS_30 (sz : Nat) (xs : List AV) : evalLen Try.prog 30 (.sl sz xs) = some (int xs.length) := len_sl _ elemOfT_30 sz xs
theorem lM_30 (l n : Nat) : evalLen Try.prog 30 (.msl l n) = some (int n) := len_msl _ elemOfT_30 l n
theorem lN_30  : evalLen Try.prog 30 nilS = some (int 0) := len_nil _ elemOfT_30
theorem l0_30  : evalLen Try.prog 30 .e0 = some (int 0) := len_e0 _ elemOfT_30
theorem ld_36 (y : AV) (off : Nat) : evalLd Try.prog 36 y off = ldOne y off := ld_one _ aggN_36 y off
theorem st_36 (V : Nat → Option AO) (l sz i off : Nat) (v : AV) : evalStore Try.prog 36 V (.loc l sz i off) v = if hasSize v 1 = true then (rowT (V l) sz i).bind fun p => (stAV p.2.2 off v).map fun x' => [(l, some (.row p.1 sz (p.2.1.set i x')))] else none := store_loc _ aggN_36 V l sz i off v
theorem bx_36 (x : Operand) (V : Nat → Option AO) (new : Nat) (ρ : Operand → AV) : evalOp Try.prog (.box 36 x) V new ρ = if hasSize (ρ x) 1 = true then some (.loc new 1 0 0, [(new, some (.row 36 1 [ρ x]))]) else none := by rw [E_box, aggN_36, boxK_some]
theorem al_36 (V : Nat → Option AO) (new : Nat) (ρ : Operand → AV) : evalOp Try.prog (.alloc 36) V new ρ = some (.loc new 1 0 0, [(new, some (.row 36 1 [.val (.slice none 0 0)]))]) := by rw [E_alloc, aggN_36, zero_36, allocK_some]; rfl
theorem iS_36 (xs : List AV) (k : IntKind) (n : Int) : evalIndexAddr Try.prog 36 (.sl 13 xs) (.val (.int k n)) = if 0 ≤ n then (xs[n.toNat]?).map fun z => .ptr z 0 else none := indexAddr_sl _ elemOfT_36 aggN_73 xs k n
theorem iM_36 (l len : Nat) (k : IntKind) (n : Int) : evalIndexAddr Try.prog 36 (.msl l len) (.val (.int k n)) = if 0 ≤ n ∧ n < len then some (.loc l 13 n.toNat 0) else none := indexAddr_msl _ elemOfT_36 aggN_73 l len k n
theorem ap_36 (V : Nat → Option AO) (s x : AV) (new : Nat) : evalAppend Try.prog 36 V s x new = appK 144 73 13 new (oldsOf V s 73 13) (newsOf V x 13) := append_eq _ V elemOfT_36 aggN_73 bytesOfT_73 zero_73 rfl s x new
theorem mk_36 (ka kb : IntKind) (a c : Int) (new : Nat) : evalMakeSlice Try.prog 36 (.val (.int ka a)) (.val (.int kb c)) new = if 0 ≤ a ∧ a ≤ c ∧ (144 : Int) * c ≤ 281474976710656 ∧ c ≤ 9223372036854775807 then some (.msl new a.toNat, [(new, some (.row 73 13 (List.replicate a.toNat (.agg [.val (.int .i64 0), .val (.int .i64 0), .val (.int .i64 0), .val (.int .i64 0), .val (.slice none 0 0), .val (.slice none 0 0), .val (.int .i64 0), .val (.int .i64 0), .val (.string ⟨#[]⟩), .val (.int .i64 0), .val (.int .i64 0), .val (.int .i64 0), .val (.int .i64 0)]))))]) else none := by have h := makeSlice_eq _ elemOfT_36 aggN_73 bytesOfT_73 zero_73 rfl ka kb a c new; exact h
theorem bS_36 (len : Nat) (parts : Array (Nat × Operand)) (V : Nat → Option AO) (new : Nat) (ρ : Operand → AV) : evalOp Try.prog (.buildSlice 36 len parts) V new ρ = if len * 13 ≤ 16777216 then (setsA 13 (List.replicate len (.agg [.val (.int .i64 0), .val (.int .i64 0), .val (.int .i64 0), .val (.int .i64 0), .val (.slice none 0 0), .val (.slice none 0 0), .val (.int .i64 0), .val (.int .i64 0), .val (.string ⟨#[]⟩), .val (.int .i64 0), .val (.int .i64 0), .val (.int .i64 0), .val (.int .i64 0)])) (parts.toList.map fun p => (p.1, ρ p.2))).map fun xs => (.msl new len, [(new, some (.row 73 13 xs))]) else none := by rw [E_buildSlice _ _ _ _ 36 len parts 73 elemOfT_36, aggN_73, zero_73, buildSliceK]; simp [hasSize, AV.one, Value.oneCell']
theorem lS_36 (sz : Nat) (xs : List AV) : evalLen Try.prog 36 (.sl sz xs) = some (int xs.length) := len_sl _ elemOfT_36 sz xs
theorem lM_36 (l n : Nat) : evalLen Try.prog 36 (.msl l n) = some (int n) := len_msl _ elemOfT_36 l n
theorem lN_36  : evalLen Try.prog 36 nilS = some (int 0) := len_nil _ elemOfT_36
theorem l0_36  : evalLen Try.prog 36 .e0 = some (int 0) := len_e0 _ elemOfT_36
theorem ld_38 (y : AV) (off : Nat) : evalLd Try.prog 38 y off = ldAgg y off 1 := ld_agg _ aggN_38 y off
theorem st_38 (V : Nat → Option AO) (l sz i off : Nat) (v : AV) : evalStore Try.prog 38 V (.loc l sz i off) v = if hasSize v 1 = true then (rowT (V l) sz i).bind fun p => (stAV p.2.2 off v).map fun x' => [(l, some (.row p.1 sz (p.2.1.set i x')))] else none := store_loc _ aggN_38 V l sz i off v
theorem bx_38 (x : Operand) (V : Nat → Option AO) (new : Nat) (ρ : Operand → AV) : evalOp Try.prog (.box 38 x) V new ρ = if hasSize (ρ x) 1 = true then some (.loc new 1 0 0, [(new, some (.row 38 1 [ρ x]))]) else none := by rw [E_box, aggN_38, boxK_some]
theorem al_38 (V : Nat → Option AO) (new : Nat) (ρ : Operand → AV) : evalOp Try.prog (.alloc 38) V new ρ = some (.loc new 1 0 0, [(new, some (.row 38 1 [.agg [.val (.slice none 0 0)]]))]) := by rw [E_alloc, aggN_38, zero_38, allocK_some]; rfl
theorem fL_38_0 (l sz i off : Nat) : evalFieldAddr Try.prog 38 0 (.loc l sz i off) = some (.loc l sz i (off + 0)) := fieldAddr_loc _ fieldOf_38_0 aggN_36 (by decide) l sz i off
theorem fP_38_0 (y : AV) (off : Nat) : evalFieldAddr Try.prog 38 0 (.ptr y off) = some (.ptr y (off + 0)) := fieldAddr_ptr _ fieldOf_38_0 aggN_36 (by decide) y off
theorem fd_38_0 (x : AV) : evalField Try.prog 38 0 x = partO 0 x := field_one fieldOf_38_0 aggN_36 x
theorem lay_38 : layOf Try.prog 38 = some ([.val (.slice none 0 0)], .str [(0, 1)]) := by kernel_rfl
theorem bd_38 (parts : List (Nat × AV)) : evalBuild Try.prog 38 parts = (fillA (fun i => [(0, 1)][i]?) [.val (.slice none 0 0)] parts).map .agg := by simp only [evalBuild, lay_38]; rfl
theorem ld_39 (y : AV) (off : Nat) : evalLd Try.prog 39 y off = ldOne y off := ld_one _ aggN_39 y off
theorem st_39 (V : Nat → Option AO) (l sz i off : Nat) (v : AV) : evalStore Try.prog 39 V (.loc l sz i off) v = if hasSize v 1 = true then (rowT (V l) sz i).bind fun p => (stAV p.2.2 off v).map fun x' => [(l, some (.row p.1 sz (p.2.1.set i x')))] else none := store_loc _ aggN_39 V l sz i off v
theorem bx_39 (x : Operand) (V : Nat → Option AO) (new : Nat) (ρ : Operand → AV) : evalOp Try.prog (.box 39 x) V new ρ = if hasSize (ρ x) 1 = true then some (.loc new 1 0 0, [(new, some (.row 39 1 [ρ x]))]) else none := by rw [E_box, aggN_39, boxK_some]
theorem al_39 (V : Nat → Option AO) (new : Nat) (ρ : Operand → AV) : evalOp Try.prog (.alloc 39) V new ρ = some (.loc new 1 0 0, [(new, some (.row 39 1 [.val (.slice none 0 0)]))]) := by rw [E_alloc, aggN_39, zero_39, allocK_some]; rfl
theorem iS_39 (xs : List AV) (k : IntKind) (n : Int) : evalIndexAddr Try.prog 39 (.sl 1 xs) (.val (.int k n)) = if 0 ≤ n then (xs[n.toNat]?).map fun z => .ptr z 0 else none := indexAddr_sl _ elemOfT_39 aggN_38 xs k n
theorem iM_39 (l len : Nat) (k : IntKind) (n : Int) : evalIndexAddr Try.prog 39 (.msl l len) (.val (.int k n)) = if 0 ≤ n ∧ n < len then some (.loc l 1 n.toNat 0) else none := indexAddr_msl _ elemOfT_39 aggN_38 l len k n
theorem ap_39 (V : Nat → Option AO) (s x : AV) (new : Nat) : evalAppend Try.prog 39 V s x new = appK 24 38 1 new (oldsOf V s 38 1) (newsOf V x 1) := append_eq _ V elemOfT_39 aggN_38 bytesOfT_38 zero_38 rfl s x new
theorem mk_39 (ka kb : IntKind) (a c : Int) (new : Nat) : evalMakeSlice Try.prog 39 (.val (.int ka a)) (.val (.int kb c)) new = if 0 ≤ a ∧ a ≤ c ∧ (24 : Int) * c ≤ 281474976710656 ∧ c ≤ 9223372036854775807 then some (.msl new a.toNat, [(new, some (.row 38 1 (List.replicate a.toNat (.agg [.val (.slice none 0 0)]))))]) else none := by have h := makeSlice_eq _ elemOfT_39 aggN_38 bytesOfT_38 zero_38 rfl ka kb a c new; exact h
theorem bS_39 (len : Nat) (parts : Array (Nat × Operand)) (V : Nat → Option AO) (new : Nat) (ρ : Operand → AV) : evalOp Try.prog (.buildSlice 39 len parts) V new ρ = if len * 1 ≤ 16777216 then (setsA 1 (List.replicate len (.agg [.val (.slice none 0 0)])) (parts.toList.map fun p => (p.1, ρ p.2))).map fun xs => (.msl new len, [(new, some (.row 38 1 xs))]) else none := by rw [E_buildSlice _ _ _ _ 39 len parts 38 elemOfT_39, aggN_38, zero_38, buildSliceK]; simp [hasSize, AV.one, Value.oneCell']
theorem lS_39 (sz : Nat) (xs : List AV) : evalLen Try.prog 39 (.sl sz xs) = some (int xs.length) := len_sl _ elemOfT_39 sz xs
theorem lM_39 (l n : Nat) : evalLen Try.prog 39 (.msl l n) = some (int n) := len_msl _ elemOfT_39 l n
theorem lN_39  : evalLen Try.prog 39 nilS = some (int 0) := len_nil _ elemOfT_39
theorem l0_39  : evalLen Try.prog 39 .e0 = some (int 0) := len_e0 _ elemOfT_39
theorem ld_41 (y : AV) (off : Nat) : evalLd Try.prog 41 y off = ldAgg y off 6 := ld_agg _ aggN_41 y off
theorem st_41 (V : Nat → Option AO) (l sz i off : Nat) (v : AV) : evalStore Try.prog 41 V (.loc l sz i off) v = if hasSize v 6 = true then (rowT (V l) sz i).bind fun p => (stAV p.2.2 off v).map fun x' => [(l, some (.row p.1 sz (p.2.1.set i x')))] else none := store_loc _ aggN_41 V l sz i off v
theorem bx_41 (x : Operand) (V : Nat → Option AO) (new : Nat) (ρ : Operand → AV) : evalOp Try.prog (.box 41 x) V new ρ = if hasSize (ρ x) 6 = true then some (.loc new 6 0 0, [(new, some (.row 41 6 [ρ x]))]) else none := by rw [E_box, aggN_41, boxK_some]
theorem al_41 (V : Nat → Option AO) (new : Nat) (ρ : Operand → AV) : evalOp Try.prog (.alloc 41) V new ρ = some (.loc new 6 0 0, [(new, some (.row 41 6 [.agg [.val (.int .i64 0), .val (.int .i64 0), .val (.int .i64 0), .val (.int .i64 0), .val (.slice none 0 0), .val (.slice none 0 0)]]))]) := by rw [E_alloc, aggN_41, zero_41, allocK_some]; rfl
theorem fL_41_0 (l sz i off : Nat) : evalFieldAddr Try.prog 41 0 (.loc l sz i off) = some (.loc l sz i (off + 0)) := fieldAddr_loc _ fieldOf_41_0 aggN_35 (by decide) l sz i off
theorem fP_41_0 (y : AV) (off : Nat) : evalFieldAddr Try.prog 41 0 (.ptr y off) = some (.ptr y (off + 0)) := fieldAddr_ptr _ fieldOf_41_0 aggN_35 (by decide) y off
theorem fd_41_0 (x : AV) : evalField Try.prog 41 0 x = partA 0 4 x := field_agg' fieldOf_41_0 aggN_35 x
theorem fL_41_1 (l sz i off : Nat) : evalFieldAddr Try.prog 41 1 (.loc l sz i off) = some (.loc l sz i (off + 4)) := fieldAddr_loc _ fieldOf_41_1 aggN_38 (by decide) l sz i off
theorem fP_41_1 (y : AV) (off : Nat) : evalFieldAddr Try.prog 41 1 (.ptr y off) = some (.ptr y (off + 4)) := fieldAddr_ptr _ fieldOf_41_1 aggN_38 (by decide) y off
theorem fd_41_1 (x : AV) : evalField Try.prog 41 1 x = partA 4 1 x := field_agg' fieldOf_41_1 aggN_38 x
theorem fL_41_2 (l sz i off : Nat) : evalFieldAddr Try.prog 41 2 (.loc l sz i off) = some (.loc l sz i (off + 5)) := fieldAddr_loc _ fieldOf_41_2 aggN_39 (by decide) l sz i off
theorem fP_41_2 (y : AV) (off : Nat) : evalFieldAddr Try.prog 41 2 (.ptr y off) = some (.ptr y (off + 5)) := fieldAddr_ptr _ fieldOf_41_2 aggN_39 (by decide) y off
theorem fd_41_2 (x : AV) : evalField Try.prog 41 2 x = partO 5 x := field_one fieldOf_41_2 aggN_39 x
theorem lay_41 : layOf Try.prog 41 = some ([.val (.int .i64 0), .val (.int .i64 0), .val (.int .i64 0), .val (.int .i64 0), .val (.slice none 0 0), .val (.slice none 0 0)], .str [(0, 4), (4, 1), (5, 1)]) := by kernel_rfl
theorem bd_41 (parts : List (Nat × AV)) : evalBuild Try.prog 41 parts = (fillA (fun i => [(0, 4), (4, 1), (5, 1)][i]?) [.val (.int .i64 0), .val (.int .i64 0), .val (.int .i64 0), .val (.int .i64 0), .val (.slice none 0 0), .val (.slice none 0 0)] parts).map .agg := by simp only [evalBuild, lay_41]; rfl
theorem ld_42 (y : AV) (off : Nat) : evalLd Try.prog 42 y off = ldOne y off := ld_one _ aggN_42 y off
theorem st_42 (V : Nat → Option AO) (l sz i off : Nat) (v : AV) : evalStore Try.prog 42 V (.loc l sz i off) v = if hasSize v 1 = true then (rowT (V l) sz i).bind fun p => (stAV p.2.2 off v).map fun x' => [(l, some (.row p.1 sz (p.2.1.set i x')))] else none := store_loc _ aggN_42 V l sz i off v
theorem bx_42 (x : Operand) (V : Nat → Option AO) (new : Nat) (ρ : Operand → AV) : evalOp Try.prog (.box 42 x) V new ρ = if hasSize (ρ x) 1 = true then some (.loc new 1 0 0, [(new, some (.row 42 1 [ρ x]))]) else none := by rw [E_box, aggN_42, boxK_some]
theorem al_42 (V : Nat → Option AO) (new : Nat) (ρ : Operand → AV) : evalOp Try.prog (.alloc 42) V new ρ = some (.loc new 1 0 0, [(new, some (.row 42 1 [.val (.slice none 0 0)]))]) := by rw [E_alloc, aggN_42, zero_42, allocK_some]; rfl
theorem iS_42 (xs : List AV) (k : IntKind) (n : Int) : evalIndexAddr Try.prog 42 (.sl 2 xs) (.val (.int k n)) = if 0 ≤ n then (xs[n.toNat]?).map fun z => .ptr z 0 else none := indexAddr_sl _ elemOfT_42 aggN_48 xs k n
theorem iM_42 (l len : Nat) (k : IntKind) (n : Int) : evalIndexAddr Try.prog 42 (.msl l len) (.val (.int k n)) = if 0 ≤ n ∧ n < len then some (.loc l 2 n.toNat 0) else none := indexAddr_msl _ elemOfT_42 aggN_48 l len k n
theorem ap_42 (V : Nat → Option AO) (s x : AV) (new : Nat) : evalAppend Try.prog 42 V s x new = appK 16 48 2 new (oldsOf V s 48 2) (newsOf V x 2) := append_eq _ V elemOfT_42 aggN_48 bytesOfT_48 zero_48 rfl s x new
theorem mk_42 (ka kb : IntKind) (a c : Int) (new : Nat) : evalMakeSlice Try.prog 42 (.val (.int ka a)) (.val (.int kb c)) new = if 0 ≤ a ∧ a ≤ c ∧ (16 : Int) * c ≤ 281474976710656 ∧ c ≤ 9223372036854775807 then some (.msl new a.toNat, [(new, some (.row 48 2 (List.replicate a.toNat (.agg [.val (.int .i64 0), .val (.int .i64 0)]))))]) else none := by have h := makeSlice_eq _ elemOfT_42 aggN_48 bytesOfT_48 zero_48 rfl ka kb a c new; exact h
theorem bS_42 (len : Nat) (parts : Array (Nat × Operand)) (V : Nat → Option AO) (new : Nat) (ρ : Operand → AV) : evalOp Try.prog (.buildSlice 42 len parts) V new ρ = if len * 2 ≤ 16777216 then (setsA 2 (List.replicate len (.agg [.val (.int .i64 0), .val (.int .i64 0)])) (parts.toList.map fun p => (p.1, ρ p.2))).map fun xs => (.msl new len, [(new, some (.row 48 2 xs))]) else none := by rw [E_buildSlice _ _ _ _ 42 len parts 48 elemOfT_42, aggN_48, zero_48, buildSliceK]; simp [hasSize, AV.one, Value.oneCell']
theorem lS_42 (sz : Nat) (xs : List AV) : evalLen Try.prog 42 (.sl sz xs) = some (int xs.length) := len_sl _ elemOfT_42 sz xs
theorem lM_42 (l n : Nat) : evalLen Try.prog 42 (.msl l n) = some (int n) := len_msl _ elemOfT_42 l n
theorem lN_42  : evalLen Try.prog 42 nilS = some (int 0) := len_nil _ elemOfT_42
theorem l0_42  : evalLen Try.prog 42 .e0 = some (int 0) := len_e0 _ elemOfT_42
theorem ld_48 (y : AV) (off : Nat) : evalLd Try.prog 48 y off = ldAgg y off 2 := ld_agg _ aggN_48 y off
theorem st_48 (V : Nat → Option AO) (l sz i off : Nat) (v : AV) : evalStore Try.prog 48 V (.loc l sz i off) v = if hasSize v 2 = true then (rowT (V l) sz i).bind fun p => (stAV p.2.2 off v).map fun x' => [(l, some (.row p.1 sz (p.2.1.set i x')))] else none := store_loc _ aggN_48 V l sz i off v
theorem bx_48 (x : Operand) (V : Nat → Option AO) (new : Nat) (ρ : Operand → AV) : evalOp Try.prog (.box 48 x) V new ρ = if hasSize (ρ x) 2 = true then some (.loc new 2 0 0, [(new, some (.row 48 2 [ρ x]))]) else none := by rw [E_box, aggN_48, boxK_some]
theorem al_48 (V : Nat → Option AO) (new : Nat) (ρ : Operand → AV) : evalOp Try.prog (.alloc 48) V new ρ = some (.loc new 2 0 0, [(new, some (.row 48 2 [.agg [.val (.int .i64 0), .val (.int .i64 0)]]))]) := by rw [E_alloc, aggN_48, zero_48, allocK_some]; rfl
theorem fL_48_0 (l sz i off : Nat) : evalFieldAddr Try.prog 48 0 (.loc l sz i off) = some (.loc l sz i (off + 0)) := fieldAddr_loc _ fieldOf_48_0 aggN_3 (by decide) l sz i off
theorem fP_48_0 (y : AV) (off : Nat) : evalFieldAddr Try.prog 48 0 (.ptr y off) = some (.ptr y (off + 0)) := fieldAddr_ptr _ fieldOf_48_0 aggN_3 (by decide) y off
theorem fd_48_0 (x : AV) : evalField Try.prog 48 0 x = partO 0 x := field_one fieldOf_48_0 aggN_3 x
theorem fL_48_1 (l sz i off : Nat) : evalFieldAddr Try.prog 48 1 (.loc l sz i off) = some (.loc l sz i (off + 1)) := fieldAddr_loc _ fieldOf_48_1 aggN_3 (by decide) l sz i off
theorem fP_48_1 (y : AV) (off : Nat) : evalFieldAddr Try.prog 48 1 (.ptr y off) = some (.ptr y (off + 1)) := fieldAddr_ptr _ fieldOf_48_1 aggN_3 (by decide) y off
theorem fd_48_1 (x : AV) : evalField Try.prog 48 1 x = partO 1 x := field_one fieldOf_48_1 aggN_3 x
theorem lay_48 : layOf Try.prog 48 = some ([.val (.int .i64 0), .val (.int .i64 0)], .str [(0, 1), (1, 1)]) := by kernel_rfl
theorem bd_48 (parts : List (Nat × AV)) : evalBuild Try.prog 48 parts = (fillA (fun i => [(0, 1), (1, 1)][i]?) [.val (.int .i64 0), .val (.int .i64 0)] parts).map .agg := by simp only [evalBuild, lay_48]; rfl
theorem ld_64 (y : AV) (off : Nat) : evalLd Try.prog 64 y off = ldOne y off := ld_one _ aggN_64 y off
theorem st_64 (V : Nat → Option AO) (l sz i off : Nat) (v : AV) : evalStore Try.prog 64 V (.loc l sz i off) v = if hasSize v 1 = true then (rowT (V l) sz i).bind fun p => (stAV p.2.2 off v).map fun x' => [(l, some (.row p.1 sz (p.2.1.set i x')))] else none := store_loc _ aggN_64 V l sz i off v
theorem bx_64 (x : Operand) (V : Nat → Option AO) (new : Nat) (ρ : Operand → AV) : evalOp Try.prog (.box 64 x) V new ρ = if hasSize (ρ x) 1 = true then some (.loc new 1 0 0, [(new, some (.row 64 1 [ρ x]))]) else none := by rw [E_box, aggN_64, boxK_some]
theorem ld_66 (y : AV) (off : Nat) : evalLd Try.prog 66 y off = ldOne y off := ld_one _ aggN_66 y off
theorem st_66 (V : Nat → Option AO) (l sz i off : Nat) (v : AV) : evalStore Try.prog 66 V (.loc l sz i off) v = if hasSize v 1 = true then (rowT (V l) sz i).bind fun p => (stAV p.2.2 off v).map fun x' => [(l, some (.row p.1 sz (p.2.1.set i x')))] else none := store_loc _ aggN_66 V l sz i off v
theorem bx_66 (x : Operand) (V : Nat → Option AO) (new : Nat) (ρ : Operand → AV) : evalOp Try.prog (.box 66 x) V new ρ = if hasSize (ρ x) 1 = true then some (.loc new 1 0 0, [(new, some (.row 66 1 [ρ x]))]) else none := by rw [E_box, aggN_66, boxK_some]
theorem al_66 (V : Nat → Option AO) (new : Nat) (ρ : Operand → AV) : evalOp Try.prog (.alloc 66) V new ρ = some (.loc new 1 0 0, [(new, some (.row 66 1 [.val (.slice none 0 0)]))]) := by rw [E_alloc, aggN_66, zero_66, allocK_some]; rfl
theorem iS_66 (xs : List AV) (k : IntKind) (n : Int) : evalIndexAddr Try.prog 66 (.sl 1 xs) (.val (.int k n)) = if 0 ≤ n then (xs[n.toNat]?).map fun z => .ptr z 0 else none := indexAddr_sl _ elemOfT_66 aggN_38 xs k n
theorem iM_66 (l len : Nat) (k : IntKind) (n : Int) : evalIndexAddr Try.prog 66 (.msl l len) (.val (.int k n)) = if 0 ≤ n ∧ n < len then some (.loc l 1 n.toNat 0) else none := indexAddr_msl _ elemOfT_66 aggN_38 l len k n
theorem ap_66 (V : Nat → Option AO) (s x : AV) (new : Nat) : evalAppend Try.prog 66 V s x new = appK 24 38 1 new (oldsOf V s 38 1) (newsOf V x 1) := append_eq _ V elemOfT_66 aggN_38 bytesOfT_38 zero_38 rfl s x new
theorem mk_66 (ka kb : IntKind) (a c : Int) (new : Nat) : evalMakeSlice Try.prog 66 (.val (.int ka a)) (.val (.int kb c)) new = if 0 ≤ a ∧ a ≤ c ∧ (24 : Int) * c ≤ 281474976710656 ∧ c ≤ 9223372036854775807 then some (.msl new a.toNat, [(new, some (.row 38 1 (List.replicate a.toNat (.agg [.val (.slice none 0 0)]))))]) else none := by have h := makeSlice_eq _ elemOfT_66 aggN_38 bytesOfT_38 zero_38 rfl ka kb a c new; exact h
theorem bS_66 (len : Nat) (parts : Array (Nat × Operand)) (V : Nat → Option AO) (new : Nat) (ρ : Operand → AV) : evalOp Try.prog (.buildSlice 66 len parts) V new ρ = if len * 1 ≤ 16777216 then (setsA 1 (List.replicate len (.agg [.val (.slice none 0 0)])) (parts.toList.map fun p => (p.1, ρ p.2))).map fun xs => (.msl new len, [(new, some (.row 38 1 xs))]) else none := by rw [E_buildSlice _ _ _ _ 66 len parts 38 elemOfT_66, aggN_38, zero_38, buildSliceK]; simp [hasSize, AV.one, Value.oneCell']
theorem lS_66 (sz : Nat) (xs : List AV) : evalLen Try.prog 66 (.sl sz xs) = some (int xs.length) := len_sl _ elemOfT_66 sz xs
theorem lM_66 (l n : Nat) : evalLen Try.prog 66 (.msl l n) = some (int n) := len_msl _ elemOfT_66 l n
theorem lN_66  : evalLen Try.prog 66 nilS = some (int 0) := len_nil _ elemOfT_66
theorem l0_66  : evalLen Try.prog 66 .e0 = some (int 0) := len_e0 _ elemOfT_66
theorem ld_67 (y : AV) (off : Nat) : evalLd Try.prog 67 y off = ldOne y off := ld_one _ aggN_67 y off
theorem st_67 (V : Nat → Option AO) (l sz i off : Nat) (v : AV) : evalStore Try.prog 67 V (.loc l sz i off) v = if hasSize v 1 = true then (rowT (V l) sz i).bind fun p => (stAV p.2.2 off v).map fun x' => [(l, some (.row p.1 sz (p.2.1.set i x')))] else none := store_loc _ aggN_67 V l sz i off v
theorem bx_67 (x : Operand) (V : Nat → Option AO) (new : Nat) (ρ : Operand → AV) : evalOp Try.prog (.box 67 x) V new ρ = if hasSize (ρ x) 1 = true then some (.loc new 1 0 0, [(new, some (.row 67 1 [ρ x]))]) else none := by rw [E_box, aggN_67, boxK_some]
theorem al_67 (V : Nat → Option AO) (new : Nat) (ρ : Operand → AV) : evalOp Try.prog (.alloc 67) V new ρ = some (.loc new 1 0 0, [(new, some (.row 67 1 [.val (.slice none 0 0)]))]) := by rw [E_alloc, aggN_67, zero_67, allocK_some]; rfl
theorem iS_67 (xs : List AV) (k : IntKind) (n : Int) : evalIndexAddr Try.prog 67 (.sl 3 xs) (.val (.int k n)) = if 0 ≤ n then (xs[n.toNat]?).map fun z => .ptr z 0 else none := indexAddr_sl _ elemOfT_67 aggN_83 xs k n
theorem iM_67 (l len : Nat) (k : IntKind) (n : Int) : evalIndexAddr Try.prog 67 (.msl l len) (.val (.int k n)) = if 0 ≤ n ∧ n < len then some (.loc l 3 n.toNat 0) else none := indexAddr_msl _ elemOfT_67 aggN_83 l len k n
theorem ap_67 (V : Nat → Option AO) (s x : AV) (new : Nat) : evalAppend Try.prog 67 V s x new = appK 32 83 3 new (oldsOf V s 83 3) (newsOf V x 3) := append_eq _ V elemOfT_67 aggN_83 bytesOfT_83 zero_83 rfl s x new
theorem mk_67 (ka kb : IntKind) (a c : Int) (new : Nat) : evalMakeSlice Try.prog 67 (.val (.int ka a)) (.val (.int kb c)) new = if 0 ≤ a ∧ a ≤ c ∧ (32 : Int) * c ≤ 281474976710656 ∧ c ≤ 9223372036854775807 then some (.msl new a.toNat, [(new, some (.row 83 3 (List.replicate a.toNat (.agg [.val (.int .i64 0), .val (.int .i64 0), .val (.string ⟨#[]⟩)]))))]) else none := by have h := makeSlice_eq _ elemOfT_67 aggN_83 bytesOfT_83 zero_83 rfl ka kb a c new; exact h
theorem bS_67 (len : Nat) (parts : Array (Nat × Operand)) (V : Nat → Option AO) (new : Nat) (ρ : Operand → AV) : evalOp Try.prog (.buildSlice 67 len parts) V new ρ = if len * 3 ≤ 16777216 then (setsA 3 (List.replicate len (.agg [.val (.int .i64 0), .val (.int .i64 0), .val (.string ⟨#[]⟩)])) (parts.toList.map fun p => (p.1, ρ p.2))).map fun xs => (.msl new len, [(new, some (.row 83 3 xs))]) else none := by rw [E_buildSlice _ _ _ _ 67 len parts 83 elemOfT_67, aggN_83, zero_83, buildSliceK]; simp [hasSize, AV.one, Value.oneCell']
theorem lS_67 (sz : Nat) (xs : List AV) : evalLen Try.prog 67 (.sl sz xs) = some (int xs.length) := len_sl _ elemOfT_67 sz xs
theorem lM_67 (l n : Nat) : evalLen Try.prog 67 (.msl l n) = some (int n) := len_msl _ elemOfT_67 l n
theorem lN_67  : evalLen Try.prog 67 nilS = some (int 0) := len_nil _ elemOfT_67
theorem l0_67  : evalLen Try.prog 67 .e0 = some (int 0) := len_e0 _ elemOfT_67
theorem ld_71 (y : AV) (off : Nat) : evalLd Try.prog 71 y off = ldAgg y off 7 := ld_agg _ aggN_71 y off
theorem st_71 (V : Nat → Option AO) (l sz i off : Nat) (v : AV) : evalStore Try.prog 71 V (.loc l sz i off) v = if hasSize v 7 = true then (rowT (V l) sz i).bind fun p => (stAV p.2.2 off v).map fun x' => [(l, some (.row p.1 sz (p.2.1.set i x')))] else none := store_loc _ aggN_71 V l sz i off v
theorem bx_71 (x : Operand) (V : Nat → Option AO) (new : Nat) (ρ : Operand → AV) : evalOp Try.prog (.box 71 x) V new ρ = if hasSize (ρ x) 7 = true then some (.loc new 7 0 0, [(new, some (.row 71 7 [ρ x]))]) else none := by rw [E_box, aggN_71, boxK_some]
theorem al_71 (V : Nat → Option AO) (new : Nat) (ρ : Operand → AV) : evalOp Try.prog (.alloc 71) V new ρ = some (.loc new 7 0 0, [(new, some (.row 71 7 [.agg [.val (.int .i64 0), .val (.int .i64 0), .val (.string ⟨#[]⟩), .val (.int .i64 0), .val (.int .i64 0), .val (.int .i64 0), .val (.int .i64 0)]]))]) := by rw [E_alloc, aggN_71, zero_71, allocK_some]; rfl
theorem fL_71_0 (l sz i off : Nat) : evalFieldAddr Try.prog 71 0 (.loc l sz i off) = some (.loc l sz i (off + 0)) := fieldAddr_loc _ fieldOf_71_0 aggN_3 (by decide) l sz i off
theorem fP_71_0 (y : AV) (off : Nat) : evalFieldAddr Try.prog 71 0 (.ptr y off) = some (.ptr y (off + 0)) := fieldAddr_ptr _ fieldOf_71_0 aggN_3 (by decide) y off
theorem fd_71_0 (x : AV) : evalField Try.prog 71 0 x = partO 0 x := field_one fieldOf_71_0 aggN_3 x
theorem fL_71_1 (l sz i off : Nat) : evalFieldAddr Try.prog 71 1 (.loc l sz i off) = some (.loc l sz i (off + 1)) := fieldAddr_loc _ fieldOf_71_1 aggN_3 (by decide) l sz i off
theorem fP_71_1 (y : AV) (off : Nat) : evalFieldAddr Try.prog 71 1 (.ptr y off) = some (.ptr y (off + 1)) := fieldAddr_ptr _ fieldOf_71_1 aggN_3 (by decide) y off
theorem fd_71_1 (x : AV) : evalField Try.prog 71 1 x = partO 1 x := field_one fieldOf_71_1 aggN_3 x
theorem fL_71_2 (l sz i off : Nat) : evalFieldAddr Try.prog 71 2 (.loc l sz i off) = some (.loc l sz i (off + 2)) := fieldAddr_loc _ fieldOf_71_2 aggN_9 (by decide) l sz i off
theorem fP_71_2 (y : AV) (off : Nat) : evalFieldAddr Try.prog 71 2 (.ptr y off) = some (.ptr y (off + 2)) := fieldAddr_ptr _ fieldOf_71_2 aggN_9 (by decide) y off
theorem fd_71_2 (x : AV) : evalField Try.prog 71 2 x = partO 2 x := field_one fieldOf_71_2 aggN_9 x
theorem fL_71_3 (l sz i off : Nat) : evalFieldAddr Try.prog 71 3 (.loc l sz i off) = some (.loc l sz i (off + 3)) := fieldAddr_loc _ fieldOf_71_3 aggN_69 (by decide) l sz i off
theorem fP_71_3 (y : AV) (off : Nat) : evalFieldAddr Try.prog 71 3 (.ptr y off) = some (.ptr y (off + 3)) := fieldAddr_ptr _ fieldOf_71_3 aggN_69 (by decide) y off
theorem fd_71_3 (x : AV) : evalField Try.prog 71 3 x = partA 3 3 x := field_agg' fieldOf_71_3 aggN_69 x
theorem fL_71_4 (l sz i off : Nat) : evalFieldAddr Try.prog 71 4 (.loc l sz i off) = some (.loc l sz i (off + 6)) := fieldAddr_loc _ fieldOf_71_4 aggN_3 (by decide) l sz i off
theorem fP_71_4 (y : AV) (off : Nat) : evalFieldAddr Try.prog 71 4 (.ptr y off) = some (.ptr y (off + 6)) := fieldAddr_ptr _ fieldOf_71_4 aggN_3 (by decide) y off
theorem fd_71_4 (x : AV) : evalField Try.prog 71 4 x = partO 6 x := field_one fieldOf_71_4 aggN_3 x
theorem lay_71 : layOf Try.prog 71 = some ([.val (.int .i64 0), .val (.int .i64 0), .val (.string ⟨#[]⟩), .val (.int .i64 0), .val (.int .i64 0), .val (.int .i64 0), .val (.int .i64 0)], .str [(0, 1), (1, 1), (2, 1), (3, 3), (6, 1)]) := by kernel_rfl
theorem bd_71 (parts : List (Nat × AV)) : evalBuild Try.prog 71 parts = (fillA (fun i => [(0, 1), (1, 1), (2, 1), (3, 3), (6, 1)][i]?) [.val (.int .i64 0), .val (.int .i64 0), .val (.string ⟨#[]⟩), .val (.int .i64 0), .val (.int .i64 0), .val (.int .i64 0), .val (.int .i64 0)] parts).map .agg := by simp only [evalBuild, lay_71]; rfl
theorem ld_73 (y : AV) (off : Nat) : evalLd Try.prog 73 y off = ldAgg y off 13 := ld_agg _ aggN_73 y off
theorem st_73 (V : Nat → Option AO) (l sz i off : Nat) (v : AV) : evalStore Try.prog 73 V (.loc l sz i off) v = if hasSize v 13 = true then (rowT (V l) sz i).bind fun p => (stAV p.2.2 off v).map fun x' => [(l, some (.row p.1 sz (p.2.1.set i x')))] else none := store_loc _ aggN_73 V l sz i off v
theorem bx_73 (x : Operand) (V : Nat → Option AO) (new : Nat) (ρ : Operand → AV) : evalOp Try.prog (.box 73 x) V new ρ = if hasSize (ρ x) 13 = true then some (.loc new 13 0 0, [(new, some (.row 73 13 [ρ x]))]) else none := by rw [E_box, aggN_73, boxK_some]
theorem al_73 (V : Nat → Option AO) (new : Nat) (ρ : Operand → AV) : evalOp Try.prog (.alloc 73) V new ρ = some (.loc new 13 0 0, [(new, some (.row 73 13 [.agg [.val (.int .i64 0), .val (.int .i64 0), .val (.int .i64 0), .val (.int .i64 0), .val (.slice none 0 0), .val (.slice none 0 0), .val (.int .i64 0), .val (.int .i64 0), .val (.string ⟨#[]⟩), .val (.int .i64 0), .val (.int .i64 0), .val (.int .i64 0), .val (.int .i64 0)]]))]) := by rw [E_alloc, aggN_73, zero_73, allocK_some]; rfl
theorem fL_73_0 (l sz i off : Nat) : evalFieldAddr Try.prog 73 0 (.loc l sz i off) = some (.loc l sz i (off + 0)) := fieldAddr_loc _ fieldOf_73_0 aggN_3 (by decide) l sz i off
theorem fP_73_0 (y : AV) (off : Nat) : evalFieldAddr Try.prog 73 0 (.ptr y off) = some (.ptr y (off + 0)) := fieldAddr_ptr _ fieldOf_73_0 aggN_3 (by decide) y off
theorem fd_73_0 (x : AV) : evalField Try.prog 73 0 x = partO 0 x := field_one fieldOf_73_0 aggN_3 x
theorem fL_73_1 (l sz i off : Nat) : evalFieldAddr Try.prog 73 1 (.loc l sz i off) = some (.loc l sz i (off + 1)) := fieldAddr_loc _ fieldOf_73_1 aggN_3 (by decide) l sz i off
theorem fP_73_1 (y : AV) (off : Nat) : evalFieldAddr Try.prog 73 1 (.ptr y off) = some (.ptr y (off + 1)) := fieldAddr_ptr _ fieldOf_73_1 aggN_3 (by decide) y off
theorem fd_73_1 (x : AV) : evalField Try.prog 73 1 x = partO 1 x := field_one fieldOf_73_1 aggN_3 x
theorem fL_73_2 (l sz i off : Nat) : evalFieldAddr Try.prog 73 2 (.loc l sz i off) = some (.loc l sz i (off + 2)) := fieldAddr_loc _ fieldOf_73_2 aggN_3 (by decide) l sz i off
theorem fP_73_2 (y : AV) (off : Nat) : evalFieldAddr Try.prog 73 2 (.ptr y off) = some (.ptr y (off + 2)) := fieldAddr_ptr _ fieldOf_73_2 aggN_3 (by decide) y off
theorem fd_73_2 (x : AV) : evalField Try.prog 73 2 x = partO 2 x := field_one fieldOf_73_2 aggN_3 x
theorem fL_73_3 (l sz i off : Nat) : evalFieldAddr Try.prog 73 3 (.loc l sz i off) = some (.loc l sz i (off + 3)) := fieldAddr_loc _ fieldOf_73_3 aggN_3 (by decide) l sz i off
theorem fP_73_3 (y : AV) (off : Nat) : evalFieldAddr Try.prog 73 3 (.ptr y off) = some (.ptr y (off + 3)) := fieldAddr_ptr _ fieldOf_73_3 aggN_3 (by decide) y off
theorem fd_73_3 (x : AV) : evalField Try.prog 73 3 x = partO 3 x := field_one fieldOf_73_3 aggN_3 x
theorem fL_73_4 (l sz i off : Nat) : evalFieldAddr Try.prog 73 4 (.loc l sz i off) = some (.loc l sz i (off + 4)) := fieldAddr_loc _ fieldOf_73_4 aggN_25 (by decide) l sz i off
theorem fP_73_4 (y : AV) (off : Nat) : evalFieldAddr Try.prog 73 4 (.ptr y off) = some (.ptr y (off + 4)) := fieldAddr_ptr _ fieldOf_73_4 aggN_25 (by decide) y off
theorem fd_73_4 (x : AV) : evalField Try.prog 73 4 x = partO 4 x := field_one fieldOf_73_4 aggN_25 x
theorem fL_73_5 (l sz i off : Nat) : evalFieldAddr Try.prog 73 5 (.loc l sz i off) = some (.loc l sz i (off + 5)) := fieldAddr_loc _ fieldOf_73_5 aggN_67 (by decide) l sz i off
theorem fP_73_5 (y : AV) (off : Nat) : evalFieldAddr Try.prog 73 5 (.ptr y off) = some (.ptr y (off + 5)) := fieldAddr_ptr _ fieldOf_73_5 aggN_67 (by decide) y off
theorem fd_73_5 (x : AV) : evalField Try.prog 73 5 x = partO 5 x := field_one fieldOf_73_5 aggN_67 x
theorem fL_73_6 (l sz i off : Nat) : evalFieldAddr Try.prog 73 6 (.loc l sz i off) = some (.loc l sz i (off + 6)) := fieldAddr_loc _ fieldOf_73_6 aggN_71 (by decide) l sz i off
theorem fP_73_6 (y : AV) (off : Nat) : evalFieldAddr Try.prog 73 6 (.ptr y off) = some (.ptr y (off + 6)) := fieldAddr_ptr _ fieldOf_73_6 aggN_71 (by decide) y off
theorem fd_73_6 (x : AV) : evalField Try.prog 73 6 x = partA 6 7 x := field_agg' fieldOf_73_6 aggN_71 x
theorem lay_73 : layOf Try.prog 73 = some ([.val (.int .i64 0), .val (.int .i64 0), .val (.int .i64 0), .val (.int .i64 0), .val (.slice none 0 0), .val (.slice none 0 0), .val (.int .i64 0), .val (.int .i64 0), .val (.string ⟨#[]⟩), .val (.int .i64 0), .val (.int .i64 0), .val (.int .i64 0), .val (.int .i64 0)], .str [(0, 1), (1, 1), (2, 1), (3, 1), (4, 1), (5, 1), (6, 7)]) := by kernel_rfl
theorem bd_73 (parts : List (Nat × AV)) : evalBuild Try.prog 73 parts = (fillA (fun i => [(0, 1), (1, 1), (2, 1), (3, 1), (4, 1), (5, 1), (6, 7)][i]?) [.val (.int .i64 0), .val (.int .i64 0), .val (.int .i64 0), .val (.int .i64 0), .val (.slice none 0 0), .val (.slice none 0 0), .val (.int .i64 0), .val (.int .i64 0), .val (.string ⟨#[]⟩), .val (.int .i64 0), .val (.int .i64 0), .val (.int .i64 0), .val (.int .i64 0)] parts).map .agg := by simp only [evalBuild, lay_73]; rfl
theorem ld_76 (y : AV) (off : Nat) : evalLd Try.prog 76 y off = ldOne y off := ld_one _ aggN_76 y off
theorem st_76 (V : Nat → Option AO) (l sz i off : Nat) (v : AV) : evalStore Try.prog 76 V (.loc l sz i off) v = if hasSize v 1 = true then (rowT (V l) sz i).bind fun p => (stAV p.2.2 off v).map fun x' => [(l, some (.row p.1 sz (p.2.1.set i x')))] else none := store_loc _ aggN_76 V l sz i off v
theorem bx_76 (x : Operand) (V : Nat → Option AO) (new : Nat) (ρ : Operand → AV) : evalOp Try.prog (.box 76 x) V new ρ = if hasSize (ρ x) 1 = true then some (.loc new 1 0 0, [(new, some (.row 76 1 [ρ x]))]) else none := by rw [E_box, aggN_76, boxK_some]
theorem ld_83 (y : AV) (off : Nat) : evalLd Try.prog 83 y off = ldAgg y off 3 := ld_agg _ aggN_83 y off
theorem st_83 (V : Nat → Option AO) (l sz i off : Nat) (v : AV) : evalStore Try.prog 83 V (.loc l sz i off) v = if hasSize v 3 = true then (rowT (V l) sz i).bind fun p => (stAV p.2.2 off v).map fun x' => [(l, some (.row p.1 sz (p.2.1.set i x')))] else none := store_loc _ aggN_83 V l sz i off v
theorem bx_83 (x : Operand) (V : Nat → Option AO) (new : Nat) (ρ : Operand → AV) : evalOp Try.prog (.box 83 x) V new ρ = if hasSize (ρ x) 3 = true then some (.loc new 3 0 0, [(new, some (.row 83 3 [ρ x]))]) else none := by rw [E_box, aggN_83, boxK_some]
theorem al_83 (V : Nat → Option AO) (new : Nat) (ρ : Operand → AV) : evalOp Try.prog (.alloc 83) V new ρ = some (.loc new 3 0 0, [(new, some (.row 83 3 [.agg [.val (.int .i64 0), .val (.int .i64 0), .val (.string ⟨#[]⟩)]]))]) := by rw [E_alloc, aggN_83, zero_83, allocK_some]; rfl
theorem fL_83_0 (l sz i off : Nat) : evalFieldAddr Try.prog 83 0 (.loc l sz i off) = some (.loc l sz i (off + 0)) := fieldAddr_loc _ fieldOf_83_0 aggN_3 (by decide) l sz i off
theorem fP_83_0 (y : AV) (off : Nat) : evalFieldAddr Try.prog 83 0 (.ptr y off) = some (.ptr y (off + 0)) := fieldAddr_ptr _ fieldOf_83_0 aggN_3 (by decide) y off
theorem fd_83_0 (x : AV) : evalField Try.prog 83 0 x = partO 0 x := field_one fieldOf_83_0 aggN_3 x
theorem fL_83_1 (l sz i off : Nat) : evalFieldAddr Try.prog 83 1 (.loc l sz i off) = some (.loc l sz i (off + 1)) := fieldAddr_loc _ fieldOf_83_1 aggN_3 (by decide) l sz i off
theorem fP_83_1 (y : AV) (off : Nat) : evalFieldAddr Try.prog 83 1 (.ptr y off) = some (.ptr y (off + 1)) := fieldAddr_ptr _ fieldOf_83_1 aggN_3 (by decide) y off
theorem fd_83_1 (x : AV) : evalField Try.prog 83 1 x = partO 1 x := field_one fieldOf_83_1 aggN_3 x
theorem fL_83_2 (l sz i off : Nat) : evalFieldAddr Try.prog 83 2 (.loc l sz i off) = some (.loc l sz i (off + 2)) := fieldAddr_loc _ fieldOf_83_2 aggN_9 (by decide) l sz i off
theorem fP_83_2 (y : AV) (off : Nat) : evalFieldAddr Try.prog 83 2 (.ptr y off) = some (.ptr y (off + 2)) := fieldAddr_ptr _ fieldOf_83_2 aggN_9 (by decide) y off
theorem fd_83_2 (x : AV) : evalField Try.prog 83 2 x = partO 2 x := field_one fieldOf_83_2 aggN_9 x
theorem lay_83 : layOf Try.prog 83 = some ([.val (.int .i64 0), .val (.int .i64 0), .val (.string ⟨#[]⟩)], .str [(0, 1), (1, 1), (2, 1)]) := by kernel_rfl
theorem bd_83 (parts : List (Nat × AV)) : evalBuild Try.prog 83 parts = (fillA (fun i => [(0, 1), (1, 1), (2, 1)][i]?) [.val (.int .i64 0), .val (.int .i64 0), .val (.string ⟨#[]⟩)] parts).map .agg := by simp only [evalBuild, lay_83]; rfl
theorem ld_110 (y : AV) (off : Nat) : evalLd Try.prog 110 y off = ldOne y off := ld_one _ aggN_110 y off
theorem st_110 (V : Nat → Option AO) (l sz i off : Nat) (v : AV) : evalStore Try.prog 110 V (.loc l sz i off) v = if hasSize v 1 = true then (rowT (V l) sz i).bind fun p => (stAV p.2.2 off v).map fun x' => [(l, some (.row p.1 sz (p.2.1.set i x')))] else none := store_loc _ aggN_110 V l sz i off v
theorem bx_110 (x : Operand) (V : Nat → Option AO) (new : Nat) (ρ : Operand → AV) : evalOp Try.prog (.box 110 x) V new ρ = if hasSize (ρ x) 1 = true then some (.loc new 1 0 0, [(new, some (.row 110 1 [ρ x]))]) else none := by rw [E_box, aggN_110, boxK_some]
end Go.Proofs.Ytlgikchfddhocaa.AL

