/- What of the attributes of any stack, and of any node, may not be, is what the document says: part 26 of 46. -/
import Derived.Test.YtlgikchfddhocaaB25
set_option linter.all false
/- AL: the evaluator's rules with the facts of this seat's types, printed by rules.py. -/
set_option linter.unusedSimpArgs false
set_option linter.unusedVariables false
namespace Go.Proofs.Ytlgikchfddhocaa.AL
open Go Go.Proofs
set_option maxRecDepth 100000
theorem mixed : Try.prog.follows .mixedOrders = true := by kernel_rfl
theorem zero_2 : zeroOf Try.prog 2 = some (.val (.int .i64 0)) := by kernel_rfl
theorem zero_3 : zeroOf Try.prog 3 = some (.val (.int .i64 0)) := by kernel_rfl
theorem zero_4 : zeroOf Try.prog 4 = some (.val (.bool false)) := by kernel_rfl
theorem zero_5 : zeroOf Try.prog 5 = some (.val (.int .u8 0)) := by kernel_rfl
theorem zero_9 : zeroOf Try.prog 9 = some (.val (.string ⟨#[]⟩)) := by kernel_rfl
theorem zero_21 : zeroOf Try.prog 21 = some (.val (.int .i32 0)) := by kernel_rfl
theorem zero_25 : zeroOf Try.prog 25 = some (.val (.slice none 0 0)) := by kernel_rfl
theorem zero_30 : zeroOf Try.prog 30 = some (.val (.slice none 0 0)) := by kernel_rfl
theorem zero_59 : zeroOf Try.prog 59 = some (.agg [.val (.int .u8 0), .val (.int .u8 0), .val (.int .u8 0), .val (.int .u8 0), .val (.int .u8 0), .val (.int .u8 0), .val (.int .u8 0), .val (.int .u8 0), .val (.int .u8 0), .val (.int .u8 0), .val (.int .u8 0), .val (.int .u8 0), .val (.int .u8 0), .val (.int .u8 0)]) := by kernel_rfl
theorem ld_1 (y : AV) (off : Nat) : evalLd Try.prog 1 y off = ldOne y off := ld_one _ aggN_1 y off
theorem st_1 (V : Nat → Option AO) (l sz i off : Nat) (v : AV) : evalStore Try.prog 1 V (.loc l sz i off) v = if hasSize v 1 = true then (rowT (V l) sz i).bind fun p => (stAV p.2.2 off v).map fun x' => [(l, some (.row p.1 sz (p.2.1.set i x')))] else none := store_loc _ aggN_1 V l sz i off v
theorem bx_1 (x : Operand) (V : Nat → Option AO) (new : Nat) (ρ : Operand → AV) : evalOp Try.prog (.box 1 x) V new ρ = if hasSize (ρ x) 1 = true then some (.loc new 1 0 0, [(new, some (.row 1 1 [ρ x]))]) else none := by rw [E_box, aggN_1, boxK_some]
theorem ld_2 (y : AV) (off : Nat) : evalLd Try.prog 2 y off = ldOne y off := ld_one _ aggN_2 y off
theorem st_2 (V : Nat → Option AO) (l sz i off : Nat) (v : AV) : evalStore Try.prog 2 V (.loc l sz i off) v = if hasSize v 1 = true then (rowT (V l) sz i).bind fun p => (stAV p.2.2 off v).map fun x' => [(l, some (.row p.1 sz (p.2.1.set i x')))] else none := store_loc _ aggN_2 V l sz i off v
theorem bx_2 (x : Operand) (V : Nat → Option AO) (new : Nat) (ρ : Operand → AV) : evalOp Try.prog (.box 2 x) V new ρ = if hasSize (ρ x) 1 = true then some (.loc new 1 0 0, [(new, some (.row 2 1 [ρ x]))]) else none := by rw [E_box, aggN_2, boxK_some]
theorem al_2 (V : Nat → Option AO) (new : Nat) (ρ : Operand → AV) : evalOp Try.prog (.alloc 2) V new ρ = some (.loc new 1 0 0, [(new, some (.row 2 1 [.val (.int .i64 0)]))]) := by rw [E_alloc, aggN_2, zero_2, allocK_some]; rfl
theorem ld_3 (y : AV) (off : Nat) : evalLd Try.prog 3 y off = ldOne y off := ld_one _ aggN_3 y off
theorem st_3 (V : Nat → Option AO) (l sz i off : Nat) (v : AV) : evalStore Try.prog 3 V (.loc l sz i off) v = if hasSize v 1 = true then (rowT (V l) sz i).bind fun p => (stAV p.2.2 off v).map fun x' => [(l, some (.row p.1 sz (p.2.1.set i x')))] else none := store_loc _ aggN_3 V l sz i off v
theorem bx_3 (x : Operand) (V : Nat → Option AO) (new : Nat) (ρ : Operand → AV) : evalOp Try.prog (.box 3 x) V new ρ = if hasSize (ρ x) 1 = true then some (.loc new 1 0 0, [(new, some (.row 3 1 [ρ x]))]) else none := by rw [E_box, aggN_3, boxK_some]
theorem al_3 (V : Nat → Option AO) (new : Nat) (ρ : Operand → AV) : evalOp Try.prog (.alloc 3) V new ρ = some (.loc new 1 0 0, [(new, some (.row 3 1 [.val (.int .i64 0)]))]) := by rw [E_alloc, aggN_3, zero_3, allocK_some]; rfl
theorem ld_4 (y : AV) (off : Nat) : evalLd Try.prog 4 y off = ldOne y off := ld_one _ aggN_4 y off
theorem st_4 (V : Nat → Option AO) (l sz i off : Nat) (v : AV) : evalStore Try.prog 4 V (.loc l sz i off) v = if hasSize v 1 = true then (rowT (V l) sz i).bind fun p => (stAV p.2.2 off v).map fun x' => [(l, some (.row p.1 sz (p.2.1.set i x')))] else none := store_loc _ aggN_4 V l sz i off v
theorem bx_4 (x : Operand) (V : Nat → Option AO) (new : Nat) (ρ : Operand → AV) : evalOp Try.prog (.box 4 x) V new ρ = if hasSize (ρ x) 1 = true then some (.loc new 1 0 0, [(new, some (.row 4 1 [ρ x]))]) else none := by rw [E_box, aggN_4, boxK_some]
theorem al_4 (V : Nat → Option AO) (new : Nat) (ρ : Operand → AV) : evalOp Try.prog (.alloc 4) V new ρ = some (.loc new 1 0 0, [(new, some (.row 4 1 [.val (.bool false)]))]) := by rw [E_alloc, aggN_4, zero_4, allocK_some]; rfl
theorem bq_4 (a b : Bool) : binK Try.prog .eql 4 (bool a) (bool b) = brR (a == b) := bool_eql kindOf_4 a b
theorem bn_4 (a b : Bool) : binK Try.prog .neq 4 (bool a) (bool b) = brR (!(a == b)) := bool_neq kindOf_4 a b
theorem ld_5 (y : AV) (off : Nat) : evalLd Try.prog 5 y off = ldOne y off := ld_one _ aggN_5 y off
theorem st_5 (V : Nat → Option AO) (l sz i off : Nat) (v : AV) : evalStore Try.prog 5 V (.loc l sz i off) v = if hasSize v 1 = true then (rowT (V l) sz i).bind fun p => (stAV p.2.2 off v).map fun x' => [(l, some (.row p.1 sz (p.2.1.set i x')))] else none := store_loc _ aggN_5 V l sz i off v
theorem bx_5 (x : Operand) (V : Nat → Option AO) (new : Nat) (ρ : Operand → AV) : evalOp Try.prog (.box 5 x) V new ρ = if hasSize (ρ x) 1 = true then some (.loc new 1 0 0, [(new, some (.row 5 1 [ρ x]))]) else none := by rw [E_box, aggN_5, boxK_some]
theorem al_5 (V : Nat → Option AO) (new : Nat) (ρ : Operand → AV) : evalOp Try.prog (.alloc 5) V new ρ = some (.loc new 1 0 0, [(new, some (.row 5 1 [.val (.int .u8 0)]))]) := by rw [E_alloc, aggN_5, zero_5, allocK_some]; rfl
theorem ld_9 (y : AV) (off : Nat) : evalLd Try.prog 9 y off = ldOne y off := ld_one _ aggN_9 y off
theorem st_9 (V : Nat → Option AO) (l sz i off : Nat) (v : AV) : evalStore Try.prog 9 V (.loc l sz i off) v = if hasSize v 1 = true then (rowT (V l) sz i).bind fun p => (stAV p.2.2 off v).map fun x' => [(l, some (.row p.1 sz (p.2.1.set i x')))] else none := store_loc _ aggN_9 V l sz i off v
theorem bx_9 (x : Operand) (V : Nat → Option AO) (new : Nat) (ρ : Operand → AV) : evalOp Try.prog (.box 9 x) V new ρ = if hasSize (ρ x) 1 = true then some (.loc new 1 0 0, [(new, some (.row 9 1 [ρ x]))]) else none := by rw [E_box, aggN_9, boxK_some]
theorem al_9 (V : Nat → Option AO) (new : Nat) (ρ : Operand → AV) : evalOp Try.prog (.alloc 9) V new ρ = some (.loc new 1 0 0, [(new, some (.row 9 1 [.val (.string ⟨#[]⟩)]))]) := by rw [E_alloc, aggN_9, zero_9, allocK_some]; rfl
theorem lB_9 (s : ByteArray) : evalLen Try.prog 9 (.val (.string s)) = some (int s.size) := len_str _ kindOf_9 s
theorem iB_9 (s : ByteArray) (k : IntKind) (n : Int) : evalIndex Try.prog 9 (.val (.string s)) (.val (.int k n)) = if 0 ≤ n then (s[n.toNat]?).map fun b => u8 b else none := index_str _ kindOf_9 s k n
theorem ld_21 (y : AV) (off : Nat) : evalLd Try.prog 21 y off = ldOne y off := ld_one _ aggN_21 y off
theorem st_21 (V : Nat → Option AO) (l sz i off : Nat) (v : AV) : evalStore Try.prog 21 V (.loc l sz i off) v = if hasSize v 1 = true then (rowT (V l) sz i).bind fun p => (stAV p.2.2 off v).map fun x' => [(l, some (.row p.1 sz (p.2.1.set i x')))] else none := store_loc _ aggN_21 V l sz i off v
theorem bx_21 (x : Operand) (V : Nat → Option AO) (new : Nat) (ρ : Operand → AV) : evalOp Try.prog (.box 21 x) V new ρ = if hasSize (ρ x) 1 = true then some (.loc new 1 0 0, [(new, some (.row 21 1 [ρ x]))]) else none := by rw [E_box, aggN_21, boxK_some]
theorem al_21 (V : Nat → Option AO) (new : Nat) (ρ : Operand → AV) : evalOp Try.prog (.alloc 21) V new ρ = some (.loc new 1 0 0, [(new, some (.row 21 1 [.val (.int .i32 0)]))]) := by rw [E_alloc, aggN_21, zero_21, allocK_some]; rfl
theorem ld_25 (y : AV) (off : Nat) : evalLd Try.prog 25 y off = ldOne y off := ld_one _ aggN_25 y off
theorem st_25 (V : Nat → Option AO) (l sz i off : Nat) (v : AV) : evalStore Try.prog 25 V (.loc l sz i off) v = if hasSize v 1 = true then (rowT (V l) sz i).bind fun p => (stAV p.2.2 off v).map fun x' => [(l, some (.row p.1 sz (p.2.1.set i x')))] else none := store_loc _ aggN_25 V l sz i off v
theorem bx_25 (x : Operand) (V : Nat → Option AO) (new : Nat) (ρ : Operand → AV) : evalOp Try.prog (.box 25 x) V new ρ = if hasSize (ρ x) 1 = true then some (.loc new 1 0 0, [(new, some (.row 25 1 [ρ x]))]) else none := by rw [E_box, aggN_25, boxK_some]
theorem al_25 (V : Nat → Option AO) (new : Nat) (ρ : Operand → AV) : evalOp Try.prog (.alloc 25) V new ρ = some (.loc new 1 0 0, [(new, some (.row 25 1 [.val (.slice none 0 0)]))]) := by rw [E_alloc, aggN_25, zero_25, allocK_some]; rfl
theorem iS_25 (xs : List AV) (k : IntKind) (n : Int) : evalIndexAddr Try.prog 25 (.sl 1 xs) (.val (.int k n)) = if 0 ≤ n then (xs[n.toNat]?).map fun z => .ptr z 0 else none := indexAddr_sl _ elemOfT_25 aggN_5 xs k n
theorem iM_25 (l len : Nat) (k : IntKind) (n : Int) : evalIndexAddr Try.prog 25 (.msl l len) (.val (.int k n)) = if 0 ≤ n ∧ n < len then some (.loc l 1 n.toNat 0) else none := indexAddr_msl _ elemOfT_25 aggN_5 l len k n
theorem ap_25 (V : Nat → Option AO) (s x : AV) (new : Nat) : evalAppend Try.prog 25 V s x new = appK 1 5 1 new (oldsOf V s 5 1) (newsOf V x 1) := append_eq _ V elemOfT_25 aggN_5 bytesOfT_5 zero_5 rfl s x new
theorem mk_25 (ka kb : IntKind) (a c : Int) (new : Nat) : evalMakeSlice Try.prog 25 (.val (.int ka a)) (.val (.int kb c)) new = if 0 ≤ a ∧ a ≤ c ∧ (1 : Int) * c ≤ 281474976710656 ∧ c ≤ 9223372036854775807 then some (.msl new a.toNat, [(new, some (.row 5 1 (List.replicate a.toNat (.val (.int .u8 0)))))]) else none := by have h := makeSlice_eq _ elemOfT_25 aggN_5 bytesOfT_5 zero_5 rfl ka kb a c new; exact h
theorem bS_25 (len : Nat) (parts : Array (Nat × Operand)) (V : Nat → Option AO) (new : Nat) (ρ : Operand → AV) : evalOp Try.prog (.buildSlice 25 len parts) V new ρ = if len * 1 ≤ 16777216 then (setsA 1 (List.replicate len (.val (.int .u8 0))) (parts.toList.map fun p => (p.1, ρ p.2))).map fun xs => (.msl new len, [(new, some (.row 5 1 xs))]) else none := by rw [E_buildSlice _ _ _ _ 25 len parts 5 elemOfT_25, aggN_5, zero_5, buildSliceK]; simp [hasSize, AV.one, Value.oneCell']
theorem lS_25 (sz : Nat) (xs : List AV) : evalLen Try.prog 25 (.sl sz xs) = some (int xs.length) := len_sl _ elemOfT_25 sz xs
theorem lM_25 (l n : Nat) : evalLen Try.prog 25 (.msl l n) = some (int n) := len_msl _ elemOfT_25 l n
theorem lN_25  : evalLen Try.prog 25 nilS = some (int 0) := len_nil _ elemOfT_25
theorem l0_25  : evalLen Try.prog 25 .e0 = some (int 0) := len_e0 _ elemOfT_25
theorem ld_30 (y : AV) (off : Nat) : evalLd Try.prog 30 y off = ldOne y off := ld_one _ aggN_30 y off
theorem st_30 (V : Nat → Option AO) (l sz i off : Nat) (v : AV) : evalStore Try.prog 30 V (.loc l sz i off) v = if hasSize v 1 = true then (rowT (V l) sz i).bind fun p => (stAV p.2.2 off v).map fun x' => [(l, some (.row p.1 sz (p.2.1.set i x')))] else none := store_loc _ aggN_30 V l sz i off v
theorem bx_30 (x : Operand) (V : Nat → Option AO) (new : Nat) (ρ : Operand → AV) : evalOp Try.prog (.box 30 x) V new ρ = if hasSize (ρ x) 1 = true then some (.loc new 1 0 0, [(new, some (.row 30 1 [ρ x]))]) else none := by rw [E_box, aggN_30, boxK_some]
theorem al_30 (V : Nat → Option AO) (new : Nat) (ρ : Operand → AV) : evalOp Try.prog (.alloc 30) V new ρ = some (.loc new 1 0 0, [(new, some (.row 30 1 [.val (.slice none 0 0)]))]) := by rw [E_alloc, aggN_30, zero_30, allocK_some]; rfl
theorem iS_30 (xs : List AV) (k : IntKind) (n : Int) : evalIndexAddr Try.prog 30 (.sl 1 xs) (.val (.int k n)) = if 0 ≤ n then (xs[n.toNat]?).map fun z => .ptr z 0 else none := indexAddr_sl _ elemOfT_30 aggN_9 xs k n
theorem iM_30 (l len : Nat) (k : IntKind) (n : Int) : evalIndexAddr Try.prog 30 (.msl l len) (.val (.int k n)) = if 0 ≤ n ∧ n < len then some (.loc l 1 n.toNat 0) else none := indexAddr_msl _ elemOfT_30 aggN_9 l len k n
theorem ap_30 (V : Nat → Option AO) (s x : AV) (new : Nat) : evalAppend Try.prog 30 V s x new = appK 16 9 1 new (oldsOf V s 9 1) (newsOf V x 1) := append_eq _ V elemOfT_30 aggN_9 bytesOfT_9 zero_9 rfl s x new
theorem mk_30 (ka kb : IntKind) (a c : Int) (new : Nat) : evalMakeSlice Try.prog 30 (.val (.int ka a)) (.val (.int kb c)) new = if 0 ≤ a ∧ a ≤ c ∧ (16 : Int) * c ≤ 281474976710656 ∧ c ≤ 9223372036854775807 then some (.msl new a.toNat, [(new, some (.row 9 1 (List.replicate a.toNat (.val (.string ⟨#[]⟩)))))]) else none := by have h := makeSlice_eq _ elemOfT_30 aggN_9 bytesOfT_9 zero_9 rfl ka kb a c new; exact h
theorem bS_30 (len : Nat) (parts : Array (Nat × Operand)) (V : Nat → Option AO) (new : Nat) (ρ : Operand → AV) : evalOp Try.prog (.buildSlice 30 len parts) V new ρ = if len * 1 ≤ 16777216 then (setsA 1 (List.replicate len (.val (.string ⟨#[]⟩))) (parts.toList.map fun p => (p.1, ρ p.2))).map fun xs => (.msl new len, [(new, some (.row 9 1 xs))]) else none := by rw [E_buildSlice _ _ _ _ 30 len parts 9 elemOfT_30, aggN_9, zero_9, buildSliceK]; simp [hasSize, AV.one, Value.oneCell']
theorem lS_30 (sz : Nat) (xs : List AV) : evalLen Try.prog 30 (.sl sz xs) = some (int xs.length) := len_sl _ elemOfT_30 sz xs
theorem lM_30 (l n : Nat) : evalLen Try.prog 30 (.msl l n) = some (int n) := len_msl _ elemOfT_30 l n
theorem lN_30  : evalLen Try.prog 30 nilS = some (int 0) := len_nil _ elemOfT_30
theorem l0_30  : evalLen Try.prog 30 .e0 = some (int 0) := len_e0 _ elemOfT_30
theorem ld_57 (y : AV) (off : Nat) : evalLd Try.prog 57 y off = ldOne y off := ld_one _ aggN_57 y off
theorem st_57 (V : Nat → Option AO) (l sz i off : Nat) (v : AV) : evalStore Try.prog 57 V (.loc l sz i off) v = if hasSize v 1 = true then (rowT (V l) sz i).bind fun p => (stAV p.2.2 off v).map fun x' => [(l, some (.row p.1 sz (p.2.1.set i x')))] else none := store_loc _ aggN_57 V l sz i off v
theorem bx_57 (x : Operand) (V : Nat → Option AO) (new : Nat) (ρ : Operand → AV) : evalOp Try.prog (.box 57 x) V new ρ = if hasSize (ρ x) 1 = true then some (.loc new 1 0 0, [(new, some (.row 57 1 [ρ x]))]) else none := by rw [E_box, aggN_57, boxK_some]
theorem ld_59 (y : AV) (off : Nat) : evalLd Try.prog 59 y off = ldAgg y off 14 := ld_agg _ aggN_59 y off
theorem st_59 (V : Nat → Option AO) (l sz i off : Nat) (v : AV) : evalStore Try.prog 59 V (.loc l sz i off) v = if hasSize v 14 = true then (rowT (V l) sz i).bind fun p => (stAV p.2.2 off v).map fun x' => [(l, some (.row p.1 sz (p.2.1.set i x')))] else none := store_loc _ aggN_59 V l sz i off v
theorem bx_59 (x : Operand) (V : Nat → Option AO) (new : Nat) (ρ : Operand → AV) : evalOp Try.prog (.box 59 x) V new ρ = if hasSize (ρ x) 14 = true then some (.loc new 14 0 0, [(new, some (.row 59 14 [ρ x]))]) else none := by rw [E_box, aggN_59, boxK_some]
theorem al_59 (V : Nat → Option AO) (new : Nat) (ρ : Operand → AV) : evalOp Try.prog (.alloc 59) V new ρ = some (.loc new 14 0 0, [(new, some (.row 59 14 [.agg [.val (.int .u8 0), .val (.int .u8 0), .val (.int .u8 0), .val (.int .u8 0), .val (.int .u8 0), .val (.int .u8 0), .val (.int .u8 0), .val (.int .u8 0), .val (.int .u8 0), .val (.int .u8 0), .val (.int .u8 0), .val (.int .u8 0), .val (.int .u8 0), .val (.int .u8 0)]]))]) := by rw [E_alloc, aggN_59, zero_59, allocK_some]; rfl
theorem lay_59 : layOf Try.prog 59 = some ([.val (.int .u8 0), .val (.int .u8 0), .val (.int .u8 0), .val (.int .u8 0), .val (.int .u8 0), .val (.int .u8 0), .val (.int .u8 0), .val (.int .u8 0), .val (.int .u8 0), .val (.int .u8 0), .val (.int .u8 0), .val (.int .u8 0), .val (.int .u8 0), .val (.int .u8 0)], .arr 1) := by kernel_rfl
theorem bd_59 (parts : List (Nat × AV)) : evalBuild Try.prog 59 parts = (fillA (fun i => some (i * 1, 1)) [.val (.int .u8 0), .val (.int .u8 0), .val (.int .u8 0), .val (.int .u8 0), .val (.int .u8 0), .val (.int .u8 0), .val (.int .u8 0), .val (.int .u8 0), .val (.int .u8 0), .val (.int .u8 0), .val (.int .u8 0), .val (.int .u8 0), .val (.int .u8 0), .val (.int .u8 0)] parts).map .agg := by simp only [evalBuild, lay_59]; rfl
theorem iL_59 (l sz i off : Nat) (k : IntKind) (n : Int) : evalIndexAddr Try.prog 59 (.loc l sz i off) (.val (.int k n)) = if 0 ≤ n ∧ n < (14 : Nat) then some (.loc l sz i (off + n.toNat * 1)) else none := indexAddr_aloc _ elemOfT_59 arrOfT_59 aggN_5 l sz i off k n
theorem iP_59 (y : AV) (off : Nat) (k : IntKind) (n : Int) : evalIndexAddr Try.prog 59 (.ptr y off) (.val (.int k n)) = if 0 ≤ n ∧ n < (14 : Nat) then some (.ptr y (off + n.toNat * 1)) else none := indexAddr_aptr _ elemOfT_59 arrOfT_59 aggN_5 y off k n
end Go.Proofs.Ytlgikchfddhocaa.AL

