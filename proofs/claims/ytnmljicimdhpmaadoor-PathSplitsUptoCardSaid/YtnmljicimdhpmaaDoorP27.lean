/- A law of the given program is proved: part 27 of 36. -/
import Derived.Test.YtnmljicimdhpmaaDoorP26
set_option linter.all false
/- AL: the evaluator's rules with the facts of this seat's types, printed by rules.py. -/
set_option linter.unusedSimpArgs false
set_option linter.unusedVariables false
namespace Go.Proofs.YtnmljicimdhpmaaDoor.AL
open Go Go.Proofs
set_option maxRecDepth 100000
theorem mixed : Tryd.prog.follows .mixedOrders = true := by kernel_rfl
theorem zero_2 : zeroOf Tryd.prog 2 = some (.val (.int .i64 0)) := by kernel_rfl
theorem zero_3 : zeroOf Tryd.prog 3 = some (.val (.int .i64 0)) := by kernel_rfl
theorem zero_4 : zeroOf Tryd.prog 4 = some (.val (.bool false)) := by kernel_rfl
theorem zero_5 : zeroOf Tryd.prog 5 = some (.val (.int .u8 0)) := by kernel_rfl
theorem zero_9 : zeroOf Tryd.prog 9 = some (.val (.string ⟨#[]⟩)) := by kernel_rfl
theorem zero_21 : zeroOf Tryd.prog 21 = some (.val (.int .i32 0)) := by kernel_rfl
theorem zero_22 : zeroOf Tryd.prog 22 = some (.val (.slice none 0 0)) := by kernel_rfl
theorem ld_1 (y : AV) (off : Nat) : evalLd Tryd.prog 1 y off = ldOne y off := ld_one _ aggN_1 y off
theorem st_1 (V : Nat → Option AO) (l sz i off : Nat) (v : AV) : evalStore Tryd.prog 1 V (.loc l sz i off) v = if hasSize v 1 = true then (rowT (V l) sz i).bind fun p => (stAV p.2.2 off v).map fun x' => [(l, some (.row p.1 sz (p.2.1.set i x')))] else none := store_loc _ aggN_1 V l sz i off v
theorem bx_1 (x : Operand) (V : Nat → Option AO) (new : Nat) (ρ : Operand → AV) : evalOp Tryd.prog (.box 1 x) V new ρ = if hasSize (ρ x) 1 = true then some (.loc new 1 0 0, [(new, some (.row 1 1 [ρ x]))]) else none := by rw [E_box, aggN_1, boxK_some]
theorem ld_2 (y : AV) (off : Nat) : evalLd Tryd.prog 2 y off = ldOne y off := ld_one _ aggN_2 y off
theorem st_2 (V : Nat → Option AO) (l sz i off : Nat) (v : AV) : evalStore Tryd.prog 2 V (.loc l sz i off) v = if hasSize v 1 = true then (rowT (V l) sz i).bind fun p => (stAV p.2.2 off v).map fun x' => [(l, some (.row p.1 sz (p.2.1.set i x')))] else none := store_loc _ aggN_2 V l sz i off v
theorem bx_2 (x : Operand) (V : Nat → Option AO) (new : Nat) (ρ : Operand → AV) : evalOp Tryd.prog (.box 2 x) V new ρ = if hasSize (ρ x) 1 = true then some (.loc new 1 0 0, [(new, some (.row 2 1 [ρ x]))]) else none := by rw [E_box, aggN_2, boxK_some]
theorem al_2 (V : Nat → Option AO) (new : Nat) (ρ : Operand → AV) : evalOp Tryd.prog (.alloc 2) V new ρ = some (.loc new 1 0 0, [(new, some (.row 2 1 [.val (.int .i64 0)]))]) := by rw [E_alloc, aggN_2, zero_2, allocK_some]; rfl
theorem ld_3 (y : AV) (off : Nat) : evalLd Tryd.prog 3 y off = ldOne y off := ld_one _ aggN_3 y off
theorem st_3 (V : Nat → Option AO) (l sz i off : Nat) (v : AV) : evalStore Tryd.prog 3 V (.loc l sz i off) v = if hasSize v 1 = true then (rowT (V l) sz i).bind fun p => (stAV p.2.2 off v).map fun x' => [(l, some (.row p.1 sz (p.2.1.set i x')))] else none := store_loc _ aggN_3 V l sz i off v
theorem bx_3 (x : Operand) (V : Nat → Option AO) (new : Nat) (ρ : Operand → AV) : evalOp Tryd.prog (.box 3 x) V new ρ = if hasSize (ρ x) 1 = true then some (.loc new 1 0 0, [(new, some (.row 3 1 [ρ x]))]) else none := by rw [E_box, aggN_3, boxK_some]
theorem al_3 (V : Nat → Option AO) (new : Nat) (ρ : Operand → AV) : evalOp Tryd.prog (.alloc 3) V new ρ = some (.loc new 1 0 0, [(new, some (.row 3 1 [.val (.int .i64 0)]))]) := by rw [E_alloc, aggN_3, zero_3, allocK_some]; rfl
theorem ld_4 (y : AV) (off : Nat) : evalLd Tryd.prog 4 y off = ldOne y off := ld_one _ aggN_4 y off
theorem st_4 (V : Nat → Option AO) (l sz i off : Nat) (v : AV) : evalStore Tryd.prog 4 V (.loc l sz i off) v = if hasSize v 1 = true then (rowT (V l) sz i).bind fun p => (stAV p.2.2 off v).map fun x' => [(l, some (.row p.1 sz (p.2.1.set i x')))] else none := store_loc _ aggN_4 V l sz i off v
theorem bx_4 (x : Operand) (V : Nat → Option AO) (new : Nat) (ρ : Operand → AV) : evalOp Tryd.prog (.box 4 x) V new ρ = if hasSize (ρ x) 1 = true then some (.loc new 1 0 0, [(new, some (.row 4 1 [ρ x]))]) else none := by rw [E_box, aggN_4, boxK_some]
theorem al_4 (V : Nat → Option AO) (new : Nat) (ρ : Operand → AV) : evalOp Tryd.prog (.alloc 4) V new ρ = some (.loc new 1 0 0, [(new, some (.row 4 1 [.val (.bool false)]))]) := by rw [E_alloc, aggN_4, zero_4, allocK_some]; rfl
theorem bq_4 (a b : Bool) : binK Tryd.prog .eql 4 (bool a) (bool b) = brR (a == b) := bool_eql kindOf_4 a b
theorem bn_4 (a b : Bool) : binK Tryd.prog .neq 4 (bool a) (bool b) = brR (!(a == b)) := bool_neq kindOf_4 a b
theorem ld_5 (y : AV) (off : Nat) : evalLd Tryd.prog 5 y off = ldOne y off := ld_one _ aggN_5 y off
theorem st_5 (V : Nat → Option AO) (l sz i off : Nat) (v : AV) : evalStore Tryd.prog 5 V (.loc l sz i off) v = if hasSize v 1 = true then (rowT (V l) sz i).bind fun p => (stAV p.2.2 off v).map fun x' => [(l, some (.row p.1 sz (p.2.1.set i x')))] else none := store_loc _ aggN_5 V l sz i off v
theorem bx_5 (x : Operand) (V : Nat → Option AO) (new : Nat) (ρ : Operand → AV) : evalOp Tryd.prog (.box 5 x) V new ρ = if hasSize (ρ x) 1 = true then some (.loc new 1 0 0, [(new, some (.row 5 1 [ρ x]))]) else none := by rw [E_box, aggN_5, boxK_some]
theorem al_5 (V : Nat → Option AO) (new : Nat) (ρ : Operand → AV) : evalOp Tryd.prog (.alloc 5) V new ρ = some (.loc new 1 0 0, [(new, some (.row 5 1 [.val (.int .u8 0)]))]) := by rw [E_alloc, aggN_5, zero_5, allocK_some]; rfl
theorem ld_9 (y : AV) (off : Nat) : evalLd Tryd.prog 9 y off = ldOne y off := ld_one _ aggN_9 y off
theorem st_9 (V : Nat → Option AO) (l sz i off : Nat) (v : AV) : evalStore Tryd.prog 9 V (.loc l sz i off) v = if hasSize v 1 = true then (rowT (V l) sz i).bind fun p => (stAV p.2.2 off v).map fun x' => [(l, some (.row p.1 sz (p.2.1.set i x')))] else none := store_loc _ aggN_9 V l sz i off v
theorem bx_9 (x : Operand) (V : Nat → Option AO) (new : Nat) (ρ : Operand → AV) : evalOp Tryd.prog (.box 9 x) V new ρ = if hasSize (ρ x) 1 = true then some (.loc new 1 0 0, [(new, some (.row 9 1 [ρ x]))]) else none := by rw [E_box, aggN_9, boxK_some]
theorem al_9 (V : Nat → Option AO) (new : Nat) (ρ : Operand → AV) : evalOp Tryd.prog (.alloc 9) V new ρ = some (.loc new 1 0 0, [(new, some (.row 9 1 [.val (.string ⟨#[]⟩)]))]) := by rw [E_alloc, aggN_9, zero_9, allocK_some]; rfl
theorem lB_9 (s : ByteArray) : evalLen Tryd.prog 9 (.val (.string s)) = some (int s.size) := len_str _ kindOf_9 s
theorem iB_9 (s : ByteArray) (k : IntKind) (n : Int) : evalIndex Tryd.prog 9 (.val (.string s)) (.val (.int k n)) = if 0 ≤ n then (s[n.toNat]?).map fun b => u8 b else none := index_str _ kindOf_9 s k n
theorem ld_21 (y : AV) (off : Nat) : evalLd Tryd.prog 21 y off = ldOne y off := ld_one _ aggN_21 y off
theorem st_21 (V : Nat → Option AO) (l sz i off : Nat) (v : AV) : evalStore Tryd.prog 21 V (.loc l sz i off) v = if hasSize v 1 = true then (rowT (V l) sz i).bind fun p => (stAV p.2.2 off v).map fun x' => [(l, some (.row p.1 sz (p.2.1.set i x')))] else none := store_loc _ aggN_21 V l sz i off v
theorem bx_21 (x : Operand) (V : Nat → Option AO) (new : Nat) (ρ : Operand → AV) : evalOp Tryd.prog (.box 21 x) V new ρ = if hasSize (ρ x) 1 = true then some (.loc new 1 0 0, [(new, some (.row 21 1 [ρ x]))]) else none := by rw [E_box, aggN_21, boxK_some]
theorem al_21 (V : Nat → Option AO) (new : Nat) (ρ : Operand → AV) : evalOp Tryd.prog (.alloc 21) V new ρ = some (.loc new 1 0 0, [(new, some (.row 21 1 [.val (.int .i32 0)]))]) := by rw [E_alloc, aggN_21, zero_21, allocK_some]; rfl
theorem ld_22 (y : AV) (off : Nat) : evalLd Tryd.prog 22 y off = ldOne y off := ld_one _ aggN_22 y off
theorem st_22 (V : Nat → Option AO) (l sz i off : Nat) (v : AV) : evalStore Tryd.prog 22 V (.loc l sz i off) v = if hasSize v 1 = true then (rowT (V l) sz i).bind fun p => (stAV p.2.2 off v).map fun x' => [(l, some (.row p.1 sz (p.2.1.set i x')))] else none := store_loc _ aggN_22 V l sz i off v
theorem bx_22 (x : Operand) (V : Nat → Option AO) (new : Nat) (ρ : Operand → AV) : evalOp Tryd.prog (.box 22 x) V new ρ = if hasSize (ρ x) 1 = true then some (.loc new 1 0 0, [(new, some (.row 22 1 [ρ x]))]) else none := by rw [E_box, aggN_22, boxK_some]
theorem al_22 (V : Nat → Option AO) (new : Nat) (ρ : Operand → AV) : evalOp Tryd.prog (.alloc 22) V new ρ = some (.loc new 1 0 0, [(new, some (.row 22 1 [.val (.slice none 0 0)]))]) := by rw [E_alloc, aggN_22, zero_22, allocK_some]; rfl
theorem iS_22 (xs : List AV) (k : IntKind) (n : Int) : evalIndexAddr Tryd.prog 22 (.sl 1 xs) (.val (.int k n)) = if 0 ≤ n then (xs[n.toNat]?).map fun z => .ptr z 0 else none := indexAddr_sl _ elemOfT_22 aggN_9 xs k n
theorem iM_22 (l len : Nat) (k : IntKind) (n : Int) : evalIndexAddr Tryd.prog 22 (.msl l len) (.val (.int k n)) = if 0 ≤ n ∧ n < len then some (.loc l 1 n.toNat 0) else none := indexAddr_msl _ elemOfT_22 aggN_9 l len k n
theorem ap_22 (V : Nat → Option AO) (s x : AV) (new : Nat) : evalAppend Tryd.prog 22 V s x new = appK 16 9 1 new (oldsOf V s 9 1) (newsOf V x 1) := append_eq _ V elemOfT_22 aggN_9 bytesOfT_9 zero_9 rfl s x new
theorem mk_22 (ka kb : IntKind) (a c : Int) (new : Nat) : evalMakeSlice Tryd.prog 22 (.val (.int ka a)) (.val (.int kb c)) new = if 0 ≤ a ∧ a ≤ c ∧ (16 : Int) * c ≤ 281474976710656 ∧ c ≤ 9223372036854775807 then some (.msl new a.toNat, [(new, some (.row 9 1 (List.replicate a.toNat (.val (.string ⟨#[]⟩)))))]) else none := by have h := makeSlice_eq _ elemOfT_22 aggN_9 bytesOfT_9 zero_9 rfl ka kb a c new; exact h
theorem bS_22 (len : Nat) (parts : Array (Nat × Operand)) (V : Nat → Option AO) (new : Nat) (ρ : Operand → AV) : evalOp Tryd.prog (.buildSlice 22 len parts) V new ρ = if len * 1 ≤ 16777216 then (setsA 1 (List.replicate len (.val (.string ⟨#[]⟩))) (parts.toList.map fun p => (p.1, ρ p.2))).map fun xs => (.msl new len, [(new, some (.row 9 1 xs))]) else none := by rw [E_buildSlice _ _ _ _ 22 len parts 9 elemOfT_22, aggN_9, zero_9, buildSliceK]; simp [hasSize, AV.one, Value.oneCell']
theorem lS_22 (sz : Nat) (xs : List AV) : evalLen Tryd.prog 22 (.sl sz xs) = some (int xs.length) := len_sl _ elemOfT_22 sz xs
theorem lM_22 (l n : Nat) : evalLen Tryd.prog 22 (.msl l n) = some (int n) := len_msl _ elemOfT_22 l n
theorem lN_22  : evalLen Tryd.prog 22 nilS = some (int 0) := len_nil _ elemOfT_22
theorem l0_22  : evalLen Tryd.prog 22 .e0 = some (int 0) := len_e0 _ elemOfT_22
theorem ld_33 (y : AV) (off : Nat) : evalLd Tryd.prog 33 y off = ldOne y off := ld_one _ aggN_33 y off
theorem st_33 (V : Nat → Option AO) (l sz i off : Nat) (v : AV) : evalStore Tryd.prog 33 V (.loc l sz i off) v = if hasSize v 1 = true then (rowT (V l) sz i).bind fun p => (stAV p.2.2 off v).map fun x' => [(l, some (.row p.1 sz (p.2.1.set i x')))] else none := store_loc _ aggN_33 V l sz i off v
theorem bx_33 (x : Operand) (V : Nat → Option AO) (new : Nat) (ρ : Operand → AV) : evalOp Tryd.prog (.box 33 x) V new ρ = if hasSize (ρ x) 1 = true then some (.loc new 1 0 0, [(new, some (.row 33 1 [ρ x]))]) else none := by rw [E_box, aggN_33, boxK_some]
theorem ld_42 (y : AV) (off : Nat) : evalLd Tryd.prog 42 y off = ldOne y off := ld_one _ aggN_42 y off
theorem st_42 (V : Nat → Option AO) (l sz i off : Nat) (v : AV) : evalStore Tryd.prog 42 V (.loc l sz i off) v = if hasSize v 1 = true then (rowT (V l) sz i).bind fun p => (stAV p.2.2 off v).map fun x' => [(l, some (.row p.1 sz (p.2.1.set i x')))] else none := store_loc _ aggN_42 V l sz i off v
theorem bx_42 (x : Operand) (V : Nat → Option AO) (new : Nat) (ρ : Operand → AV) : evalOp Tryd.prog (.box 42 x) V new ρ = if hasSize (ρ x) 1 = true then some (.loc new 1 0 0, [(new, some (.row 42 1 [ρ x]))]) else none := by rw [E_box, aggN_42, boxK_some]
end Go.Proofs.YtnmljicimdhpmaaDoor.AL

